/-
  The evaluator PE and its soundness, part 4.
  Conditions: none.
-/
import Derived.Carry
import Derived.ChangeArms
import Derived.RowKit
import Derived.JoinedOf
import Derived.Test.YtmfiijdlhjajcaaGreatDoorE3
set_option linter.unusedVariables false
set_option linter.unusedSimpArgs false
namespace Go.PE
section
variable {P:Program} {tab:Tab} {N:NN} {w0:World} {F:FF} {S:Nat→Prop} {β:Lab→Value} {st:St} {a:Act} {w:World}
theorem Q99 (st:St):∀ (ts:List Nat) (t:Nat),Q9 (ts.map fun u=>(u,Q9 st.slots u)) t=.dead∨(t∈ts∧Q9 (ts.map fun u=>(u,Q9 st.slots u)) t=Q9 st.slots t)
 | [],t=>.inl rfl
 | u::r,t=>by
  rw [List.map_cons,Qk]
  by_cases h:u=t
  ·subst h;rw [if_pos rfl];exact .inr ⟨List.mem_cons_self ..,rfl⟩
  ·rw [if_neg h]
   rcases Q99 st r t with h1 | ⟨h1,h2⟩
   ·exact .inl h1
   ·exact .inr ⟨List.mem_cons_of_mem _ h1,h2⟩
theorem Qcn (st:St):∀ (ls:List Lab) (l:Lab),Q0 (ls.filterMap fun l=>(Q0 st.objs l).map fun b=>(l,b)) l=if l∈ls then Q0 st.objs l else none
 | [],l=>by simp [Q0]
 | m::r,l=>by
  rw [List.filterMap_cons]
  have ih:=Qcn st r l
  cases hm:Q0 st.objs m with
  | none=>
   simp only [Option.map_none]
   rw [ih]
   by_cases h:l=m
   ·subst h;rw [hm];simp
   ·simp [h]
  | some b=>
   simp only [Option.map_some]
   rw [Q3,ih]
   by_cases h:m=l
   ·subst h;rw [if_pos rfl,hm];simp
   ·rw [if_neg h]
    have h3:l≠m:=fun e=>h e.symm
    by_cases h2:l∈r<;>simp [h2,h3]
theorem Q24:∀ {ls:List Lab} {l:Lab},l∈Q4d ls↔l∈ls
 | [],l=>by simp [Q4d]
 | m::r,l=>by
  simp only [Q4d]
  cases hm:Xw m r with
  | true=>
   simp only [cond_true,List.mem_cons]
   rw [Q24]
   exact ⟨.inr,fun h=>h.elim (fun e=>e▸Q09.1 hm) id⟩
  | false=>
   simp only [cond_false,List.mem_cons]
   rw [Q24]
theorem Qdp {ts:List Nat} {l:Lab} (h:l∈Q8c st ts):(∃ t∈ts,l∈Qe (Q9 st.slots t))∨∃ m x,m∈Q8c st ts∧Q0 st.objs m=some x∧l∈Qz x:=by
 have h':=h
 unfold Q8c at h
 rw [Q24] at h
 rcases List.mem_append.1 h with h | h
 ·obtain ⟨t,ht,hl⟩:=List.mem_flatMap.1 h
  exact .inl ⟨t,ht,hl⟩
 ·obtain ⟨m,hm,hl⟩:=List.mem_flatMap.1 h
  split at hl
  ·rename_i x hx
   refine .inr ⟨m,x,?_,hx,hl⟩
   unfold Q8c
   rw [Q24]
   exact List.mem_append.2 (.inl hm)
  ·cases hl
theorem Qg5 {all:List Oper} {o:Oper} {l:Lab} (h:l∈Q7m st all o):(∃ t∈Xj all o,l∈Qe (Q9 st.slots t))∨∃ m x,m∈Q7m st all o∧Q0 st.objs m=some x∧l∈Qz x:=by
 unfold Q7m at h ⊢
 cases hm:Qcq o with
 | true=>rw [hm] at h;cases h
 | false=>
  rw [hm] at h
  simp only [cond_false] at h ⊢
  cases a:Qbm st o with
  | true=>
   rw [a] at h
   simp only [cond_true] at h
   rw [Q24] at h
   obtain ⟨t,ht,hl⟩:=List.mem_flatMap.1 h
   exact .inl ⟨t,ht,hl⟩
  | false=>rw [a] at h;exact Qdp h
theorem Qci {ls:List Lab} {l:Lab} (h:l∈Qgf st ls):∃ m x,m∈ls∧Q0 st.objs m=some x∧l∈Qz x:=by
 unfold Qgf at h
 obtain ⟨m,hm,hl⟩:=List.mem_flatMap.1 h
 split at hl
 ·rename_i x hx;exact ⟨m,x,hm,hx,hl⟩
 ·cases hl
theorem Q3x {ls:List Lab} {dst:Option Nat} {l:Lab} (h:within ls dst l=true):l∈ls∨dst=some l.1:=by
 unfold within at h
 rw [Bool.or_eq_true] at h
 rcases h with h | h
 ·exact .inl (Q09.1 h)
 ·cases dst with
  | none=>cases h
  | some d=>exact .inr (by rw [Z6.1 h])
theorem Qgq {all:List Oper} {dst:Option Nat} {s:St} {R:Type} {k:St→Option R} {a:R} (h:split all dst s k=some a) :
  ∃ s',k s'=some a∧(s'=s∨∃ d b,dst=some d∧Q9 s.slots d=.cv (.one (.pure .bool b))∧s'=Q2b s (some d) (.cv (.one (.lit b)))):=by
 unfold split at h
 cases dst with
 | none=>exact ⟨s,h,.inl rfl⟩
 | some d=>
  simp only at h
  cases hq:Q76 d (Qen all) with
  | false=>rw [hq] at h;exact ⟨s,h,.inl rfl⟩
  | true=>
   rw [hq] at h
   simp only [cond_true] at h
   split at h
   ·rename_i x hx
    cases hb:(show Bool from x) with
    | true=>
     have hb:x=true:=hb
     subst hb
     exact ⟨_,h,.inr ⟨d,true,rfl,hx,rfl⟩⟩
    | false=>
     have hb:x=false:=hb
     subst hb
     exact ⟨_,h,.inr ⟨d,false,rfl,hx,rfl⟩⟩
   ·exact ⟨s,h,.inl rfl⟩
theorem Rel.lit (h:Rel P tab.ty N w0 F S β st a w) {d:Nat} {b:Bool} (hd:Q9 st.slots d=.cv (.one (.pure .bool b))):Rel P tab.ty N w0 F S β (Q2b st (some d) (.cv (.one (.lit b)))) a w:=by
 refine ⟨h.sb,fun t=>?_,h.objs,h.excl,h.dist,h.fr,h.size,h.nodef,h.within,h.par⟩
 show Qf P tab.ty S β w (Q9 ((d,SV.cv (.one (.lit b)))::st.slots) t) _
 rw [Qk]
 split
 ·rename_i e;subst e
  have:=h.slots d
  rw [hd] at this
  exact List.singleton_inj.1 this
 ·exact h.slots t
def Qeh (P:Program) (tab:Tab) (N:NN) (bf:List Nat) (all:List Oper) (r:List Oper) (i:Nat) (ts:List Tr) (st:St) {R:Type} (k:St→Option R) (a:R):Prop:=
  ∃ (er:List En) (fin:St),er.map (·.o)=r∧k fin=some a∧∀ (ep:List En) (sl0:Nat→SV) (ob0:Lab→Option Ob),ep.length=i→(∀ t,Q9 st.slots t=Zd (fun _=>true) 0 ep sl0 t)→(∀ l,Q0 st.objs l=Zb (fun _=>true) 0 ep ob0 l) →
   (∀ n e,ep[n]?=some e→e.act=true→∃ x∈ts,x.i=n∧x.rd=e.ls∧x.wr=e.W) →
   (∀ j e,er[j]?=some e→Qhn P tab N bf all (ep++er) sl0 ob0 (i+j) e)∧(∀ t,Q9 fin.slots t=Zd (fun _=>true) 0 (ep++er) sl0 t)∧(∀ l,Q0 fin.objs l=Zb (fun _=>true) 0 (ep++er) ob0 l)
theorem Qbo {Γ:Ctx} (hΓ:Je tab.ty P Γ) (D:Qc P tab) {bf:List Nat} {all:List Oper} {R:Type} {k:St→Option R} {p:R}:∀ {r:List Oper} {i:Nat} {ts:List Tr} {st:St},
  (∀ o∈r,∀ d,o.dst=some d→okD N d)→Q9v Γ tab bf all r i ts st k=some p →
  Qeh P tab N bf all r i ts st k p
 | [],i,ts,st,hd,he=>⟨[],st,rfl,he,fun ep sl0 ob0 _ h1 h2 _=>⟨fun j e hj=>by simp at hj,by simpa using h1,by simpa using h2⟩⟩
 | o::r,i,ts,st,hd,he=>by
  have X:∀ o∈r,∀ d,o.dst=some d→okD N d:=fun o ho=>hd o (List.mem_cons_of_mem _ ho)
  have V:=hd o (List.mem_cons_self ..)
  have E:∀ (e:En) (B:St) (C:List Tr),e.o=o→Q9v Γ tab bf all r (i+1) C B k=some p →
    (∀ t,Q9 B.slots t=e.putSl (Q9 st.slots) t)→(∀ l,Q0 B.objs l=e.putOb (Q0 st.objs) l)→(∀ x∈ts,x∈C)→(e.act=true→∃ x∈C,x.i=i∧x.rd=e.ls∧x.wr=e.W) →
    (∀ (ep er:List En) (sl0:Nat→SV) (ob0:Lab→Option Ob),ep.length=i→(∀ t,Q9 st.slots t=Zd (fun i=>decide (i<ep.length)) 0 (ep++e::er) sl0 t)→(∀ l,Q0 st.objs l=Zb (fun i=>decide (i<ep.length)) 0 (ep++e::er) ob0 l) →
     (∀ n e,ep[n]?=some e→e.act=true→∃ x∈ts,x.i=n∧x.rd=e.ls∧x.wr=e.W)→Qhn P tab N bf all (ep++e::er) sl0 ob0 i e) →
    Qeh P tab N bf all (o::r) i ts st k p:=by
   intro e B C Y he hsl hob hts hte a3
   obtain ⟨er,fin,g1,g2,g3⟩:=Qbo hΓ D X he
   refine ⟨e::er,fin,by simp [Y,g1],g2,fun ep sl0 ob0 hl h1 h2 h3=>?_⟩
   have q:=g3 (ep++[e]) sl0 ob0 (by simp [hl]) (fun t=>by
    rw [hsl,Q3h]
    simp only [Zd,if_true]
    unfold En.putSl
    rw [h1]) (fun l=>by
    rw [hob,Q30]
    simp only [Zb,if_true]
    unfold En.putOb
    rw [h2]) (fun n e' hn ha=>by
     by_cases M:n<ep.length
     ·rw [List.getElem?_append_left M] at hn
      obtain ⟨x,hx,hr⟩:=h3 n e' hn ha
      exact ⟨x,hts x hx,hr⟩
     ·rw [List.getElem?_append_right (by omega)] at hn
      have a1:n - ep.length=0:=by
       rcases Nat.eq_zero_or_pos (n - ep.length) with h0 | h0
       ·exact h0
       ·rw [List.getElem?_eq_none (by simp;omega)] at hn;cases hn
      rw [a1] at hn
      have hn:=sI hn
      subst hn
      obtain ⟨x,hx,I,hr⟩:=hte ha
      exact ⟨x,hx,by rw [I];omega,hr⟩)
   rw [List.append_assoc,List.singleton_append] at q
   refine ⟨fun j e' hj=>?_,q.2.1,q.2.2⟩
   cases j with
   | zero=>
    have hj:=sI hj
    subst hj
    exact a3 ep er sl0 ob0 hl (fun t=>by rw [h1,Qe3]) (fun l=>by rw [h2,Qd8]) h3
   | succ j=>
    have:=q.1 j e' (by simpa using hj)
    rw [show i+1+j=i+(j+1) by omega] at this
    exact this
  have skip:Q9v Γ tab bf all r (i+1) ts (Q2b st o.dst .skip) k=some p→Q0s all (Q9 st.slots) o false→Qeh P tab N bf all (o::r) i ts st k p:=fun he hg=>
   E { o:=o,act:=false,ls:=[],W:=[],sub:=st,s:=st } (Q2b st o.dst .skip) ts rfl he (fun t=>by
    simp only [En.putSl,En.v]
    cases f:o.dst with
    | none=>simp [Q2b]
    | some d=>simp only [Q2b,Qk,Option.some.injEq]) (fun l=>by
    simp only [En.putOb]
    cases o.dst<;>simp [Q2b]) (fun x hx=>hx) (fun h=>by cases h) (fun ep er sl0 ob0 hl h1 h2 h3=>by
    have hsl:Zd (fun n=>decide (n<i)) 0 (ep++{ o:=o,act:=false,ls:=[],W:=[],sub:=st,s:=st }::er) sl0=Q9 st.slots:=by rw [← hl];funext t;exact (h1 t).symm
    refine ⟨by rw [hsl];exact hg,?_,?_,?_,?_,?_,?_,?_⟩<;>(intro h;cases h))
  have go:(Q47 Γ tab [] (Q9m st (Xj all o) (Q7m st all o)) o fun s W=>
     bif Qik bf ts { i:=i,rd:=Q7m st all o,wr:=W }&&Qej (Q7m st all o) (Qj0 st all o) (Qgf st (Q7m st all o)) o.dst s W then
     split all o.dst s fun s'=>Q9v Γ tab bf all r (i+1) ({ i:=i,rd:=Q7m st all o,wr:=W }::ts) (Qew st (Q7m st all o) W s' o.dst) k else none)=some p→Q0s all (Q9 st.slots) o true→Qeh P tab N bf all (o::r) i ts st k p:=fun he hg=>by
   obtain ⟨s0,W,hk,J,u⟩:=Qgc he
   generalize hls:Q7m st all o=ls at *
   cases hq:(Qik bf ts { i:=i,rd:=ls,wr:=W }&&Qej ls (Qj0 st all o) (Qgf st ls) o.dst s0 W) with
   | false=>simp only [hq] at hk;cases hk
   | true=>
    simp only [hq,cond_true] at hk
    rw [Bool.and_eq_true] at hq
    obtain ⟨a4,G⟩:=hq
    obtain ⟨s',hk,H⟩:=Qgq hk
    have y:s'.objs=s0.objs:=by
     rcases H with rfl | ⟨d,b,_,_,rfl⟩<;>rfl
    unfold Qej at G
    simp only [Bool.and_eq_true,List.all_eq_true] at G
    obtain ⟨⟨l1,l2⟩,l3⟩:=G
    have z:∀ l,Q0 (Q9m st (Xj all o) ls).objs l=if l∈ls then Q0 st.objs l else none:=fun l=>Qcn st ls l
    refine E { o:=o,act:=true,ls:=ls,W:=W,sub:=Q9m st (Xj all o) ls,s:=s' } (Qew st ls W s' o.dst) _ rfl hk (fun t=>?_) (fun l=>?_) (fun x hx=>List.mem_cons_of_mem _ hx) (fun _=>⟨_,List.mem_cons_self ..,rfl,rfl,rfl⟩) (fun ep er sl0 ob0 hl h1 h2 h3=>?_)
    ·simp only [En.putSl,En.v,Qew]
     cases f:o.dst with
     | none=>simp
     | some d=>simp only [List.singleton_append,Qk,Option.some.injEq]
    ·show Q0 (s'.objs++(PE.delAll st (ls++W)).objs) l=if true=true∧l∈W then Q0 s'.objs l else Q0 st.objs l
     rw [Q39,Zq]
     by_cases hW:l∈W
     ·rw [if_pos (show l∈ls++W from List.mem_append.2 (.inr hW)),if_pos (show true=true∧l∈W from ⟨rfl,hW⟩)]
      cases Q0 s'.objs l<;>rfl
     ·have e9:(if true=true∧l∈W then Q0 s'.objs l else Q0 st.objs l)=Q0 st.objs l:=if_neg (fun h=>hW h.2)
      rw [e9]
      have A:Q0 s'.objs l=if l∈ls then Q0 st.objs l else none:=by rw [y,u l hW,z]
      by_cases hm:l∈ls
      ·rw [if_pos hm] at A
       rw [A,if_pos (show l∈ls++W from List.mem_append.2 (.inl hm))]
       cases Q0 st.objs l<;>rfl
      ·rw [if_neg hm] at A
       rw [A,if_neg (show ¬ l∈ls++W from fun h=>(List.mem_append.1 h).elim hm hW)]
    ·have hsl:Zd (fun n=>decide (n<i)) 0 (ep++{ o:=o,act:=true,ls:=ls,W:=W,sub:=Q9m st (Xj all o) ls,s:=s' }::er) sl0=Q9 st.slots:=by rw [← hl];funext t;exact (h1 t).symm
     have hob:Zb (fun n=>decide (n<i)) 0 (ep++{ o:=o,act:=true,ls:=ls,W:=W,sub:=Q9m st (Xj all o) ls,s:=s' }::er) ob0=Q0 st.objs:=by rw [← hl];funext t;exact (h2 t).symm
     refine ⟨by rw [hsl];exact hg,fun _ t=>?_,fun _ l=>?_,fun _ l c=>?_,fun _=>?_,fun _ l Z=>?_,fun _=>⟨fun l c=>?_,fun l x hx=>?_,fun l c=>Q3x (l3 l c)⟩,fun _ n e' hn M ha=>?_⟩
     ·rw [hsl];exact Q99 st (Xj all o) t
     ·rw [hob];exact z l
     ·rw [hsl,hob]
      rw [← hls] at c
      rcases Qg5 c with h | ⟨m,x,hm,hx,a0⟩
      ·exact .inl h
      ·exact .inr ⟨m,x,by rw [← hls];exact hm,hx,a0⟩
     ·intro w0 F S β a w h Q K hK
      refine Qdz hΓ D J h V Q K (fun x w' S' β' g1 g2 g3=>hK x w' S' β' g1 g2 ?_)
      rcases H with rfl | ⟨d,b,_,O,rfl⟩
      ·exact g3
      ·exact g3.lit O
     ·show Q0 s'.objs l=_
      rw [y];exact u l Z
     ·simp only [En.v] at c
      cases f:o.dst with
      | none=>rw [f] at c;simp [Qe] at c
      | some d=>
       rw [f] at c l1
       rcases H with rfl | ⟨d',b,L,O,rfl⟩
       ·have:=List.all_eq_true.1 l1 l c
        rw [Bool.or_eq_true,Bool.or_eq_true] at this
        rcases this with h | h | h
        ·refine .inl (.inr ?_)
         rw [hsl]
         obtain ⟨t,ht,hl⟩:=List.mem_flatMap.1 (Q09.1 h)
         exact ⟨t,ht,hl⟩
        ·exact .inl (.inl (Q3x h))
        ·refine .inr ?_
         rw [hob]
         exact Qci (Q09.1 h)
       ·have e:d'=d:=by rw [f] at L;exact (sI L).symm
        subst e
        simp [Q2b,Qk,Qe,Q0w,Qw] at c
     ·have hx:Q0 s0.objs l=some x:=by rw [← y];exact hx
      have hp:=l2 (l,x) (Zn hx)
      exact ⟨Q3x hp.1,fun m hm=>by
       have:=hp.2 m hm
       rw [Bool.or_eq_true] at this
       rcases this with h | h
       ·exact .inl (Q3x h)
       ·refine .inr ?_
        rw [hob]
        exact Qci (Q09.1 h)⟩
     ·have a2:n<ep.length:=by omega
      rw [List.getElem?_append_left a2] at hn
      obtain ⟨x,hx,I,a5,T⟩:=h3 n e' hn ha
      have:=List.all_eq_true.1 a4 x hx
      rw [Bool.or_eq_true] at this
      rcases this with h | h
      ·exact .inl (by rw [← I];exact h)
      ·simp only [Bool.and_eq_true] at h
       refine .inr ⟨fun l hl=>?_,fun l hl=>?_,fun l hl=>?_⟩
       ·exact Q16 h.1.1 l (by rw [T];exact hl)
       ·exact Q16 h.1.2 l (by rw [T];exact hl)
       ·rw [← a5];exact Q16 h.2 l hl
  unfold Q9v at he
  cases hg:o.guard with
  | none=>
   simp only [hg] at he
   exact go he (by unfold Q0s;rw [hg])
  | some gw=>
   obtain ⟨g,U⟩:=gw
   simp only [hg] at he
   cases ht:(all[g]?).bind (·.dst) with
   | none=>simp only [ht] at he;cases he
   | some t=>
    simp only [ht] at he
    split at he
    ·rename_i hs
     exact skip he (by unfold Q0s;rw [hg];exact ⟨t,ht,.inl ⟨hs,rfl⟩⟩)
    ·rename_i b hs
     cases hb:(b==U) with
     | true=>
      simp only [hb,cond_true] at he
      exact go he (by unfold Q0s;rw [hg];exact ⟨t,ht,.inr ⟨b,hs,hb.symm⟩⟩)
     | false=>
      simp only [hb,cond_false] at he
      exact skip he (by unfold Q0s;rw [hg];exact ⟨t,ht,.inr ⟨b,hs,hb.symm⟩⟩)
    ·cases he
end
end Go.PE
namespace Go.PE
theorem Q6n {a:List Nat} {i:Nat}:∀ {es:List Edge} {s:Nat},(es.foldl (fun s e=>bif Region.binds .any e then s ||| 2 ^ e.on ||| a.getD e.on 0 else s) s).testBit i=true →
  s.testBit i=true∨∃ e∈es,Region.binds .any e=true∧(i=e.on∨(a.getD e.on 0).testBit i=true)
 | [],s,h=>.inl h
 | e::r,s,h=>by
  rw [List.foldl_cons] at h
  rcases Q6n h with h1 | ⟨e',b,h1⟩
  ·cases hb:Region.binds .any e with
   | false=>rw [hb] at h1;exact .inl h1
   | true=>
    rw [hb] at h1
    simp only [cond_true,Nat.testBit_or,Bool.or_eq_true,Nat.testBit_two_pow,decide_eq_true_eq] at h1
    rcases h1 with (h1 | h1) | h1
    ·exact .inl h1
    ·exact .inr ⟨e,List.mem_cons_self ..,hb,.inl h1.symm⟩
    ·exact .inr ⟨e,List.mem_cons_self ..,hb,.inr h1⟩
  ·exact .inr ⟨e',List.mem_cons_of_mem _ b,h1⟩
theorem Q4p:∀ (r:List Oper) (a:List Nat) (k:Nat),k<a.length→(Q21 r a).getD k 0=a.getD k 0
 | [],a,k,_=>rfl
 | o::r,a,k,h=>by
  simp only [Q21]
  rw [Q4p r _ k (by simp;omega),List.getD_eq_getElem?_getD,List.getD_eq_getElem?_getD,List.getElem?_append_left h]
theorem Q9l:∀ (r:List Oper) (a:List Nat) (j:Nat) (o:Oper),r[j]?=some o→∀ i,((Q21 r a).getD (a.length+j) 0).testBit i=true →
  ∃ e∈o.after.toList,Region.binds .any e=true∧(i=e.on∨((Q21 r a).getD e.on 0).testBit i=true)
 | [],a,j,o,hj,_,_=>by simp at hj
 | x::r,a,0,o,hj,i,h=>by
  have hj:=sI hj
  subst hj
  simp only [Q21] at h ⊢
  rw [Nat.add_zero,Q4p r _ a.length (by simp),List.getD_eq_getElem?_getD,List.getElem?_append_right (Nat.le_refl _)] at h
  simp only [Nat.sub_self,List.getElem?_cons_zero,Option.getD_some] at h
  unfold Qai at h
  rcases Q6n h with h1 | ⟨e,he,hb,h1⟩
  ·simp at h1
  ·refine ⟨e,he,hb,?_⟩
   rcases h1 with h1 | h1
   ·exact .inl h1
   ·refine .inr ?_
    have b:e.on<a.length:=by
     rcases Nat.lt_or_ge e.on a.length with hl | hl
     ·exact hl
     ·rw [List.getD_eq_getElem?_getD,List.getElem?_eq_none hl] at h1;simp at h1
    rw [Q4p r _ e.on (by simp;omega),List.getD_eq_getElem?_getD,List.getElem?_append_left b,← List.getD_eq_getElem?_getD]
    exact h1
 | x::r,a,j+1,o,hj,i,h=>by
  simp only [Q21] at h ⊢
  have:=Q9l r (a++[Qai a x.after.toList]) j o (by simpa using hj) i
  rw [List.length_append,List.length_singleton,show a.length+1+j=a.length+(j+1) by omega] at this
  exact this h
theorem Q9z {all:List Oper} {i j:Nat} {o:Oper} (hj:all[j]?=some o) (h:Q05 (Q21 all []) i j=true) :
  ∃ e∈o.after.toList,Region.binds .any e=true∧(i=e.on∨Q05 (Q21 all []) i e.on=true):=by
 have:=Q9l all [] j o hj i
 simp only [List.length_nil,Nat.zero_add] at this
 exact this h
theorem Q93 {bf:List Nat} {all:List Oper} (h:Q5o bf all=true) {i j:Nat} {x y:Oper} (hi:all[i]?=some x) (hj:all[j]?=some y) (c:i<j) :
  Q05 bf i j=true∨((∀ t,x.dst=some t→t ∉ Xj all y)∧(∀ t,y.dst=some t→t ∉ Xj all x)):=by
 unfold Q5o at h
 have hx:(x,i)∈all.zipIdx:=List.mem_zipIdx_iff_getElem?.2 hi
 have hy:(y,j)∈all.zipIdx:=List.mem_zipIdx_iff_getElem?.2 hj
 have h1:=List.all_eq_true.1 (List.all_eq_true.1 h (x,i) hx) (y,j) hy
 have hb:Nat.blt i j=true:=Q2.2 c
 simp only [hb,cond_true,Bool.or_eq_true] at h1
 rcases h1 with h1 | h1
 ·exact .inl h1
 ·refine .inr ?_
  unfold Q8z at h1
  simp only [Bool.and_eq_true] at h1
  have ap:∀ {a b:List Nat},Q5k a b=true→∀ t∈a,t ∉ b:=fun {a b} hab t ht=>by
   have:=List.all_eq_true.1 hab t ht
   rw [Bool.not_eq_true',← Bool.not_eq_true,Q27] at this
   exact this
  refine ⟨fun t ht=>ap h1.1.1 t (by simp [Zf,ht]),fun t ht=>ap h1.1.2 t (by simp [Zf,ht])⟩
theorem Q5b:∀ {l:List Nat},Q3q l=true→l.Nodup
 | [],_=>List.nodup_nil
 | t::r,h=>by
  simp only [Q3q,Bool.and_eq_true,Bool.not_eq_true'] at h
  refine List.nodup_cons.2 ⟨fun hm=>?_,Q5b h.2⟩
  rw [← Bool.not_eq_true,Q27] at h
  exact h.1 hm
theorem Qcg:∀ {all:List Oper},(all.flatMap Zf).Nodup→∀ {i j:Nat} {x y:Oper} {t:Nat},all[i]?=some x→all[j]?=some y→x.dst=some t→y.dst=some t→i=j
 | [],_,i,j,x,y,t,hi,_,_,_=>by simp at hi
 | o::r,h,i,j,x,y,t,hi,hj,hx,hy=>by
  rw [List.flatMap_cons,List.nodup_append] at h
  obtain ⟨_,h2,h3⟩:=h
  have inr:∀ {k:Nat} {z:Oper},r[k]?=some z→z.dst=some t→t∈r.flatMap Zf:=fun hk hz=>
   List.mem_flatMap.2 ⟨_,List.mem_of_getElem? hk,by simp [Zf,hz]⟩
  cases i with
  | zero=>
   cases j with
   | zero=>rfl
   | succ j=>
    have hi:=sI hi
    subst hi
    exact absurd rfl (h3 t (by simp [Zf,hx]) t (inr (by simpa using hj) hy))
  | succ i=>
   cases j with
   | zero=>
    have hj:=sI hj
    subst hj
    exact absurd rfl (h3 t (by simp [Zf,hy]) t (inr (by simpa using hi) hx))
   | succ j=>rw [Qcg h2 (i:=i) (j:=j) (by simpa using hi) (by simpa using hj) hx hy]
section
variable {P:Program} {tab:Tab} {N:NN} {w0:World} {F:FF} {S:Nat→Prop} {β:Lab→Value} {st:St} {a:Act} {w:World}
theorem Q1m {d:Nat} (h:Q8l st d=true):(∀ t,∀ l∈Qe (Q9 st.slots t),l.1≠d)∧∀ l x,Q0 st.objs l=some x→l.1≠d∧∀ m∈Qz x,m.1≠d:=by
 unfold Q8l at h
 simp only [Bool.and_eq_true,List.all_eq_true,Bool.not_eq_true'] at h
 refine ⟨fun t l hl=>?_,fun l x hx=>?_⟩
 ·by_cases hd:Q9 st.slots t=.dead
  ·rw [hd] at hl;simp [Qe] at hl
  ·obtain ⟨p,hp,a⟩:=Qcb rfl hd
   exact Z1.1 (h.2 p hp l (by rw [a];exact hl))
 ·have:=h.1 (l,x) (Zn hx)
  exact ⟨Z1.1 this.1,fun m hm=>Z1.1 (this.2 m hm)⟩
theorem Q9x.skipF {τ:TypeId→Option Ty} {sl:Nat→SV} {ob:Lab→Option Ob} (h:Q9x P τ N w0 F S β sl ob a w) {dst:Option Nat} (hd:∀ d,dst=some d→okD N d) :
  Q9x P τ N w0 F S β (fun t=>if dst=some t then .skip else sl t) ob (a.put dst undef) w:=by
 cases dst with
 | none=>simp only [reduceCtorEq,if_false];exact h
 | some d=>
  have b:d<a.tmps.size:=by rw [h.size];exact (hd d rfl).1
  refine ⟨h.sb,fun t=>?_,h.objs,h.excl,h.dist,h.fr,?_,h.nodef,h.within,fun p hp=>?_⟩
  ·simp only [Act.put,Q3m b,Option.some.injEq]
   by_cases e:d=t
   ·rw [if_pos e,if_pos e];rfl
   ·rw [if_neg e,if_neg e];exact h.slots t
  ·simp only [Act.put,Array.size_setIfInBounds];exact h.size
  ·simp only [Act.put];rw [Q3m b,if_neg (fun e=>(hd d rfl).2 p hp e.symm)];exact h.par p hp
theorem Qab {τ:TypeId→Option Ty} {c:Array Oper} {sl d:Nat→SV} {ob:Lab→Option Ob} (h:Q9x P τ N w0 F S β sl ob a w) {o:Oper} {act:Bool} (hg:Q0s c.toList d o act) (hs:∀ t∈Xj c.toList o,d t=sl t) :
  Region.wanted o (yielded c a.tmps)=act:=by
 unfold Q0s at hg
 unfold Region.wanted
 cases ho:o.guard with
 | none=>rw [ho] at hg;exact hg.symm
 | some gw=>
  obtain ⟨g,f⟩:=gw
  rw [ho] at hg
  obtain ⟨t,ht,hg⟩:=hg
  have hl:t∈Xj c.toList o:=by
   unfold Xj
   rw [ho]
   exact List.mem_append.2 (.inr (by simp only [ht];simp))
  rw [hs t hl] at hg
  have hv:=h.slots t
  rcases hg with ⟨e,rfl⟩ | ⟨b,e,rfl⟩
  ·rw [e] at hv
   have hv:a.tmps.getD t undef=undef:=hv
   simp only [Q49 ht hv];rfl
  ·rw [e] at hv
   have hv:a.tmps.getD t undef=.bool b:=hv
   simp only [Q78 ht hv];cases b<;>cases f<;>rfl
end
end Go.PE
namespace Go.PE
section
variable {P:Program} {tab:Tab} {N:NN} {w0:World} {F:FF} {S:Nat→Prop} {β:Lab→Value} {st:St} {a:Act} {w:World}
def Q57 (all:List Oper) (es:List En) (D:Nat→Bool) (l:Lab):Prop:=
 (l.1≠999999999∧l.1 ∉ all.flatMap Zf)∨∃ (k:Nat) (e:En),D k=true∧es[k]?=some e∧e.o.dst=some l.1
structure Qhx (P:Program) (tab:Tab) (N:NN) (w0:World) (F:FF) (S:Nat→Prop) (all:List Oper) (es:List En) (sl0:Nat→SV) (ob0:Lab→Option Ob) (D:Nat→Bool) (a:Act) (w:World):Prop where
 rel:∃ S' β',(∀ k,S k→S' k)∧Q9x P tab.ty N w0 F S' β' (Zd D 0 es sl0) (Zb D 0 es ob0) a w
 fs:∀ t,∀ l∈Qe (Zd D 0 es sl0 t),Q57 all es D l
 fo:∀ l x,Zb D 0 es ob0 l=some x→Q57 all es D l∧∀ m∈Qz x,Q57 all es D m
 closed:∀ j,D j=true→∀ i,Q05 (Q21 all []) i j=true→D i=true
def Q13 (D:Nat→Bool) (j:Nat):Nat→Bool:=fun i=>if i=j then true else D i
theorem Q57.mono {all:List Oper} {es:List En} {D D':Nat→Bool} {l:Lab} (h:Q57 all es D l) (hd:∀ i,D i=true→D' i=true):Q57 all es D' l:=by
 rcases h with h | ⟨k,e,h1,h2⟩
 ·exact .inl h
 ·exact .inr ⟨k,e,hd k h1,h2⟩
theorem Qfr {c:Array Oper} {es:List En} {sl0:Nat→SV} {ob0:Lab→Option Ob} (a6:es.map (·.o)=c.toList) (a3:∀ j e,es[j]?=some e→Qhn P tab N (Q21 c.toList []) c.toList es sl0 ob0 j e)
  (a9:Q5o (Q21 c.toList []) c.toList=true) (b7:(c.toList.flatMap Zf).Nodup) (h9:999999999 ∉ c.toList.flatMap Zf) (b3:∀ o∈c.toList,∀ d,o.dst=some d→okD N d)
  {D:Nat→Bool} (hi:Qhx P tab N w0 F S c.toList es sl0 ob0 D a w) {j:Nat} {o:Oper} (hj:c[j]?=some o) (M:D j=false) (T:∀ i,Q05 (Q21 c.toList []) i j=true→D i=true)
  (Q:Exit→Act→World→Prop) (K:Act→World→Prop) (hK:∀ a' w',Qhx P tab N w0 F S c.toList es sl0 ob0 (Q13 D j) a' w'→K a' w') :
  if Region.wanted o (yielded c a.tmps) then o.wp P a w K Q∨(o.asks P a w∧LetsOut Q) else K (a.put o.dst undef) w:=by
 have A:c.toList[j]?=some o:=by rw [Array.getElem?_toList];exact hj
 obtain ⟨e,he,u⟩:∃ e,es[j]?=some e∧e.o=o:=by
  rw [← a6,List.getElem?_map] at A
  cases hx:es[j]? with
  | none=>rw [hx] at A;cases A
  | some e=>rw [hx] at A;exact ⟨e,rfl,sI A⟩
 have C:∀ (i:Nat) (e':En),es[i]?=some e'→c.toList[i]?=some e'.o:=fun i e' h=>by rw [← a6,List.getElem?_map,h];rfl
 have E:=a3 j e he
 have R:∀ i,Q05 (Q21 c.toList []) j i=true→D i=false:=fun i h=>by
  cases hD:D i with
  | false=>rfl
  | true=>rw [hi.closed i hD j h] at M;cases M
 obtain ⟨S1,β1,a5,U⟩:=hi.rel
 have L:∀ t∈Xj c.toList e.o,Zd (fun i=>decide (i<j)) 0 es sl0 t=Zd D 0 es sl0 t:=fun t ht=>by
  refine Jc rfl (fun i e' f X=>?_)
  rw [Nat.zero_add]
  rcases Nat.lt_trichotomy i j with G | rfl | a2
  ·rw [decide_eq_true G]
   rcases Q93 a9 (C i e' f) A G with h | ⟨h,_⟩
   ·exact (T i h).symm
   ·exact absurd (u▸ht) (h t X)
  ·rw [M];simp
  ·rw [show decide (i<j)=false by simp;omega]
   rcases Q93 a9 A (C i e' f) a2 with h | ⟨_,h⟩
   ·exact (R i h).symm
   ·exact absurd (u▸ht) (h t X)
 have H:e.act=true→∀ l∈e.ls,Zb (fun i=>decide (i<j)) 0 es ob0 l=Zb D 0 es ob0 l:=fun b l hl=>by
  refine X4 rfl (fun i e' f p hW=>?_)
  rw [Nat.zero_add]
  rcases Nat.lt_trichotomy i j with G | rfl | a2
  ·rw [decide_eq_true G]
   rcases E.tr b i e' f G p with h | ⟨h,_,_⟩
   ·exact (T i h).symm
   ·exact absurd hl (h l hW)
  ·rw [M];simp
  ·rw [show decide (i<j)=false by simp;omega]
   rcases (a3 i e' f).tr p j e he a2 b with h | ⟨_,_,h⟩
   ·exact (R i h).symm
   ·exact absurd hl (h l hW)
 have I:=Qab U (c:=c) (o:=e.o) E.guard L
 rw [u] at I
 have Z:∀ {i:Nat} {e':En} {t:Nat},es[i]?=some e'→e'.o.dst=some t→e.o.dst=some t→i=j:=fun f h1 h2=>Qcg b7 (C _ _ f) (C _ _ he) h1 h2
 have n:∀ i,D i=true→Q13 D j i=true:=fun i h=>by unfold Q13;split<;>first | rfl | exact h
 have O:∀ i,i≠j→D i=Q13 D j i:=fun i h=>by unfold Q13;rw [if_neg h]
 have a0:Q13 D j j=true:=by unfold Q13;rw [if_pos rfl]
 have B:∀ k,Q13 D j k=true→∀ i,Q05 (Q21 c.toList []) i k=true→Q13 D j i=true:=fun k hk i h=>by
  by_cases a8:k=j
  ·subst a8;exact n i (T i h)
  ·rw [← O k a8] at hk;exact n i (hi.closed k hk i h)
 have J:∀ t,Zd (Q13 D j) 0 es sl0 t=if e.o.dst=some t then e.v else Zd D 0 es sl0 t:=fun t=>by
  by_cases r:e.o.dst=some t
  ·rw [if_pos r]
   refine Q9e he r (by rw [Nat.zero_add];exact a0) (fun k e' hk b5 G=>?_)
   have:=Z hk b5 r
   omega
  ·rw [if_neg r]
   refine Jc rfl (fun i e' f b4=>?_)
   rw [Nat.zero_add]
   refine (O i (fun h=>?_)).symm
   subst h
   rw [he] at f
   have:=sI f
   subst this
   exact r b4
 cases b:e.act with
 | false=>
  rw [I,b,if_neg (by decide)]
  refine hK _ _ ⟨?_,?_,?_,B⟩
  ·refine ⟨S1,β1,a5,?_⟩
   have h1:=U.skipF (dst:=o.dst) (fun d hd=>b3 o (List.mem_of_getElem? A) d hd)
   have e1:Zd (Q13 D j) 0 es sl0=fun t=>if o.dst=some t then SV.skip else Zd D 0 es sl0 t:=by
    funext t
    rw [J t,u]
    unfold En.v
    rw [b]
   have e2:Zb (Q13 D j) 0 es ob0=Zb D 0 es ob0:=by
    funext l
    refine X4 rfl (fun i e' f p _=>?_)
    rw [Nat.zero_add]
    refine (O i (fun h=>?_)).symm
    subst h
    rw [he] at f
    have:=sI f
    subst this
    rw [b] at p;cases p
   rw [e1,e2]
   exact h1
  ·intro t l hl
   rw [J t] at hl
   split at hl
   ·unfold En.v at hl;rw [b] at hl;simp [Qe] at hl
   ·exact (hi.fs t l hl).mono n
  ·intro l x hx
   have e2:Zb (Q13 D j) 0 es ob0 l=Zb D 0 es ob0 l:=X4 rfl (fun i e' f p _=>by
    rw [Nat.zero_add]
    refine (O i (fun h=>?_)).symm
    subst h
    rw [he] at f
    have:=sI f
    subst this
    rw [b] at p;cases p)
   rw [e2] at hx
   exact ⟨(hi.fo l x hx).1.mono n,fun m hm=>((hi.fo l x hx).2 m hm).mono n⟩
 | true=>
  rw [I,b,if_pos rfl]
  refine .inl ?_
  have g:∀ l,Q57 c.toList es D l→l.1≠o.dst.getD 999999999:=by
   rintro l (⟨h1,h2⟩ | ⟨k,e',hk,hke,hd⟩) heq
   ·cases hd:o.dst with
    | none=>rw [hd] at heq;exact h1 heq
    | some d=>
     rw [hd] at heq
     have heq:l.1=d:=heq
     exact h2 (List.mem_flatMap.2 ⟨o,List.mem_of_getElem? A,by simp [Zf,hd,heq]⟩)
   ·cases a1:o.dst with
    | none=>
     rw [a1] at heq
     have heq:l.1=999999999:=heq
     exact h9 (List.mem_flatMap.2 ⟨e'.o,List.mem_of_getElem? (C k e' hke),by simp [Zf,hd,heq]⟩)
    | some d=>
     rw [a1] at heq
     have heq:l.1=d:=heq
     have:=Z hke hd (by rw [u,a1,heq])
     subst this
     rw [hk] at M;cases M
  have Y:∀ l,Zb (Q13 D j) 0 es ob0 l=if l∈e.ls∨o.dst=some l.1 then Q0 e.s.objs l else Zb D 0 es ob0 l:=fun l=>by
   by_cases hW:l∈e.W
   ·have a7:=(E.refs b).2.2 l hW
    rw [u] at a7
    rw [if_pos a7]
    refine Q9i he b hW (by rw [Nat.zero_add];exact a0) (fun k e' hk p b2 G=>?_)
    rw [Nat.zero_add]
    rcases (a3 k e' hk).tr p j e he G b with h | ⟨_,h,_⟩
    ·rw [← O k (by omega)];exact R k h
    ·exact absurd b2 (h l hW)
   ·have e1:Zb (Q13 D j) 0 es ob0 l=Zb D 0 es ob0 l:=X4 rfl (fun i e' f p b1=>by
     rw [Nat.zero_add]
     refine (O i (fun h=>?_)).symm
     subst h
     rw [he] at f
     have:=sI f
     subst this
     exact hW b1)
    rw [e1]
    have hk:=E.keep b l hW
    rw [E.ob b l] at hk
    by_cases hl:l∈e.ls
    ·rw [if_pos (.inl hl),hk,if_pos hl,H b l hl]
    ·rw [if_neg hl] at hk
     by_cases hd:o.dst=some l.1
     ·rw [if_pos (.inr hd),hk]
      cases hx:Zb D 0 es ob0 l with
      | none=>rfl
      | some x=>exact absurd (by rw [hd];rfl) (g l (hi.fo l x hx).1)
     ·rw [if_neg (fun h=>h.elim hl hd)]
  have a4:∀ t,Zd (Q13 D j) 0 es sl0 t=if o.dst=some t then Q9 e.s.slots t else Zd D 0 es sl0 t:=fun t=>by
   rw [J t,u]
   by_cases r:o.dst=some t
   ·rw [if_pos r,if_pos r]
    unfold En.v
    rw [b,u,r]
   ·rw [if_neg r,if_neg r]
  have z:∀ l,(l∈e.ls∨e.o.dst=some l.1)→Q57 c.toList es (Q13 D j) l:=fun l hl=>by
   rcases hl with hl | hl
   ·rcases E.ls b l hl with ⟨t,ht,h⟩ | ⟨m,x,hm,hx,h⟩
    ·rw [L t ht] at h;exact (hi.fs t l h).mono n
    ·rw [H b m hm] at hx;exact ((hi.fo m x hx).2 l h).mono n
   ·exact .inr ⟨j,e,a0,he,hl⟩
  have b6:=Qdk (sub:=e.sub) (s:=e.s) (ls:=e.ls) (o:=o) U (fun t=>?_) (fun l=>?_) (fun t l hl=>g l (hi.fs t l hl)) (fun l x hx=>⟨g l (hi.fo l x hx).1,fun m hm=>g m ((hi.fo l x hx).2 m hm)⟩)
   (by rw [← u];exact E.loc b) (fun l x hx=>by rw [← u];exact ((E.refs b).2.1 l x hx).1) Q K (fun x w' S' β' b0 h'=>hK _ _ ⟨⟨S',β',fun k hk=>b0 k (a5 k hk),?_⟩,?_,?_,B⟩)
  ·exact b6
  ·rcases E.sl b t with h | ⟨ht,h⟩
   ·exact .inl h
   ·exact .inr (by rw [h,L t ht])
  ·rw [E.ob b l]
   by_cases hl:l∈e.ls
   ·rw [if_pos hl,if_pos hl,H b l hl]
   ·rw [if_neg hl,if_neg hl]
  ·have e1:Zd (Q13 D j) 0 es sl0=fun t=>if o.dst=some t then Q9 e.s.slots t else Zd D 0 es sl0 t:=funext a4
   have e2:Zb (Q13 D j) 0 es ob0=fun l=>if l∈e.ls∨o.dst=some l.1 then Q0 e.s.objs l else Zb D 0 es ob0 l:=funext Y
   rw [e1,e2]
   exact h'
  ·intro t l hl
   rw [J t] at hl
   split at hl
   ·rcases (E.refs b).1 l hl with (h | ⟨t',ht',h⟩) | ⟨m,x,hm,hx,h⟩
    ·exact z l h
    ·rw [L t' ht'] at h;exact (hi.fs t' l h).mono n
    ·rw [H b m hm] at hx;exact ((hi.fo m x hx).2 l h).mono n
   ·exact (hi.fs t l hl).mono n
  ·intro l x' V
   rw [Y l] at V
   split at V
   ·have:=(E.refs b).2.1 l x' V
    exact ⟨z l this.1,fun m hm=>by
     rcases this.2 m hm with h | ⟨q,y,hq,hy,h⟩
     ·exact z m h
     ·rw [H b q hq] at hy;exact ((hi.fo q y hy).2 m h).mono n⟩
   ·exact ⟨(hi.fo l x' V).1.mono n,fun m hm=>((hi.fo l x' V).2 m hm).mono n⟩
end
end Go.PE
namespace Go.PE
theorem Q9h {p p':Nat→Bool} (h:∀ i,p' i=true→p i=true):∀ (l:List Nat),(l.filter p').length≤(l.filter p).length
 | []=>Nat.le_refl _
 | x::r=>by
  have ih:=Q9h h r
  rw [List.filter_cons,List.filter_cons]
  cases a:p' x with
  | true=>rw [h x a];simpa using ih
  | false=>
   simp only [Bool.false_eq_true,if_false]
   split
   ·simp only [List.length_cons];omega
   ·exact ih
theorem Q9a {p p':Nat→Bool} (h:∀ i,p' i=true→p i=true) {j:Nat} (hj:p j=true) (a:p' j=false):∀ (l:List Nat),j∈l→(l.filter p').length<(l.filter p).length
 | [],hm=>by cases hm
 | x::r,hm=>by
  rw [List.filter_cons,List.filter_cons]
  rcases List.mem_cons.1 hm with rfl | hm
  ·rw [hj,a]
   have:=Q9h h r
   simp only [Bool.false_eq_true,if_false,if_true,List.length_cons]
   omega
  ·have ih:=Q9a h hj a r hm
   cases b:p' x with
   | true=>rw [h x b];simpa using ih
   | false=>
    simp only [Bool.false_eq_true,if_false]
    split
    ·simp only [List.length_cons];omega
    ·exact ih
theorem Qah {xs:Array Bool} {i:Nat} (h:i<xs.size) (d d':Bool):xs.getD i d=xs.getD i d':=by
 simp only [Array.getD_eq_getD_getElem?,Array.getElem?_eq_getElem h,Option.getD_some]
theorem Qfk {b:Array Oper} (he:Qas b.toList=true) {a:Array Bool} (hs:a.size=b.size) (hr:Region.ready .any b a=[]):∀ i,i<b.size→a.getD i false=true:=by
 intro i
 induction i using Nat.strongRecOn with
 | _ i ih=>
  intro hi
  cases hl:a.getD i false with
  | true=>rfl
  | false=>
   have hm:i∈Region.ready .any b a:=by
    rw [mem_ready]
    refine ⟨by rw [Qah (by omega) true false];exact hl,b[i],Array.getElem?_eq_getElem hi,fun e hm hb=>?_⟩
    have hx:(b[i],i)∈b.toList.zipIdx:=List.mem_zipIdx_iff_getElem?.2 (by rw [Array.getElem?_toList];exact Array.getElem?_eq_getElem hi)
    have h1:=List.all_eq_true.1 (List.all_eq_true.1 he (b[i],i) hx) e (Array.mem_toList_iff.2 hm)
    simp only [hb,Bool.not_true,Bool.false_or] at h1
    have c:=Q2.1 h1
    exact ih e.on c (by omega)
   rw [hr] at hm;cases hm
section
variable {P:Program} {tab:Tab} {N:NN} {w0:World} {F:FF} {S:Nat→Prop} {β:Lab→Value} {st:St} {a:Act} {w:World}
theorem Qft {c:Array Oper} {es:List En} {sl0:Nat→SV} {ob0:Lab→Option Ob} (v:es.map (·.o)=c.toList) (D:∀ j e,es[j]?=some e→Qhn P tab N (Q21 c.toList []) c.toList es sl0 ob0 j e)
  (E:Q5o (Q21 c.toList []) c.toList=true) (C:(c.toList.flatMap Zf).Nodup) (h9:999999999 ∉ c.toList.flatMap Zf) (A:∀ o∈c.toList,∀ d,o.dst=some d→okD N d) (s:Qas c.toList=true)
  {Q:Exit→Act→World→Prop} (hQ:∀ a w,(∃ S' β',(∀ k,S k→S' k)∧Q9x P tab.ty N w0 F S' β' (Zd (fun _=>true) 0 es sl0) (Zb (fun _=>true) 0 es ob0) a w)→Q .normal a w) :
  ∀ (f:Nat) (b:Array Bool) (a:Act) (w:World),b.size=c.size→Qhx P tab N w0 F S c.toList es sl0 ob0 (fun i=>b.getD i false) a w →
   ((List.range c.size).filter (fun i=>!(b.getD i false))).length≤f→wpAny P .any c Q f b a w:=by
 have H:es.length=c.size:=by rw [← Array.length_toList,← v,List.length_map]
 have fin:∀ (b:Array Bool) (a:Act) (w:World),(∀ i,i<c.size→b.getD i false=true)→Qhx P tab N w0 F S c.toList es sl0 ob0 (fun i=>b.getD i false) a w→Q .normal a w:=by
  intro b a w g hi
  obtain ⟨S',β',h1,h2⟩:=hi.rel
  refine hQ a w ⟨S',β',h1,?_⟩
  have e1:Zd (fun i=>b.getD i false) 0 es sl0=Zd (fun _=>true) 0 es sl0:=by
   funext t
   refine Jc rfl (fun j e hj _=>?_)
   have:j<es.length:=(List.getElem?_eq_some_iff.1 hj).1
   rw [Nat.zero_add];exact g j (by omega)
  have e2:Zb (fun i=>b.getD i false) 0 es ob0=Zb (fun _=>true) 0 es ob0:=by
   funext l
   refine X4 rfl (fun j e hj _ _=>?_)
   have:j<es.length:=(List.getElem?_eq_some_iff.1 hj).1
   rw [Nat.zero_add];exact g j (by omega)
  rw [← e1,← e2]
  exact h2
 intro f
 induction f with
 | zero=>
  intro b a w hs hi hc
  have y:(List.range c.size).filter (fun i=>!(b.getD i false))=[]:=List.eq_nil_of_length_eq_zero (Nat.le_zero.1 hc)
  have g:∀ i,i<c.size→b.getD i false=true:=fun i n=>by
   cases hl:b.getD i false with
   | true=>rfl
   | false=>
    have:i∈(List.range c.size).filter (fun i=>!(b.getD i false)):=List.mem_filter.2 ⟨List.mem_range.2 n,by rw [hl];rfl⟩
    rw [y] at this;cases this
  refine ⟨?_,fin b a w g hi⟩
  cases hr:Region.ready .any c b with
  | nil=>rfl
  | cons i r=>
   have hm:i∈Region.ready .any c b:=by rw [hr];exact List.mem_cons_self ..
   rw [mem_ready] at hm
   obtain ⟨h1,o,ho,_⟩:=hm
   have n:i<c.size:=(Array.getElem?_eq_some_iff.1 ho).1
   have h2:=g i n
   rw [Qah (by omega) false true,h1] at h2
   cases h2
 | succ f ih=>
  intro b a w hs hi hc
  refine ⟨fun hr=>fin b a w (Qfk s hs hr) hi,fun j hj=>?_⟩
  rw [mem_ready] at hj
  obtain ⟨h1,o,ho,q⟩:=hj
  have n:j<c.size:=(Array.getElem?_eq_some_iff.1 ho).1
  have u:b.getD j false=false:=by rw [Qah (by omega) false true];exact h1
  have B:c.toList[j]?=some o:=by rw [Array.getElem?_toList];exact ho
  have G:=Qfr v D E C h9 A hi ho u (fun i h=>by
   obtain ⟨e,hm,hb,h⟩:=Q9z B h
   have z:=q e (Array.mem_toList_iff.1 hm) hb
   rcases h with rfl | h
   ·exact z
   ·exact hi.closed e.on z i h) Q (wpAny P .any c Q f (b.setIfInBounds j true)) (fun a' w' x=>by
   have e1:Q13 (fun i=>b.getD i false) j=fun i=>(b.setIfInBounds j true).getD i false:=by
    funext i
    unfold Q13
    simp only [Array.getD_eq_getD_getElem?,Array.getElem?_setIfInBounds]
    by_cases m:i=j
    ·subst m;rw [if_pos rfl,if_pos rfl,if_pos (by omega)];rfl
    ·rw [if_neg m,if_neg (fun h=>m h.symm)]
   rw [e1] at x
   refine ih _ a' w' (by rw [Array.size_setIfInBounds];exact hs) x ?_
   have hl:=Q9a (p:=fun i=>!(b.getD i false)) (p':=fun i=>!((b.setIfInBounds j true).getD i false)) (j:=j) (fun i h=>by
    have:=congrFun e1 i
    rw [← this] at h
    unfold Q13 at h
    by_cases m:i=j
    ·rw [if_pos m] at h;cases h
    ·rw [if_neg m] at h;exact h) (by rw [u];rfl) (by
    have:=congrFun e1 j
    rw [← this]
    unfold Q13;rw [if_pos rfl];rfl) (List.range c.size) (List.mem_range.2 n)
   omega)
  unfold wpOp
  rw [ho]
  exact G
theorem Q84 {Γ:Ctx} (hm:P.follows .mixedOrders=true) (hΓ:Je tab.ty P Γ) (s:Qc P tab) (N:NN):Q8k P Γ tab N:=by
 intro w0 F S β st a w id b R k z Q hd h he hQ
 refine wp_region_any hm ?_
 unfold Qdg at he
 cases hq:(Q5o (Q21 b.toList []) b.toList&&Qdo st b.toList) with
 | false=>rw [hq] at he;cases he
 | true=>
  rw [hq] at he
  simp only [cond_true] at he
  rw [Bool.and_eq_true] at hq
  obtain ⟨v,r⟩:=hq
  unfold Qdo at r
  simp only [Bool.and_eq_true,Bool.not_eq_true',List.all_eq_true] at r
  obtain ⟨⟨⟨q1,q2⟩,q3⟩,q4⟩:=r
  have h9:999999999 ∉ b.toList.flatMap Zf:=by rw [← Bool.not_eq_true,Q27] at q2;exact q2
  have hw:Rel P tab.ty N w0 F S β st a { w with drawn:=w.drawn+1 }:=h.grow' (Fr.drew _ w)
  obtain ⟨es,fin,g1,g2,g3⟩:=Qbo hΓ s hd he
  obtain ⟨k1,k2,k3⟩:=g3 [] (Q9 st.slots) (Q0 st.objs) rfl (fun _=>rfl) (fun _=>rfl) (fun n e hn=>by simp at hn)
  simp only [List.nil_append] at k1 k2 k3
  have c:∀ i,(Array.replicate b.size false).getD i false=false:=fun i=>by
   rw [Array.getD_eq_getD_getElem?,Array.getElem?_replicate];split<;>rfl
  have o:∀ (es:List En) (i:Nat) (f:Nat→SV),Zd (fun i=>(Array.replicate b.size false).getD i false) i es f=f:=by
   intro es
   induction es with
   | nil=>intro i f;rfl
   | cons y q ih=>intro i f;rw [Zd,ih,if_neg (by rw [c];decide)]
  have g:∀ (es:List En) (i:Nat) (f:Lab→Option Ob),Zb (fun i=>(Array.replicate b.size false).getD i false) i es f=f:=by
   intro es
   induction es with
   | nil=>intro i f;rfl
   | cons y q ih=>intro i f;rw [Zb,ih,if_neg (by rw [c];decide)]
  have p:∀ l:Lab,(∀ d∈(999999999::b.toList.flatMap Zf),l.1≠d)→Q57 b.toList es (fun i=>(Array.replicate b.size false).getD i false) l:=fun l hl=>
   .inl ⟨hl _ (List.mem_cons_self ..),fun hm=>hl _ (List.mem_cons_of_mem _ hm) rfl⟩
  refine Qft (w0:=w0) (F:=F) (S:=S) g1 (fun j e hj=>by have:=k1 j e hj;rw [Nat.zero_add] at this;exact this) v (Q5b q1) h9 hd q4 (fun a' w' u=>?_) b.size _ a _ (by simp) ⟨⟨S,β,fun _ x=>x,?_⟩,fun t l hl=>?_,fun l x hx=>?_,fun j hj=>?_⟩ ?_
  ·obtain ⟨S',β',h1,h2⟩:=u
   have e1:Zd (fun _=>true) 0 es (Q9 st.slots)=Q9 fin.slots:=by funext t;exact (k2 t).symm
   have e2:Zb (fun _=>true) 0 es (Q0 st.objs)=Q0 fin.objs:=by funext t;exact (k3 t).symm
   rw [e1,e2] at h2
   exact hQ a' w' S' β' fin h1 h2 g2
  ·rw [o,g];exact hw
  ·rw [o] at hl
   exact p l (fun d hd=>(Q1m (q3 d hd)).1 t l hl)
  ·rw [g] at hx
   exact ⟨p l (fun d hd=>((Q1m (q3 d hd)).2 l x hx).1),fun m hm=>p m (fun d hd=>((Q1m (q3 d hd)).2 l x hx).2 m hm)⟩
  ·rw [c] at hj;cases hj
  ·exact Nat.le_trans (List.length_filter_le _ _) (by simp)
theorem Q7d (c c':Nat):∀ {ps:List PK} {x:PDs ps} (i:Nat),Jm ps=true→Zl c i ps x=Zl c' i ps x
 | [],x,i,_=>rfl
 | p::r,x,i,h=>by
  have hr:Jm r=true:=by cases p<;>first | exact h | cases h
  have ih:=Q7d c c' (ps:=r) (x:=x.2) (i+1) hr
  cases p<;>first | (cases h;done) | (simp only [Zl];rw [ih])
theorem Qge {Γ:Ctx} {fi:Fi} {n:Nat} {ps:List PK} {rs:List RK} {fn:Func} {x:PDs ps} (h:Jm ps=true) (c:Nat):Qdr Γ tab { fi with cap:=c } n ps rs fn x=Qdr Γ tab fi n ps rs fn x:=by
 unfold Qdr
 cases fn.body with
 | none=>rfl
 | some b=>
  simp only
  rw [Q7d c fi.cap 0 h]
theorem Qha {Γ:Ctx} (hm:P.follows .mixedOrders=true) (hΓ:Je tab.ty P Γ) (a:Qc P tab) {f:FuncId} {fn:Func} (hf:P.funcs[f]?=some fn) (d:(fn.name=="runtime.NumGoroutine")=false) (b:fn.body.isNone=false) {ps:List PK} {rs:List RK} {fi:Fi} {n:Nat}
  {G:PDs ps→Option (RDs rs × ODs ps)} (hG:∀ c x r,c≤maxLen→G x=some r→Qdr Γ tab { fi with cap:=c } n ps rs fn x=some r):Q4t tab.ty P f ⟨ps,rs,G⟩:=
 Qg3 hΓ a (fun N=>Q84 hm hΓ a N) hf d b hG
theorem Qjn {Γ:Ctx} (hm:P.follows .mixedOrders=true) (hΓ:Je tab.ty P Γ) (a:Qc P tab) {f:FuncId} {fn:Func} (hf:P.funcs[f]?=some fn) (d:(fn.name=="runtime.NumGoroutine")=false) (b:fn.body.isNone=false) {ps:List PK} {rs:List RK} {fi:Fi} {n:Nat}
  {G:PDs ps→Option (RDs rs × ODs ps)} (hG:∀ x r,G x=some r→Qdr Γ tab fi n ps rs fn x=some r) (e:Jm ps=true:=by rfl):Q4t tab.ty P f ⟨ps,rs,G⟩:=
 Qha hm hΓ a hf d b (fun c x r _ h=>by rw [Qge e];exact hG x r h)
end
end Go.PE
namespace Go.PE
def Qer:List (Nat × Nat)→List (Nat × Nat)→Bool
 | [],[]=>true
 | a::r,b::q=>Nat.beq a.1 b.1&&Nat.beq a.2 b.2&&Qer r q
 | _,_=>false
theorem Qcx:∀ {a b:List (Nat × Nat)},Qer a b=true→a=b
 | [],[],_=>rfl
 | a::r,b::q,h=>by
  simp only [Qer,Bool.and_eq_true] at h
  rw [Qcx h.2]
  obtain ⟨a1,a2⟩:=a
  obtain ⟨b1,b2⟩:=b
  have e1:a1=b1:=Nat.eq_of_beq_eq_true h.1.1
  have e2:a2=b2:=Nat.eq_of_beq_eq_true h.1.2
  rw [e1,e2]
 | [],_::_,h=>by cases h
 | _::_,[],h=>by cases h
def Qf1 (P:Program) (T:TypeId) (d:TD):Bool:=
 match d,P.underlying T with
 | .int k,some (.int k')=>Nat.beq (Qq k) (Qq k')
 | .bool,some .bool=>true
 | .str,some .string=>true
 | .ifc,some (.interface _)=>true
 | .slc e,some (.slice e')=>Nat.beq e e'
 | .stc fs,some (.struct gs)=>Qer (gs.toList.map fun g=>(g.type,g.offset)) fs
 | .ptr e,some (.pointer e')=>Nat.beq e e'
 | .arr n e,some (.array n' e')=>Nat.beq n n'&&Nat.beq e e'
 | .fnc,_=>true
 | .ovl _,_=>true
 | .mth _ _ _,_=>true
 | .elt _ _ _ _ _,_=>false
 | _,_=>false
def Q7o:Value→Value→Bool
 | .int k n,.int k' n'=>Nat.beq (Qq k) (Qq k')&&decide (n=n')
 | .bool b,.bool b'=>b==b'
 | .string s,.string s'=>decide (s.data.toList=s'.data.toList)
 | .nilIface,.nilIface=>true
 | .slice none 0 0,.slice none 0 0=>true
 | _,_=>false
theorem Qch {u v:Value} (h:Q7o u v=true):u=v:=by
 unfold Q7o at h
 split at h
 ·simp only [Bool.and_eq_true,decide_eq_true_eq] at h;rw [Jw (Nat.eq_of_beq_eq_true h.1),h.2]
 ·rw [eq_of_beq h]
 ·rename_i s s'
  have:=of_decide_eq_true h
  obtain ⟨⟨x⟩⟩:=s
  obtain ⟨⟨y⟩⟩:=s'
  have:x=y:=this
  rw [this]
 ·rfl
 ·rfl
 ·cases h
def zeroCells:List Value→List Value→Bool
 | [],[]=>true
 | a::r,b::q=>Q7o a b&&zeroCells r q
 | _,_=>false
theorem Q2i:∀ {a b:List Value},zeroCells a b=true→a=b
 | [],[],_=>rfl
 | a::r,b::q,h=>by
  simp only [zeroCells,Bool.and_eq_true] at h
  rw [Qch h.1,Q2i h.2]
 | [],_::_,h=>by cases h
 | _::_,[],h=>by cases h
def Qj4:Value→Bool
 | .agg _=>true
 | _=>false
def Qhi:TypeDesc→Bool
 | .struct _=>true
 | .array _ _=>true
 | _=>false
def Qh7 (P:Program) (T:TypeId) (t:Ty):Bool:=
 match P.info? T,P.underlying T with
 | some i,some d=>match i.zero with
  | some z=>Nat.beq i.size t.cells&&zeroCells z.cells.toList (Z9 t)&&(bif t.isAgg then Qj4 z&&Qhi d else notAgg d)&&Nat.ble i.bytes 131072
  | none=>false
 | _,_=>false
def Qdw (P:Program) (τ:Tab) (T:TypeId) (d:TD):Bool:=
 match d with
 | .arr n eT=>match τ.ty eT with
  | some e=>bif Nat.beq e.cells 1 then (match P.info? T with
   | some i=>(match i.zero with
    | some (.agg z)=>zeroCells z.toList (List.replicate n ((Z9 e).getD 0 undef))
    | _=>false)
   | none=>false) else true
  | none=>true
 | _=>true
def Qd7 (P:Program) (d:TD):Bool:=
 match d with
 | .stc fs=>fs.all fun f=>(P.info? f.1).isSome
 | _=>true
def Qd6 (τ:Tab) (d:TD):Bool:=
 match d with
 | .slc eT=>match τ.ty eT with
  | some e=>Nat.blt 0 e.cells
  | none=>true
 | _=>true
def Qja:Ty→Bool
 | .int .u8=>true
 | _=>false
def Qbj:Value→Bool
 | .int .u8 n=>decide (n=0)
 | _=>false
def Qg9 (P:Program) (T:TypeId) (t:Option Ty):Bool:=
 match t with
 | some t=>bif Qja t then (match P.info? T with
  | some i=>Nat.beq i.size 1&&Nat.beq i.bytes 1&&(match i.zero with | some z=>Qbj z | none=>false)
  | none=>false) else true
 | none=>true
def Qg4 (P:Program) (τ:Tab) (T:TypeId) (d:TD):Bool:=
 match d with
 | .stc fs=>bif Q1n τ 0 fs then !(P.stoodInHeld T)&&!(P.eqGuardType P.depth T)&&(P.fieldsOf T).toList.all fun f=>f.name != "_" else true
 | _=>true
def Qa3 (P:Program) (fn:Func):Bool:=
 !(fn.name=="runtime.NumGoroutine")&&fn.body.isNone&&(Extern.findNext fn).isNone&&(Q3z fn fn.name).isNone&&decide (fn.origin="slices.overlaps") &&
  (match fn.params.toList,fn.resultTypes.toList with
   | [t1,t2],[_]=>Nat.beq t1 t2&&(match P.underlying t1 with | some (.slice e)=>(P.info? e).isSome | _=>false)
   | _,_=>false)
def Qda (P:Program) (d:TD):Bool:=
 match d with
 | .ovl g=>(match P.funcs[g]? with | some fn=>Qa3 P fn | none=>false)
 | _=>true
theorem Qds {P:Program} {g:Nat} {fn:Func} (hf:P.funcs[g]?=some fn) (h:Qa3 P fn=true):Qii P g:=by
 unfold Qa3 at h
 simp only [Bool.and_eq_true] at h
 obtain ⟨⟨⟨⟨⟨h1,h2⟩,h3⟩,h4⟩,h5⟩,h6⟩:=h
 split at h6
 case h_2=>cases h6
 case h_1 t1 t2 t3 e1 e2=>
 simp only [Bool.and_eq_true] at h6
 obtain ⟨h6,h7⟩:=h6
 have e3:=Nat.eq_of_beq_eq_true h6
 subst e3
 split at h7
 case h_2=>cases h7
 case h_1 e hu=>
 obtain ⟨i,hi⟩:=Option.isSome_iff_exists.1 h7
 exact ⟨fn,t1,t3,e,i,hf,by simpa using h1,h2,Option.isNone_iff_eq_none.1 h3,h4,of_decide_eq_true h5,by apply Array.ext';simpa using e1,by apply Array.ext';simpa using e2,hu,hi⟩
def Qdq (P:Program) (d:TD):Bool:=
 match d with
 | .mth T m g=>(match P.info? T,P.underlying T with
  | some i,some (.struct _)=>(match i.methods.find? (·.name==m) with
   | some mm=>mm.path.toList.isEmpty&&(match mm.func with | some (f,false)=>Nat.beq f g | _=>false)
   | none=>false)
  | _,_=>false)
 | _=>true
def Qim (P:Program) (τ:Tab):Bool:=τ.all fun r=>
 Qf1 P r.1 r.2.1&&(match r.2.2 with | some t=>Qh7 P r.1 t | none=>true)&&Qdw P τ r.1 r.2.1&&Qd7 P r.2.1&&Qd6 τ r.2.1&&Qg9 P r.1 r.2.2&&Qg4 P τ r.1 r.2.1&&Qda P r.2.1&&Qdq P r.2.1
theorem Qgj {τ:Tab} {T:Nat} {v:TD × Option Ty} (h:Q4w τ T=some v):(T,v)∈τ:=by
 induction τ with
 | nil=>cases h
 | cons p r ih=>
  obtain ⟨u,x⟩:=p
  simp only [Q4w] at h
  cases hb:Nat.beq u T with
  | true=>
   rw [hb] at h
   have:=sI h
   subst this
   rw [Nat.eq_of_beq_eq_true hb]
   exact List.mem_cons_self ..
  | false=>rw [hb] at h;exact List.mem_cons_of_mem _ (ih h)
theorem Qjf {P:Program} {τ:Tab} (h:Qim P τ=true):Qc P τ:=by
 have all:∀ T d ty,Q4w τ T=some (d,ty)→Qf1 P T d=true∧(∀ t,ty=some t→Qh7 P T t=true)∧Qdw P τ T d=true∧Qd7 P d=true∧Qd6 τ d=true∧Qg9 P T ty=true∧Qg4 P τ T d=true∧Qda P d=true∧Qdq P d=true:=by
  intro T d ty hm
  have:=List.all_eq_true.1 h _ (Qgj hm)
  simp only [Bool.and_eq_true] at this
  obtain ⟨⟨⟨⟨⟨⟨⟨⟨h1,h2⟩,h3⟩,h4⟩,h5⟩,h6⟩,h7⟩,h8⟩,h9⟩:=this
  exact ⟨h1,fun t ht=>by rw [ht] at h2;exact h2,h3,h4,h5,h6,h7,h8,h9⟩
 have a:∀ T d,τ.td T=some d→∃ ty,Q4w τ T=some (d,ty):=by
  intro T d hd
  unfold Tab.td at hd
  cases hg:Q4w τ T with
  | none=>rw [hg] at hd;cases hd
  | some v=>obtain ⟨d',ty⟩:=v;rw [hg] at hd;have:=sI hd;subst this;exact ⟨ty,rfl⟩
 have b:∀ T t,τ.ty T=some t→∃ d,Q4w τ T=some (d,some t):=by
  intro T t ht
  unfold Tab.ty at ht
  cases hg:Q4w τ T with
  | none=>rw [hg] at ht;cases ht
  | some v=>obtain ⟨d,ty⟩:=v;rw [hg] at ht;have ht:ty=some t:=ht;subst ht;exact ⟨d,rfl⟩
 refine ⟨fun T d hd=>?_,fun T t ht=>?_,fun T n eT e hd hte h1=>?_,fun T fs hd f hf=>?_,fun K g hd=>?_,fun K f W k c sz hd=>?_,fun K T m g hd=>?_,fun T eT e hd hte=>?_,fun eT ht=>?_,fun T fs hd he=>?_⟩
 ·obtain ⟨ty,hg⟩:=a T d hd
  have:=(all T d ty hg).1
  unfold Qf1 at this
  split at this<;>first | (cases this;done) | skip
  all_goals rename_i hu
  ·have e:=Jw (Nat.eq_of_beq_eq_true this);subst e;exact hu
  ·exact hu
  ·exact hu
  ·exact ⟨_,hu⟩
  ·have e:=Nat.eq_of_beq_eq_true this;subst e;exact hu
  ·exact ⟨_,hu,Qcx this⟩
  ·have e:=Nat.eq_of_beq_eq_true this;subst e;exact hu
  ·simp only [Bool.and_eq_true] at this
   have e:=Nat.eq_of_beq_eq_true this.1;have e':=Nat.eq_of_beq_eq_true this.2;subst e;subst e';exact hu
  ·trivial
  ·trivial
  ·trivial
 ·obtain ⟨d,hg⟩:=b T t ht
  have:=(all T d _ hg).2.1 t rfl
  unfold Qh7 at this
  split at this
  case h_2=>cases this
  case h_1 i dd hi hu=>
  split at this
  case h_2=>cases this
  case h_1 z hz=>
  simp only [Bool.and_eq_true] at this
  obtain ⟨⟨⟨c1,c2⟩,c3⟩,c4⟩:=this
  refine ⟨⟨i,z,hi,Nat.eq_of_beq_eq_true c1,hz,Q2i c2,fun ha=>?_,Q2.1 c4⟩,fun ha=>?_,fun ha=>?_⟩
  ·rw [ha] at c3
   simp only [cond_true,Bool.and_eq_true] at c3
   cases z<;>first | exact ⟨_,rfl⟩ | (cases c3.1;done)
  ·rw [ha] at c3
   simp only [cond_true,Bool.and_eq_true] at c3
   cases dd<;>first | exact .inl ⟨_,hu⟩ | exact .inr ⟨_,_,hu⟩ | (cases c3.2;done)
  ·rw [ha] at c3
   exact ⟨dd,hu,c3⟩
 ·obtain ⟨ty,hg⟩:=a T _ hd
  have:=(all T _ ty hg).2.2.1
  simp only [Qdw,hte] at this
  rw [Z6.2 h1] at this
  simp only [cond_true] at this
  split at this
  case h_2=>cases this
  case h_1 i hi=>
  split at this
  case h_2=>cases this
  case h_1 z hz=>exact ⟨i,z,hi,hz,Q2i this⟩
 ·obtain ⟨ty,hg⟩:=a T _ hd
  have:=(all T _ ty hg).2.2.2.1
  simp only [Qd7,List.all_eq_true] at this
  exact Option.isSome_iff_exists.1 (this f hf)
 ·obtain ⟨ty,hg⟩:=a _ _ hd
  have:=(all _ _ ty hg).2.2.2.2.2.2.2.1
  have h2:=this
  unfold Qda at h2
  simp only at h2
  split at h2
  case h_2=>cases h2
  case h_1 fn hfn=>exact Qds hfn h2
 ·obtain ⟨ty,hg⟩:=a _ _ hd
  have:=(all _ _ ty hg).1
  simp [Qf1] at this
 ·obtain ⟨ty,hg⟩:=a _ _ hd
  have:=(all _ _ ty hg).2.2.2.2.2.2.2.2
  have h2:=this
  unfold Qdq at h2
  simp only at h2
  split at h2
  case h_2=>cases h2
  case h_1 i fs hi hu=>
  split at h2
  case h_2=>cases h2
  case h_1 mm hm=>
  simp only [Bool.and_eq_true] at h2
  obtain ⟨h3,h4⟩:=h2
  split at h4
  case h_2=>cases h4
  case h_1 f hf=>
  have e:=Nat.eq_of_beq_eq_true h4
  subst e
  exact ⟨i,mm,fs,hi,hm,List.isEmpty_iff.1 h3,hf,hu⟩
 ·obtain ⟨ty,hg⟩:=a T _ hd
  have:=(all T _ ty hg).2.2.2.2.1
  simp only [Qd6,hte] at this
  exact Q2.1 this
 ·obtain ⟨d,hg⟩:=b eT _ ht
  have:=(all eT d _ hg).2.2.2.2.2.1
  simp only [Qg9,Qja,cond_true] at this
  split at this
  case h_2=>cases this
  case h_1 i hi=>
  simp only [Bool.and_eq_true] at this
  refine ⟨i,hi,Nat.eq_of_beq_eq_true this.1.1,Nat.eq_of_beq_eq_true this.1.2,?_⟩
  have h2:=this.2
  split at h2
  case h_2=>cases h2
  case h_1 z hz=>
  rw [hz]
  unfold Qbj at h2
  split at h2
  ·rw [of_decide_eq_true h2]
  ·cases h2
 ·obtain ⟨ty,hg⟩:=a T _ hd
  have:=(all T _ ty hg).2.2.2.2.2.2.1
  simp only [Qg4,he,cond_true,Bool.and_eq_true,Bool.not_eq_true',List.all_eq_true] at this
  exact ⟨this.1.1,this.1.2,fun f hf=>by have:=this.2 f hf;simpa using this⟩
theorem Q7t {τ:Tab} {K:Nat} {d:TD} (hK:Q4w τ K=none):Tab.ty ((K,d,none)::τ)=τ.ty:=by
 funext T
 unfold Tab.ty
 simp only [Q4w]
 cases hb:Nat.beq K T with
 | true=>rw [← Nat.eq_of_beq_eq_true hb,hK];rfl
 | false=>rfl
theorem Q8n {τ:Tab} {K:Nat} {d:TD} (T:Nat):Tab.td ((K,d,none)::τ) T=bif Nat.beq K T then some d else τ.td T:=by
 unfold Tab.td
 simp only [Q4w]
 cases Nat.beq K T<;>rfl
theorem Q6l {τ:Tab} {K f:Nat} {W:TypeId} {k:IntKind} {c:Int} {sz:Nat} (hK:Q4w τ K=none):∀ (i:Nat) (fs:List (TypeId × Nat)),Q1n ((K,.elt f W k c sz,none)::τ) i fs=true→Q1n τ i fs=true
 | _,[],_=>rfl
 | i,x::r,h=>by
  simp only [Q1n,Bool.and_eq_true] at h ⊢
  obtain ⟨⟨h1,h2⟩,h3⟩:=h
  refine ⟨⟨h1,?_⟩,Q6l hK (i+1) r h3⟩
  rw [Q7t hK,Q8n] at h2
  cases hb:Nat.beq K x.1 with
  | true=>rw [hb] at h2;cases h2
  | false=>rw [hb] at h2;exact h2
theorem Qj8 {P:Program} {τ:Tab} (h:Qc P τ) {f:Nat} {W:TypeId} {k:IntKind} {c:Int} {sz:Nat} (hK:Q4w τ (3000000000+f)=none) (he:Qid P f W k c sz) :
  Qc P ((3000000000+f,.elt f W k c sz,none)::τ):=by
 have hty:=Q7t (d:=.elt f W k c sz) hK
 have htd:∀ T d,Tab.td ((3000000000+f,.elt f W k c sz,none)::τ) T=some d→d=.elt f W k c sz∨τ.td T=some d:=fun T d hd=>by
  rw [Q8n] at hd
  cases hb:Nat.beq (3000000000+f) T with
  | true=>rw [hb] at hd;exact .inl (sI hd).symm
  | false=>rw [hb] at hd;exact .inr hd
 refine ⟨fun T d hd=>?_,fun T t ht=>?_,fun T n eT e hd hte h1=>?_,fun T fs hd g hg=>?_,fun K g hd=>?_,fun K f' W' k' c' a hd=>?_,fun K T m g hd=>?_,fun T eT e hd hte=>?_,fun eT ht=>?_,fun T fs hd hq=>?_⟩
 ·rcases htd T d hd with rfl | hd
  ·trivial
  ·exact h.td T d hd
 ·rw [hty] at ht;exact h.ty T t ht
 ·rw [hty] at hte
  rcases htd _ _ hd with e1 | hd
  ·cases e1
  ·exact h.arrz T n eT e hd hte h1
 ·rcases htd _ _ hd with e1 | hd
  ·cases e1
  ·exact h.fld T fs hd g hg
 ·rcases htd _ _ hd with e1 | hd
  ·cases e1
  ·exact h.ovl K g hd
 ·rcases htd _ _ hd with e1 | hd
  ·cases e1;exact he
  ·exact h.elt K _ _ _ _ _ hd
 ·rcases htd _ _ hd with e1 | hd
  ·cases e1
  ·exact h.mth K T m g hd
 ·rw [hty] at hte
  rcases htd _ _ hd with e1 | hd
  ·cases e1
  ·exact h.pos T eT e hd hte
 ·rw [hty] at ht;exact h.u8 eT ht
 ·rcases htd _ _ hd with e1 | hd
  ·cases e1
  ·exact h.eqs T fs hd (Q6l hK 0 fs hq)
end Go.PE
namespace Go.PE
noncomputable def Qgh (f:Func):Code:=match f.body with | some c=>c | none=>.skip
def Q4v:List Nat→Code→Code
 | [],c=>c
 | d::p,.seq a b=>bif Nat.beq d 0 then Q4v p a else Q4v p b
 | d::p,.cond _ a b=>bif Nat.beq d 0 then Q4v p a else Q4v p b
 | _::p,.block _ b=>Q4v p b
 | _::p,.loop b=>Q4v p b
 | _,_=>.skip
def Qgz:Code→Code
 | .loop b=>b
 | _=>.skip
noncomputable def Qeb {R:Type} (Γ:Ctx) (τ:Tab) (fi:Fi) (n:Nat):List Nat→Code→List (Nat × List Nat)→(EX→St→Option R)→EX→St→Option R
 | [],_,_,K=>K
 | d::p,.seq a b,ls,K=>bif Nat.beq d 0 then Qeb Γ τ fi n p a ls (fun e s=>match e with
   | .normal=>Xb Γ τ fi n b s K
   | e=>K e s) else Qeb Γ τ fi n p b ls K
 | d::p,.cond _ a b,ls,K=>bif Nat.beq d 0 then Qeb Γ τ fi n p a ls K else Qeb Γ τ fi n p b ls K
 | _::p,.block id b,ls,K=>Qeb Γ τ fi n p b ls (fun e s=>match e with
   | .exit j=>bif Nat.beq j id then K .normal s else K (.exit j) s
   | e=>K e s)
 | _::p,.loop b,(m,ks)::ls,K=>Qeb Γ τ fi n p b ls (fun e s=>match e with
   | .normal=>(Qfw τ fi ks s).bind fun s'=>Q7s (Xb Γ τ fi n b) (Qfw τ fi ks) m s' K
   | e=>K e s)
 | _,_,_,K=>K
noncomputable def Qjt (τ:Tab) (ps:List PK) (rs:List RK) (fn:Func):EX→St→Option (RDs rs × ODs ps):=fun e s=>match e with
 | .normal=>Q4h τ ps rs fn s
 | .ret=>Q4h τ ps rs fn s
 | .exit _=>none
noncomputable def Qjr (Γ:Ctx) (τ:Tab) (fi:Fi) (n:Nat) (ps:List PK) (rs:List RK) (fn:Func) (p:List Nat) (ls:List (Nat × List Nat)) (ks:List Nat) (m:Nat) (s:St):Option (RDs rs × ODs ps):=
 Q7s (Xb Γ τ fi n (Qgz (Q4v p (Qgh fn)))) (Qfw τ fi ks) m s (Qeb Γ τ fi n p (Qgh fn) ls (Qjt τ ps rs fn))
abbrev g3 {A B C D E:Type} (x:A × B × C × D × E):D:=x.2.2.2.1
abbrev h3 {A B C D:Type} (x:A × B × C × D):D:=x.2.2.2
abbrev g4 {A B C D E F:Type} (x:A × B × C × D × E × F):E:=x.2.2.2.2.1
abbrev h4 {A B C D E:Type} (x:A × B × C × D × E):E:=x.2.2.2.2
abbrev g5 {A B C D E F G:Type} (x:A × B × C × D × E × F × G):F:=x.2.2.2.2.2.1
abbrev h5 {A B C D E F:Type} (x:A × B × C × D × E × F):F:=x.2.2.2.2.2
abbrev g6 {A B C D E F G H:Type} (x:A × B × C × D × E × F × G × H):G:=x.2.2.2.2.2.2.1
abbrev h6 {A B C D E F G:Type} (x:A × B × C × D × E × F × G):G:=x.2.2.2.2.2.2
abbrev g7 {A B C D E F G H I:Type} (x:A × B × C × D × E × F × G × H × I):H:=x.2.2.2.2.2.2.2.1
abbrev h7 {A B C D E F G H:Type} (x:A × B × C × D × E × F × G × H):H:=x.2.2.2.2.2.2.2
abbrev g8 {A B C D E F G H I J:Type} (x:A × B × C × D × E × F × G × H × I × J):I:=x.2.2.2.2.2.2.2.2.1
abbrev h8 {A B C D E F G H I:Type} (x:A × B × C × D × E × F × G × H × I):I:=x.2.2.2.2.2.2.2.2
abbrev g9 {A B C D E F G H I J K:Type} (x:A × B × C × D × E × F × G × H × I × J × K):J:=x.2.2.2.2.2.2.2.2.2.1
abbrev h9 {A B C D E F G H I J:Type} (x:A × B × C × D × E × F × G × H × I × J):J:=x.2.2.2.2.2.2.2.2.2
abbrev g10 {A B C D E F G H I J K L:Type} (x:A × B × C × D × E × F × G × H × I × J × K × L):K:=x.2.2.2.2.2.2.2.2.2.2.1
abbrev h10 {A B C D E F G H I J K:Type} (x:A × B × C × D × E × F × G × H × I × J × K):K:=x.2.2.2.2.2.2.2.2.2.2
abbrev g11 {A B C D E F G H I J K L M:Type} (x:A × B × C × D × E × F × G × H × I × J × K × L × M):L:=x.2.2.2.2.2.2.2.2.2.2.2.1
abbrev h11 {A B C D E F G H I J K L:Type} (x:A × B × C × D × E × F × G × H × I × J × K × L):L:=x.2.2.2.2.2.2.2.2.2.2.2
abbrev g12 {A B C D E F G H I J K L M N:Type} (x:A × B × C × D × E × F × G × H × I × J × K × L × M × N):M:=x.2.2.2.2.2.2.2.2.2.2.2.2.1
abbrev h12 {A B C D E F G H I J K L M:Type} (x:A × B × C × D × E × F × G × H × I × J × K × L × M):M:=x.2.2.2.2.2.2.2.2.2.2.2.2
abbrev g13 {A B C D E F G H I J K L M N O:Type} (x:A × B × C × D × E × F × G × H × I × J × K × L × M × N × O):N:=x.2.2.2.2.2.2.2.2.2.2.2.2.2.1
abbrev h13 {A B C D E F G H I J K L M N:Type} (x:A × B × C × D × E × F × G × H × I × J × K × L × M × N):N:=x.2.2.2.2.2.2.2.2.2.2.2.2.2
abbrev g14 {A B C D E F G H I J K L M N O P:Type} (x:A × B × C × D × E × F × G × H × I × J × K × L × M × N × O × P):O:=x.2.2.2.2.2.2.2.2.2.2.2.2.2.2.1
abbrev h14 {A B C D E F G H I J K L M N O:Type} (x:A × B × C × D × E × F × G × H × I × J × K × L × M × N × O):O:=x.2.2.2.2.2.2.2.2.2.2.2.2.2.2
abbrev u0 {A B Z:Type} (x:A × B) (v:Z):Z × B:=(v,x.2)
abbrev u1 {A B C Z:Type} (x:A × B × C) (v:Z):A × Z × C:=(x.1,v,x.2.2)
abbrev e1 {A B Z:Type} (x:A × B) (v:Z):A × Z:=(x.1,v)
abbrev u2 {A B C D Z:Type} (x:A × B × C × D) (v:Z):A × B × Z × D:=(x.1,x.2.1,v,x.2.2.2)
abbrev e2 {A B C Z:Type} (x:A × B × C) (v:Z):A × B × Z:=(x.1,x.2.1,v)
abbrev u3 {A B C D E Z:Type} (x:A × B × C × D × E) (v:Z):A × B × C × Z × E:=(x.1,x.2.1,x.2.2.1,v,x.2.2.2.2)
abbrev e3 {A B C D Z:Type} (x:A × B × C × D) (v:Z):A × B × C × Z:=(x.1,x.2.1,x.2.2.1,v)
abbrev u4 {A B C D E F Z:Type} (x:A × B × C × D × E × F) (v:Z):A × B × C × D × Z × F:=(x.1,x.2.1,x.2.2.1,x.2.2.2.1,v,x.2.2.2.2.2)
abbrev e4 {A B C D E Z:Type} (x:A × B × C × D × E) (v:Z):A × B × C × D × Z:=(x.1,x.2.1,x.2.2.1,x.2.2.2.1,v)
abbrev u5 {A B C D E F G Z:Type} (x:A × B × C × D × E × F × G) (v:Z):A × B × C × D × E × Z × G:=(x.1,x.2.1,x.2.2.1,x.2.2.2.1,x.2.2.2.2.1,v,x.2.2.2.2.2.2)
abbrev e5 {A B C D E F Z:Type} (x:A × B × C × D × E × F) (v:Z):A × B × C × D × E × Z:=(x.1,x.2.1,x.2.2.1,x.2.2.2.1,x.2.2.2.2.1,v)
abbrev u6 {A B C D E F G H Z:Type} (x:A × B × C × D × E × F × G × H) (v:Z):A × B × C × D × E × F × Z × H:=(x.1,x.2.1,x.2.2.1,x.2.2.2.1,x.2.2.2.2.1,x.2.2.2.2.2.1,v,x.2.2.2.2.2.2.2)
abbrev e6 {A B C D E F G Z:Type} (x:A × B × C × D × E × F × G) (v:Z):A × B × C × D × E × F × Z:=(x.1,x.2.1,x.2.2.1,x.2.2.2.1,x.2.2.2.2.1,x.2.2.2.2.2.1,v)
abbrev u7 {A B C D E F G H I Z:Type} (x:A × B × C × D × E × F × G × H × I) (v:Z):A × B × C × D × E × F × G × Z × I:=(x.1,x.2.1,x.2.2.1,x.2.2.2.1,x.2.2.2.2.1,x.2.2.2.2.2.1,x.2.2.2.2.2.2.1,v,x.2.2.2.2.2.2.2.2)
abbrev e7 {A B C D E F G H Z:Type} (x:A × B × C × D × E × F × G × H) (v:Z):A × B × C × D × E × F × G × Z:=(x.1,x.2.1,x.2.2.1,x.2.2.2.1,x.2.2.2.2.1,x.2.2.2.2.2.1,x.2.2.2.2.2.2.1,v)
abbrev u8 {A B C D E F G H I J Z:Type} (x:A × B × C × D × E × F × G × H × I × J) (v:Z):A × B × C × D × E × F × G × H × Z × J:=(x.1,x.2.1,x.2.2.1,x.2.2.2.1,x.2.2.2.2.1,x.2.2.2.2.2.1,x.2.2.2.2.2.2.1,x.2.2.2.2.2.2.2.1,v,x.2.2.2.2.2.2.2.2.2)
abbrev e8 {A B C D E F G H I Z:Type} (x:A × B × C × D × E × F × G × H × I) (v:Z):A × B × C × D × E × F × G × H × Z:=(x.1,x.2.1,x.2.2.1,x.2.2.2.1,x.2.2.2.2.1,x.2.2.2.2.2.1,x.2.2.2.2.2.2.1,x.2.2.2.2.2.2.2.1,v)
abbrev u9 {A B C D E F G H I J K Z:Type} (x:A × B × C × D × E × F × G × H × I × J × K) (v:Z):A × B × C × D × E × F × G × H × I × Z × K:=(x.1,x.2.1,x.2.2.1,x.2.2.2.1,x.2.2.2.2.1,x.2.2.2.2.2.1,x.2.2.2.2.2.2.1,x.2.2.2.2.2.2.2.1,x.2.2.2.2.2.2.2.2.1,v,x.2.2.2.2.2.2.2.2.2.2)
abbrev e9 {A B C D E F G H I J Z:Type} (x:A × B × C × D × E × F × G × H × I × J) (v:Z):A × B × C × D × E × F × G × H × I × Z:=(x.1,x.2.1,x.2.2.1,x.2.2.2.1,x.2.2.2.2.1,x.2.2.2.2.2.1,x.2.2.2.2.2.2.1,x.2.2.2.2.2.2.2.1,x.2.2.2.2.2.2.2.2.1,v)
abbrev u10 {A B C D E F G H I J K L Z:Type} (x:A × B × C × D × E × F × G × H × I × J × K × L) (v:Z):A × B × C × D × E × F × G × H × I × J × Z × L:=(x.1,x.2.1,x.2.2.1,x.2.2.2.1,x.2.2.2.2.1,x.2.2.2.2.2.1,x.2.2.2.2.2.2.1,x.2.2.2.2.2.2.2.1,x.2.2.2.2.2.2.2.2.1,x.2.2.2.2.2.2.2.2.2.1,v,x.2.2.2.2.2.2.2.2.2.2.2)
abbrev e10 {A B C D E F G H I J K Z:Type} (x:A × B × C × D × E × F × G × H × I × J × K) (v:Z):A × B × C × D × E × F × G × H × I × J × Z:=(x.1,x.2.1,x.2.2.1,x.2.2.2.1,x.2.2.2.2.1,x.2.2.2.2.2.1,x.2.2.2.2.2.2.1,x.2.2.2.2.2.2.2.1,x.2.2.2.2.2.2.2.2.1,x.2.2.2.2.2.2.2.2.2.1,v)
abbrev u11 {A B C D E F G H I J K L M Z:Type} (x:A × B × C × D × E × F × G × H × I × J × K × L × M) (v:Z):A × B × C × D × E × F × G × H × I × J × K × Z × M:=(x.1,x.2.1,x.2.2.1,x.2.2.2.1,x.2.2.2.2.1,x.2.2.2.2.2.1,x.2.2.2.2.2.2.1,x.2.2.2.2.2.2.2.1,x.2.2.2.2.2.2.2.2.1,x.2.2.2.2.2.2.2.2.2.1,x.2.2.2.2.2.2.2.2.2.2.1,v,x.2.2.2.2.2.2.2.2.2.2.2.2)
abbrev e11 {A B C D E F G H I J K L Z:Type} (x:A × B × C × D × E × F × G × H × I × J × K × L) (v:Z):A × B × C × D × E × F × G × H × I × J × K × Z:=(x.1,x.2.1,x.2.2.1,x.2.2.2.1,x.2.2.2.2.1,x.2.2.2.2.2.1,x.2.2.2.2.2.2.1,x.2.2.2.2.2.2.2.1,x.2.2.2.2.2.2.2.2.1,x.2.2.2.2.2.2.2.2.2.1,x.2.2.2.2.2.2.2.2.2.2.1,v)
abbrev u12 {A B C D E F G H I J K L M N Z:Type} (x:A × B × C × D × E × F × G × H × I × J × K × L × M × N) (v:Z):A × B × C × D × E × F × G × H × I × J × K × L × Z × N:=(x.1,x.2.1,x.2.2.1,x.2.2.2.1,x.2.2.2.2.1,x.2.2.2.2.2.1,x.2.2.2.2.2.2.1,x.2.2.2.2.2.2.2.1,x.2.2.2.2.2.2.2.2.1,x.2.2.2.2.2.2.2.2.2.1,x.2.2.2.2.2.2.2.2.2.2.1,x.2.2.2.2.2.2.2.2.2.2.2.1,v,x.2.2.2.2.2.2.2.2.2.2.2.2.2)
abbrev e12 {A B C D E F G H I J K L M Z:Type} (x:A × B × C × D × E × F × G × H × I × J × K × L × M) (v:Z):A × B × C × D × E × F × G × H × I × J × K × L × Z:=(x.1,x.2.1,x.2.2.1,x.2.2.2.1,x.2.2.2.2.1,x.2.2.2.2.2.1,x.2.2.2.2.2.2.1,x.2.2.2.2.2.2.2.1,x.2.2.2.2.2.2.2.2.1,x.2.2.2.2.2.2.2.2.2.1,x.2.2.2.2.2.2.2.2.2.2.1,x.2.2.2.2.2.2.2.2.2.2.2.1,v)
abbrev u13 {A B C D E F G H I J K L M N O Z:Type} (x:A × B × C × D × E × F × G × H × I × J × K × L × M × N × O) (v:Z):A × B × C × D × E × F × G × H × I × J × K × L × M × Z × O:=(x.1,x.2.1,x.2.2.1,x.2.2.2.1,x.2.2.2.2.1,x.2.2.2.2.2.1,x.2.2.2.2.2.2.1,x.2.2.2.2.2.2.2.1,x.2.2.2.2.2.2.2.2.1,x.2.2.2.2.2.2.2.2.2.1,x.2.2.2.2.2.2.2.2.2.2.1,x.2.2.2.2.2.2.2.2.2.2.2.1,x.2.2.2.2.2.2.2.2.2.2.2.2.1,v,x.2.2.2.2.2.2.2.2.2.2.2.2.2.2)
abbrev e13 {A B C D E F G H I J K L M N Z:Type} (x:A × B × C × D × E × F × G × H × I × J × K × L × M × N) (v:Z):A × B × C × D × E × F × G × H × I × J × K × L × M × Z:=(x.1,x.2.1,x.2.2.1,x.2.2.2.1,x.2.2.2.2.1,x.2.2.2.2.2.1,x.2.2.2.2.2.2.1,x.2.2.2.2.2.2.2.1,x.2.2.2.2.2.2.2.2.1,x.2.2.2.2.2.2.2.2.2.1,x.2.2.2.2.2.2.2.2.2.2.1,x.2.2.2.2.2.2.2.2.2.2.2.1,x.2.2.2.2.2.2.2.2.2.2.2.2.1,v)
abbrev u14 {A B C D E F G H I J K L M N O P Z:Type} (x:A × B × C × D × E × F × G × H × I × J × K × L × M × N × O × P) (v:Z):A × B × C × D × E × F × G × H × I × J × K × L × M × N × Z × P:=(x.1,x.2.1,x.2.2.1,x.2.2.2.1,x.2.2.2.2.1,x.2.2.2.2.2.1,x.2.2.2.2.2.2.1,x.2.2.2.2.2.2.2.1,x.2.2.2.2.2.2.2.2.1,x.2.2.2.2.2.2.2.2.2.1,x.2.2.2.2.2.2.2.2.2.2.1,x.2.2.2.2.2.2.2.2.2.2.2.1,x.2.2.2.2.2.2.2.2.2.2.2.2.1,x.2.2.2.2.2.2.2.2.2.2.2.2.2.1,v,x.2.2.2.2.2.2.2.2.2.2.2.2.2.2.2)
abbrev e14 {A B C D E F G H I J K L M N O Z:Type} (x:A × B × C × D × E × F × G × H × I × J × K × L × M × N × O) (v:Z):A × B × C × D × E × F × G × H × I × J × K × L × M × N × Z:=(x.1,x.2.1,x.2.2.1,x.2.2.2.1,x.2.2.2.2.1,x.2.2.2.2.2.1,x.2.2.2.2.2.2.1,x.2.2.2.2.2.2.2.1,x.2.2.2.2.2.2.2.2.1,x.2.2.2.2.2.2.2.2.2.1,x.2.2.2.2.2.2.2.2.2.2.1,x.2.2.2.2.2.2.2.2.2.2.2.1,x.2.2.2.2.2.2.2.2.2.2.2.2.1,x.2.2.2.2.2.2.2.2.2.2.2.2.2.1,v)
abbrev nF (n:Nat):List Bool:=List.replicate n false
abbrev V1 (v:LV):SV:=SV.cv (CV.one v)
abbrev Vp (t:Ty) (x:t.den):SV:=SV.cv (CV.one (LV.pure t x))
def fiB (ps:List PK) (fi:Fi):Fi:={ fi with keep:=Q2t 0 ps++fi.keep }
def iter {A:Type} (z:A) (F:A→A):Nat→A
 | 0=>z
 | m+1=>F (iter z F m)
def Qjd {A:Type} (z:A) (F:Nat→A→A):Nat→A
 | 0=>z
 | m+1=>F m (Qjd z F m)
theorem Qj9 {A:Type} (z:A) (F:A→A) (m:Nat):iter z F (m+1)=F (iter z F m):=rfl
def Qa5 {R:Type} [DecidableEq R] (a b:Option R):Option R:=if a=b then a else none
theorem Qiz {R:Type} [DecidableEq R]:(Q35:Option R→Option R→Option R)=Qa5:=by
 funext a b
 unfold Qa5
 split
 ·rename_i h;exact Qfd h
 ·rename_i h
  unfold Q35
  split
  ·contradiction
  ·rfl
theorem Qhk {R:Type} [DecidableEq R] (a:Option R):Qa5 a a=a:=if_pos rfl
theorem Qk2 {τ:TypeId→Option Ty} {P:Program}:Je τ P []:=fun f e h=>by cases h
theorem Qk0 {τ:TypeId→Option Ty} {P:Program} {f:FuncId} {fn:Func} (hf:P.funcs[f]?=some fn) (b:(fn.name=="runtime.NumGoroutine")=false) (a:fn.body.isNone=false):Q4t τ P f Qji:=
 ⟨⟨fn,hf,b,a⟩,fun _ _ _ _ _ _ _ _ _ _ h=>by cases h⟩
theorem Qk1 {τ:TypeId→Option Ty} {P:Program} {n:Nat} {e:Ent} {Γ:Ctx} (h:Q4t τ P n e) (hΓ:Je τ P Γ):Je τ P ((n,e)::Γ):=by
 intro f e' hf
 simp only [Q8w] at hf
 cases hb:Nat.beq n f with
 | true=>
  rw [hb] at hf
  have h1:=sI hf
  subst h1
  have h2:=Nat.eq_of_beq_eq_true hb
  subst h2
  exact h
 | false=>rw [hb] at hf;exact hΓ f e' hf
end Go.PE
namespace Go.PE
open Go.RowKit
def Q6v:(t:Ty)→t.den→Prop
 | .int k,n=>(Lit.int k n).wf=true
 | .bool,_=>True
 | .str,(s:ByteArray)=>s.size≤maxLen
 | .ifc,_=>True
 | .sl _ e,(xs:List e.den)=>xs.length≤maxLen∧∀ x∈xs,Q6v e x
 | .pair a b,x=>Q6v a x.1∧Q6v b x.2
 | .unit,_=>True
def Qho:(ps:List PK)→PDs ps→Prop
 | [],_=>True
 | .val t::r,x=>Q6v t x.1∧Qho r x.2
 | _::r,x=>Qho r x.2
def Q7v (τ:Tab) (T:TypeId) (t:Ty):Bool:=match τ.ty T with | some t'=>Ty.beq t' t | none=>false
theorem Qaj {τ:Tab} {T:TypeId} {t:Ty} (h:Q7v τ T t=true):τ.ty T=some t:=by
 unfold Q7v at h
 split at h
 ·rename_i e;rw [e,Ty.eq_of_beq h]
 ·cases h
def Q1y (τ:Tab):Nat→TypeId→Ty→Bool
 | 0,_,_=>false
 | n+1,T,t=>
  match τ.td T,t with
  | some (.int k),.int k'=>Nat.beq (Qq k) (Qq k')
  | some .bool,.bool=>true
  | some .str,.str=>true
  | some (.slc e),.sl e' te=>Nat.beq e e'&&Q7v τ e te&&Q1y τ n e te
  | some (.stc fs),t=>t.isAgg&&rfs (Q1y τ n) (Q7v τ) fs t 0
  | some (.arr k e),t=>(match τ.ty e with | some te=>t.isAgg&&rfs (Q1y τ n) (Q7v τ) ((List.range k).map fun i=>(e,i*te.cells)) t 0 | none=>false)
  | _,_=>false
where rfs (g h:TypeId→Ty→Bool):List (TypeId × Nat)→Ty→Nat→Bool
 | [],.unit,_=>true
 | [f],.pair a .unit,o=>Nat.beq f.2 o&&g f.1 a&&h f.1 a
 | [f],t,o=>Nat.beq f.2 o&&g f.1 t&&h f.1 t
 | f::r,.pair a b,o=>Nat.beq f.2 o&&g f.1 a&&h f.1 a&&rfs g h r b (o+a.cells)
 | _,_,_=>false
section
variable {P:Program} {tab:Tab} {H:Type} {enc:TypeId × Value→H} {w:World} {base:Nat} {spare:Nat→Bool} {held:Bool}
theorem Qcj {A B:Type} {f:A→Option B}:∀ {l:List A} {r:List B},l.mapM f=some r→∀ x∈l,∃ y,f x=some y:=by
 intro l
 induction l with
 | nil=>intro r _ x hx;cases hx
 | cons a q ih=>
  intro r h x hx
  simp only [List.mapM_cons,Option.bind_eq_bind,Option.pure_def,Option.bind_eq_some_iff] at h
  obtain ⟨y,hy,z,hz,_⟩:=h
  rcases List.mem_cons.1 hx with rfl | hx
  ·exact ⟨y,hy⟩
  ·exact ih hz x hx
theorem Jz (hT:Qc P tab) {T:TypeId} {t:Ty} (h:tab.ty T=some t):P.cellsOf T=t.cells:=by
 obtain ⟨i,z,h1,h2,_⟩:=(hT.ty T t h).info
 simp [Program.cellsOf,h1,h2]
theorem Q94 {α:Type} {xs:List α} {i:Nat} {d x:α} (h:xs[i]?=some x):List.getD xs i d=x:=by
 rw [List.getD_eq_getElem?_getD,h];rfl
theorem Qbw {α:Type} {p:Nat→α→Prop}:∀ (n:Nat),(∀ i,i<n→∃ x,p i x)→∃ l:List α,l.length=n∧∀ i x,l[i]?=some x→p i x:=by
 intro n
 induction n with
 | zero=>intro _;exact ⟨[],rfl,fun i x h=>by simp at h⟩
 | succ n ih=>
  intro h
  obtain ⟨l,hl,hp⟩:=ih fun i hi=>h i (by omega)
  obtain ⟨x,hx⟩:=h n (by omega)
  refine ⟨l++[x],by simp [hl],fun i y hy=>?_⟩
  by_cases hi:i<l.length
  ·rw [List.getElem?_append_left hi] at hy;exact hp i y hy
  ·rw [List.getElem?_append_right (by omega)] at hy
   have:i - l.length=0:=by
    have:=(List.getElem?_eq_some_iff.1 hy).1
    simp at this;omega
   rw [this] at hy
   have e:i=n:=by omega
   simp at hy
   subst hy;subst e;exact hx
theorem Qeo (hT:Qc P tab) {n m:Nat} (ih:∀ T t cs x,Q1y tab n T t=true→tab.ty T=some t→DataW.trod enc P w base spare held m T cs=some x→∃ y:t.den,Rep tab.ty (fun k=>k<w.heap.size) w t y cs∧Q6v t y)
  (cs:List Value):∀ (fs:List (TypeId × Nat)) (t:Ty) (o:Nat),Q1y.rfs (Q1y tab n) (Q7v tab) fs t o=true →
  (∀ f∈fs,∃ x,DataW.trod enc P w base spare held m f.1 ((cs.drop f.2).take (P.cellsOf f.1))=some x)→cs.length=o+t.cells →
  ∃ y:t.den,Rep tab.ty (fun k=>k<w.heap.size) w t y (cs.drop o)∧Q6v t y:=by
 have one:∀ (f:TypeId × Nat) (t:Ty) (o:Nat),(Nat.beq f.2 o&&Q1y tab n f.1 t&&Q7v tab f.1 t)=true →
   (∃ x,DataW.trod enc P w base spare held m f.1 ((cs.drop f.2).take (P.cellsOf f.1))=some x)→∃ y:t.den,Rep tab.ty (fun k=>k<w.heap.size) w t y ((cs.drop o).take t.cells)∧Q6v t y:=by
  intro f t o h hx
  simp only [Bool.and_eq_true] at h
  obtain ⟨⟨h1,h2⟩,h3⟩:=h
  obtain ⟨x,hx⟩:=hx
  have ht:=Qaj h3
  rw [Jz hT ht,Nat.eq_of_beq_eq_true h1] at hx
  exact ih _ _ _ _ h2 ht hx
 intro fs
 induction fs with
 | nil=>
  intro t o h _ hl
  cases t with
  | unit=>
   refine ⟨(),?_,trivial⟩
   have:cs.drop o=[]:=List.drop_eq_nil_of_le (by simp [hl,Ty.cells])
   rw [this];rfl
  | _=>simp [Q1y.rfs] at h
 | cons f r d=>
  intro t o h hx hl
  have c:∀ t,r=[]→cs.length=o+t.cells→(Nat.beq f.2 o&&Q1y tab n f.1 t&&Q7v tab f.1 t)=true→∃ y:t.den,Rep tab.ty (fun k=>k<w.heap.size) w t y (cs.drop o)∧Q6v t y:=by
   intro t hr hl h
   obtain ⟨y,h1,h2⟩:=one f t o h (hx f (List.mem_cons_self ..))
   refine ⟨y,?_,h2⟩
   rwa [List.take_of_length_le (by rw [List.length_drop];omega)] at h1
  have more:∀ a b,cs.length=o+(a.cells+b.cells)→(Nat.beq f.2 o&&Q1y tab n f.1 a&&Q7v tab f.1 a&&Q1y.rfs (Q1y tab n) (Q7v tab) r b (o+a.cells))=true →
    ∃ y:(Ty.pair a b).den,Rep tab.ty (fun k=>k<w.heap.size) w (.pair a b) y (cs.drop o)∧Q6v (.pair a b) y:=by
   intro a b hl h
   rw [Bool.and_eq_true] at h
   obtain ⟨y,h1,h2⟩:=one f a o h.1 (hx f (List.mem_cons_self ..))
   obtain ⟨z,h3,h4⟩:=d b (o+a.cells) h.2 (fun g hg=>hx g (List.mem_cons_of_mem _ hg)) (by omega)
   refine ⟨(y,z),⟨_,_,?_,h1,h3⟩,h2,h4⟩
   rw [← List.drop_drop]
   exact (List.take_append_drop _ _).symm
  cases r with
  | nil=>
   cases t with
   | pair a b=>
    cases b with
    | unit=>
     simp only [Q1y.rfs] at h
     simp only [Ty.cells,Nat.add_zero] at hl
     obtain ⟨y,h1,h2⟩:=c a rfl hl h
     refine ⟨(y,()),⟨_,[],?_,h1,rfl⟩,h2,trivial⟩
     simp
    | _=>exact c _ rfl hl (by simpa only [Q1y.rfs] using h)
   | _=>exact c _ rfl hl (by simpa only [Q1y.rfs] using h)
  | cons g r'=>
   cases t with
   | pair a b=>
    simp only [Q1y.rfs] at h
    exact more a b (by simpa [Ty.cells] using hl) h
   | _=>simp [Q1y.rfs] at h
theorem Qgr (hT:Qc P tab):∀ (n:Nat) (T:TypeId) (t:Ty) (m:Nat) (cs:List Value) (x:DataW H × List MemPlace),Q1y tab n T t=true→tab.ty T=some t →
  DataW.trod enc P w base spare held m T cs=some x→∃ y:t.den,Rep tab.ty (fun k=>k<w.heap.size) w t y cs∧Q6v t y:=by
 intro n
 induction n with
 | zero=>intro T t m cs x h;cases h
 | succ n ih=>
  intro T t m cs x h ht hx
  cases m with
  | zero=>simp [DataW.trod] at hx
  | succ m=>
  unfold Q1y at h
  split at h
  ·rename_i k k' htd
   have hu:P.underlying T=some (.int k):=hT.td T _ htd
   obtain rfl:=Jw (Nat.eq_of_beq_eq_true h)
   unfold DataW.trod at hx
   rw [hu] at hx
   split at hx<;>simp_all
   obtain ⟨⟨e,hw⟩,_⟩:=hx
   subst_vars
   exact ⟨_,rfl,hw⟩
  ·rename_i htd
   have hu:P.underlying T=some .bool:=hT.td T _ htd
   unfold DataW.trod at hx
   rw [hu] at hx
   split at hx<;>simp_all
   exact ⟨_,rfl,trivial⟩
  ·rename_i htd
   have hu:P.underlying T=some .string:=hT.td T _ htd
   unfold DataW.trod at hx
   rw [hu] at hx
   split at hx<;>simp_all
   exact ⟨_,rfl,hx.1⟩
  ·rename_i e e' te htd
   have hu:P.underlying T=some (.slice e):=hT.td T _ htd
   simp only [Bool.and_eq_true] at h
   obtain ⟨⟨h1,h2⟩,h3⟩:=h
   obtain rfl:=Nat.eq_of_beq_eq_true h1
   have hte:=Qaj h2
   ·have F:=hT.pos T e te htd hte
    have hc:=Jz hT hte
    rcases DataW.trod_slice hu hx with ⟨rfl,_⟩ | ⟨a,len,cap,I,Q,q,_,rfl,_,hb,hl,hm,c,K,_,_⟩
    ·exact ⟨[],⟨none,0,rfl,Nat.le_refl _,by unfold maxLen;decide,fun h0=>absurd h0 (by simp)⟩,by simp [maxLen],fun x hx=>by cases hx⟩
    ·have A:∀ i,i<len→∃ y:te.den,(∃ ce,(w.cells? base (a.add (i*te.cells)) te.cells)=some ce∧Rep tab.ty (fun k=>k<w.heap.size) w te y ce)∧Q6v te y:=by
      intro i hi
      have:=K i hi
      rw [List.getElem?_eq_getElem (by omega),Option.bind_eq_some_iff] at this
      obtain ⟨ce,d,hz⟩:=this
      obtain ⟨y,hy,N⟩:=ih e te q ce _ h3 hte hz
      exact ⟨y,⟨ce,by rw [← hc];exact d,hy⟩,N⟩
     obtain ⟨xs,B,G⟩:=Qbw len A
     have u:∀ (b:Addr) (k:Nat) (ce:List Value),w.cells? base b k=some ce→ce.length=k∧∀ j,j<k→w.cell? (b.add j)=some (ce.getD j undef):=by
      intro b k ce d
      unfold World.cells? at d
      split at d
      ·have c:∀ (l:List Nat) (r:List Value),l.mapM (fun i=>w.cell? (b.add i))=some r→r.length=l.length∧∀ j,j<l.length→w.cell? (b.add (l.getD j 0))=some (r.getD j undef):=by
        intro l
        induction l with
        | nil=>intro r hr;simp at hr;subst hr;exact ⟨rfl,fun j hj=>by simp at hj⟩
        | cons p l O=>
         intro r hr
         simp only [List.mapM_cons,Option.bind_eq_bind,Option.pure_def,Option.bind_eq_some_iff] at hr
         obtain ⟨y,hy,z,hz,e⟩:=hr
         have e:=sI e
         subst e
         obtain ⟨i1,i2⟩:=O z hz
         refine ⟨by simp [i1],fun j hj=>?_⟩
         cases j with
         | zero=>simpa using hy
         | succ j=>simpa using i2 j (by simpa using hj)
       obtain ⟨l1,l2⟩:=c _ _ d
       simp at l1
       refine ⟨l1,fun j hj=>?_⟩
       have:=l2 j (by simpa using hj)
       rwa [Q94 (x:=j) (by simp [hj])] at this
      ·cases d
     refine ⟨xs,⟨some a,cap,by rw [B],by omega,hm,fun h0=>?_⟩,by rw [B];exact Nat.le_trans hl hm,fun x hx=>?_⟩
     ·have J:0<len:=by omega
      obtain ⟨y0,⟨R,D,_⟩,_⟩:=A 0 J
      have hz:=(u _ _ _ D).2 0 F
      have ea:(a.add (0*te.cells)).add 0=a:=by simp [Addr.add]
      rw [ea] at hz
      obtain ⟨b,o,s⟩:=a
      have hs:s=none:=by
       unfold World.cell? at hz
       split at hz
       ·split at hz
        ·cases hz
        ·rename_i M;simpa using M
       ·cases hz
      subst hs
      have C:b<w.heap.size:=by
       unfold World.cell? at hz
       split at hz
       ·rename_i hh;exact (Array.getElem?_eq_some_iff.1 hh).1
       ·cases hz
      refine ⟨b,o,rfl,C,C,fun i hi=>?_⟩
      have S:i<len:=by rw [← B];exact hi
      have E:xs[i]?=some (xs[i]'hi):=List.getElem?_eq_getElem hi
      obtain ⟨⟨ce,d,hr⟩,_⟩:=G i _ E
      obtain ⟨c1,c2⟩:=u _ _ _ d
      refine ⟨ce,c1,fun j hj=>?_,?_⟩
      ·have:=c2 j (by omega)
       rwa [Zo,Zo] at this
      ·rw [Q94 E];exact hr
     ·obtain ⟨i,hi⟩:=List.getElem?_of_mem hx
      exact (G i x hi).2
  ·rename_i fs htd
   obtain ⟨gs,hu,L⟩:∃ gs:Array Field,P.underlying T=some (.struct gs)∧(gs.toList.map fun g=>(g.type,g.offset))=fs:=hT.td T _ htd
   rw [Bool.and_eq_true] at h
   unfold DataW.trod at hx
   rw [hu] at hx
   simp only at hx
   split at hx
   ·rename_i c
    rw [Option.map_eq_some_iff] at hx
    obtain ⟨r,hr,_⟩:=hx
    have v:=Qcj hr
    rw [Jz hT ht] at c
    have:=Qeo hT (fun T t cs x h1 h2 h3=>ih T t m cs x h1 h2 h3) cs fs _ 0 h.2 (fun f hf=>by
     rw [← L] at hf
     obtain ⟨g,hg,rfl⟩:=List.mem_map.1 hf
     exact v g hg) (by rw [c];omega)
    simpa using this
   ·cases hx
  ·rename_i k e htd
   have hu:P.underlying T=some (.array k e):=hT.td T _ htd
   split at h
   ·rename_i te hte
    rw [Bool.and_eq_true] at h
    unfold DataW.trod at hx
    rw [hu] at hx
    simp only at hx
    split at hx
    ·rename_i c
     rw [Option.map_eq_some_iff] at hx
     obtain ⟨r,hr,_⟩:=hx
     have v:=Qcj hr
     rw [Jz hT ht] at c
     rw [Jz hT hte] at v
     have:=Qeo hT (fun T t cs x h1 h2 h3=>ih T t m cs x h1 h2 h3) cs _ _ 0 h.2 (fun f hf=>by
      obtain ⟨i,hi,rfl⟩:=List.mem_map.1 hf
      rw [Jz hT hte]
      exact v i hi) (by rw [c];omega)
     simpa using this
    ·cases hx
   ·cases h
  ·cases h
theorem Qf8 (hT:Qc P tab) {n:Nat} {T:TypeId} {t:Ty} {v:Value} {d:DataW H} {ps:List MemPlace} {r:Reach} {b0:Nat} (h:Q1y tab n T t=true) (ht:tab.ty T=some t)
  (a:Value.okWide P w r b0 T v) (hx:DataW.Trod enc P w base spare held T v d ps):∃ y:t.den,Q0k tab.ty (fun k=>k<w.heap.size) w t y v∧Q6v t y:=by
 obtain ⟨m,hm⟩:=hx
 obtain ⟨y,hy,b⟩:=Qgr hT n T t m _ _ h ht hm
 refine ⟨y,?_,b⟩
 cases ha:t.isAgg with
 | true=>
  refine .inl ⟨ha,?_⟩
  have:∃ cs,v=.agg cs:=by
   unfold Value.okWide at a
   rcases (hT.ty T t ht).agg ha with ⟨fs,hu⟩ | ⟨n,e,hu⟩
   ·rw [hu] at a;obtain ⟨cs,h,_⟩:=a;exact ⟨cs,h⟩
   ·rw [hu] at a;obtain ⟨cs,h,_⟩:=a;exact ⟨cs,h⟩
  obtain ⟨cs,rfl⟩:=this
  exact ⟨cs.toList,by simp,hy⟩
 | false=>
  refine .inr ⟨ha,?_⟩
  have:∀ cs,v≠.agg cs:=by
   intro cs hv
   subst hv
   obtain ⟨d,hu,hd⟩:=(hT.ty T t ht).one ha
   unfold Value.okWide at a
   rw [hu] at a
   cases d<;>simp_all [Cell.okWide,Cell.ok,notAgg]
  have e:v.cells.toList=[v]:=by
   cases v<;>first | rfl | exact absurd rfl (this _)
  rw [e] at hy
  exact hy
def Q85 (τ:Tab):List TypeId→List PK→Bool
 | [],[]=>true
 | T::r,.val t::q=>Q1y τ 9 T t&&Q7v τ T t&&Q85 τ r q
 | _,_=>false
theorem Qg0 (hT:Qc P tab) {r:Reach} {b0:Nat}:∀ (ts:List TypeId) (ks:List PK) (vs:List Value) (ds:List (DataW H)) (ps:List MemPlace),Q85 tab ts ks=true →
  (∀ (j:Nat) T v,ts[j]?=some T→vs[j]?=some v→Value.okWide P w r b0 T v)→DataW.TrodAll enc P w base spare held ts vs ds ps →
  ∃ x:PDs ks,X5 tab.ty P (fun k=>k<w.heap.size) w ks x vs []∧Qho ks x:=by
 intro ts
 induction ts with
 | nil=>
  intro ks vs ds ps hf _ h
  cases ks with
  | cons _ _=>simp [Q85] at hf
  | nil=>
   cases vs with
   | nil=>exact ⟨(),⟨rfl,rfl⟩,trivial⟩
   | cons _ _=>cases ds<;>simp [DataW.TrodAll] at h
 | cons T r' ih=>
  intro ks vs ds ps hf c h
  cases vs with
  | nil=>cases ds<;>simp [DataW.TrodAll] at h
  | cons v vs=>
   cases ds with
   | nil=>simp [DataW.TrodAll] at h
   | cons d ds=>
    obtain ⟨p,q,h1,h2,_⟩:=h
    cases ks with
    | nil=>simp [Q85] at hf
    | cons k ks=>
     cases k with
     | val t=>
      simp only [Q85,Bool.and_eq_true] at hf
      obtain ⟨⟨f1,f2⟩,f3⟩:=hf
      have ht:=Qaj f2
      ·obtain ⟨y,hy,e⟩:=Qf8 hT f1 ht (c 0 T v rfl rfl) h1
       obtain ⟨z,hz,f⟩:=ih ks vs ds q f3 (fun j T v a b=>c (j+1) T v a b) h2
       exact ⟨(y,z),⟨v,vs,[],[],rfl,rfl,⟨hy,rfl⟩,hz⟩,e,f⟩
     | _=>simp [Q85] at hf
theorem Fr.lower {w w':World} {X:Nat→Prop} (h:Fr X w w') (hX:∀ k,¬ X k):Below w.heap.size w w':=
 ⟨h.1,h.2.1,h.2.2.1,h.2.2.2.1,fun k hk=>h.2.2.2.2 k hk (hX k)⟩
def Qhu (P:Program) (ts:List TypeId):Bool:=ts.all fun T=>P.readableRec T&&decide (T<P.types.size)
theorem Qil (hl:laidOutB P=true) {W W':World} (hb:Below W.heap.size W W'):∀ (ts:List TypeId) (vs:List Value) (ds:List (DataW H)) (ps:List MemPlace),Qhu P ts=true →
  (∀ p∈ps,p.block<W.heap.size)→DataW.TrodAll enc P W 0 (fun _=>true) true ts vs ds ps→DataW.TrodAll enc P W' 0 (fun b=>decide (b<W.heap.size)) true ts vs ds ps:=by
 intro ts
 induction ts with
 | nil=>intro vs ds ps _ _ h;cases vs<;>cases ds<;>exact h
 | cons T r ih=>
  intro vs ds ps hr a h
  cases vs with
  | nil=>cases ds<;>exact h
  | cons v vs=>
   cases ds with
   | nil=>exact h
   | cons d ds=>
    obtain ⟨p,q,h1,h2,rfl⟩:=h
    simp only [Qhu,List.all_cons,Bool.and_eq_true,decide_eq_true_eq] at hr
    exact ⟨p,q,Below.trod hl hr.1.1 hr.1.2 h1 hb (fun x hx=>a x (List.mem_append_left _ hx)),
     ih vs ds q (by simpa [Qhu] using hr.2) (fun x hx=>a x (List.mem_append_right _ hx)) h2,rfl⟩
theorem Qd0 {w w':World} {a:MemPlace→Prop} (h:Below w.heap.size w w'):w.keptBut w' a:=by
 refine ⟨h.os,h.output,fun i hi=>?_⟩
 rw [h.block i hi]
 split
 ·rename_i e1 e2
  rw [e1] at e2
  cases e2
  exact ⟨rfl,rfl,rfl,fun _ _=>rfl⟩
 ·rename_i e1 e2
  rw [e1] at e2
  cases e2
  exact Or.inr ⟨rfl,rfl⟩
 ·rfl
theorem Qj7 (hT:Qc P tab) (hl:laidOutB P=true) {f:FuncId} {fn:Func} {ks:List PK} {TB:TypeId} {Q2w X2 g:Bool} {s:ChangeSpec}
  {G:PDs ks→Option (RDs [⟨.bool,[false],none⟩] × ODs ks)} (u:Q4t tab.ty P f ⟨ks,[⟨.bool,[false],none⟩],G⟩) (z:Q85 tab fn.params.toList ks=true) (L:Qhu P fn.params.toList=true)
  (M:fn.resultTypes=#[TB]) (E:P.underlying TB=some .bool) (i:s.vars=[])
  (hs:∀ ds:List (DataW H),ds.length=fn.params.toList.length→(s.fn H ds).results=[.lit (.bool true)]∧(s.fn H ds).args=ds∧(s.fn H ds).vars=[])
  (hG:∀ x,Qho ks x→∃ o,G x=some ((true,()),o))
  {W:World} {b0:Nat} {args:Array Value} {ds gs:List (DataW H)} {l:List MemPlace}
  (J:∀ (j:Nat) t v,fn.params[j]?=some t→args[j]?=some v→Value.okWide P W .any b0 t v)
  (hW:DataW.Whole enc P fn.params.toList s.vars Q2w W args.toList ds gs l) :
  Calls P f args W fun e W'=>∃ v,e=.returned v∧s.post enc P fn Q2w X2 g false W args v W':=by
 have w:=hW
 obtain ⟨p,q,hA,hV,rfl,O,Q⟩:=hW
 rw [i] at hV
 obtain ⟨rfl,rfl⟩:=Go.ChangeShapes.trodVars_none hV
 obtain ⟨x,hx,N⟩:=Qg0 hT fn.params.toList ks args.toList ds p z (fun j t v a b=>J j t v (by simpa using a) (by simpa using b)) hA
 obtain ⟨o,ho⟩:=hG x N
 have hc:=u.2 W (fun k=>k<W.heap.size) x args.toList [] ((true,()),o) (fun _ h=>h) hx List.nodup_nil (fun k hk=>by cases hk) ho
 rw [show args.toList.toArray=args from by simp] at hc
 refine hc.mono fun e W'=>?_
 rintro ⟨vs,S',B1,B2,he,D,_,_,_,_,_,F⟩
 have hb:=F.lower (fun k hk=>by cases hk)
 obtain ⟨v,vr,C1,C2,rfl,_,hr,K,_⟩:=D
 subst K
 obtain ⟨cs,_,m,B⟩:=hr
 have m:=m rfl
 subst m
 obtain ⟨c,cr,D1,D2,e1,_,n,e2,_⟩:=B
 subst e2
 cases e1
 obtain ⟨C,_⟩:=n
 have hv:v=.bool true:=by
  have:([v]:List Value)=[.bool true]:=C
  exact List.head_eq_of_cons_eq this
 subst hv
 have A:ds.length=fn.params.toList.length:=by
  have:∀ (ts:List TypeId) (vs:List Value) (ds:List (DataW H)) (ps:List MemPlace),DataW.TrodAll enc P W 0 (fun _=>true) true ts vs ds ps→ds.length=ts.length:=by
   intro ts
   induction ts with
   | nil=>intro vs ds ps h;cases vs<;>cases ds<;>first | rfl | (simp [DataW.TrodAll] at h)
   | cons T r ih=>
    intro vs ds ps h
    cases vs with
    | nil=>cases ds<;>simp [DataW.TrodAll] at h
    | cons v vs=>
     cases ds with
     | nil=>simp [DataW.TrodAll] at h
     | cons d ds=>obtain ⟨p,q,_,h2,_⟩:=h;simp [ih vs ds q h2]
  exact this _ _ _ _ hA
 obtain ⟨s1,s2,s3⟩:=hs ds A
 have I:∀ y∈p,y.block<W.heap.size:=fun y hy=>w.lt y (by simpa using hy)
 refine ⟨_,he,ds,[],p++[],[],p,[],w,?_,?_,?_,Qd0 hb,fun h=>by cases h⟩
 ·rw [M,List.append_nil,s1]
  show DataW.TrodAll _ _ _ _ _ _ [TB] [Value.bool true] _ _
  refine ⟨[],[],⟨1,?_⟩,rfl,rfl⟩
  show DataW.trod enc P W' _ _ _ 1 TB [Value.bool true]=_
  unfold DataW.trod
  rw [E]
 ·rw [List.append_nil,s2]
  exact Qil hl hb _ _ _ _ L I hA
 ·rw [List.append_nil,s3,i]
  rfl
end
end Go.PE
namespace Go.PE
section
variable {P:Program} {tab:Tab} {N:NN} {w0:World} {F:FF} {S:Nat→Prop} {β:Lab→Value} {st:St} {a:Act} {w:World}
abbrev Q0x (iT:TypeId):Ty:=.pair (.sl iT (.int .i64)) (.int .i64)
def Xu (τ:TypeId→Option Ty) (iT:TypeId) (w:World):List (List Int × Int)→List Value→List Nat→Prop
 | [],cs,B=>cs=[]∧B=[]
 | x::r,cs,B=>∃ c cr B1 B2,cs=c::Value.int .i64 x.2::cr∧B=B1++B2∧Q18 τ (fun _=>False) w iT (.int .i64) x.1 c B1∧Xu τ iT w r cr B2
def Qin (P:Program) (τ:TypeId→Option Ty) (f eT iT:Nat):Prop:=
 Qe1 P f∧∀ (w:World) (S:Nat→Prop) (xs:List (List Int × Int)) (v:Value),(∀ k,S k→k<w.heap.size)→Rep τ S w (.sl eT (Q0x iT)) xs [v]→xs.length≤1073741824→(∀ x∈xs,x.1.length≤1073741824) →
  Calls P f #[v] w fun e w'=>∃ v' cells B,e=.returned v'∧w'.ownsRow 0 eT 2 v' xs.length cells∧Xu τ iT w' xs cells B∧((blk v').toList++B).Nodup∧(∀ j∈(blk v').toList++B,w.heap.size≤j∧j<w'.heap.size)∧Fr (fun _=>False) w w'
theorem Q7i {τ:TypeId→Option Ty} {S':Nat→Prop} {eT:TypeId} {e:Ty} {xs:List e.den} {c:Value} {B:List Nat} (h:Q18 τ S w eT e xs c B) (hS:∀ k,S k→S' k) (hB:∀ j∈B,S' j) (d:∀ j∈B,j<w.heap.size) :
  Rep τ S' w (.sl eT e) xs [c]:=by
 obtain ⟨h0,⟨cells,hr,hc⟩,rfl⟩:=h
 rcases hr.2 with ⟨rfl,hn⟩ | ⟨g,cap,b,rfl,_,hh,h1,h2,h3,h4⟩
 ·exact ⟨none,0,by rw [hn],by omega,by simp [maxLen],fun hp=>by omega⟩
 ·refine ⟨some ⟨g,0,none⟩,cap,rfl,h1,h2,fun hp=>⟨g,0,rfl,hB g (by simp [blk]),d g (by simp [blk]),fun i hi=>?_⟩⟩
  have a:=hc.elem i hi
  refine ⟨_,a.length,?_,a.mono hS⟩
  have f:cells.length=xs.length*e.cells:=hc.length
  have hb:i*e.cells+e.cells≤xs.length*e.cells:=by
   have:=Nat.mul_le_mul_right e.cells (show i+1≤xs.length from hi)
   rwa [Nat.add_mul,Nat.one_mul] at this
  intro j hj
  have hj:j<e.cells:=by rw [a.length] at hj;exact hj
  have e1:b.toList[i*e.cells+j]?=cells[i*e.cells+j]?:=by rw [← h4,List.getElem?_take,if_pos (by omega)]
  have e2:((cells.drop (i*e.cells)).take e.cells)[j]?=cells[i*e.cells+j]?:=by rw [List.getElem?_take,if_pos hj,List.getElem?_drop]
  have e3:i*e.cells+j<b.size:=by
   have:=Nat.mul_le_mul_right e.cells h1
   omega
  rw [List.getD_eq_getElem?_getD,e2,← e1,Array.getElem?_toList]
  simp [World.cell?,hh,e3]
theorem Xu.rows {τ:TypeId→Option Ty} {iT:TypeId} {S':Nat→Prop}:∀ {xs:List (List Int × Int)} {cs:List Value} {B:List Nat},Xu τ iT w xs cs B→(∀ j∈B,S' j)→(∀ j∈B,j<w.heap.size)→Q1 τ S' w (Q0x iT) xs cs
 | [],cs,B,h,_,_=>h.1
 | x::r,cs,B,h,hS,hl=>by
  obtain ⟨c,cr,B1,B2,rfl,rfl,h1,h2⟩:=h
  have hr:=Q7i (S':=S') h1 (fun _ h=>h.elim) (fun j hj=>hS j (List.mem_append.2 (.inl hj))) (fun j hj=>hl j (List.mem_append.2 (.inl hj)))
  exact ⟨[c,Value.int .i64 x.2],cr,rfl,⟨[c],[Value.int .i64 x.2],rfl,hr,rfl⟩,Xu.rows h2 (fun j hj=>hS j (List.mem_append.2 (.inr hj))) (fun j hj=>hl j (List.mem_append.2 (.inr hj)))⟩
theorem Xu.length {τ:TypeId→Option Ty} {iT:TypeId}:∀ {xs:List (List Int × Int)} {cs:List Value} {B:List Nat},Xu τ iT w xs cs B→cs.length=xs.length*2
 | [],cs,B,h=>by obtain ⟨rfl,_⟩:=h;rfl
 | x::r,cs,B,h=>by
  obtain ⟨c,cr,B1,B2,rfl,rfl,_,h2⟩:=h
  rw [List.length_cons,List.length_cons,h2.length,List.length_cons,Nat.add_mul]
theorem Q6q {τ:TypeId→Option Ty} {w w':World} {iT:TypeId} {xs:List Int} {c:Value} {B:List Nat} (h:Q18 τ (fun _=>False) w iT (.int .i64) xs c B) (hk:∀ j∈B,w'.heap[j]?=w.heap[j]?):Q18 τ (fun _=>False) w' iT (.int .i64) xs c B:=by
 obtain ⟨h0,⟨cells,hr,hc⟩,rfl⟩:=h
 have e:∀ {xs:List Int} {cs:List Value},Q1 τ (fun _=>False) w (.int .i64) xs cs→Q1 τ (fun _=>False) w' (.int .i64) xs cs:=by
  intro xs
  induction xs with
  | nil=>intro cs h;exact h
  | cons x r ih=>intro cs h;obtain ⟨c,cr,hc,h1,h2⟩:=h;exact ⟨c,cr,hc,h1,ih h2⟩
 refine ⟨h0,⟨cells,⟨hr.1,?_⟩,e hc⟩,rfl⟩
 rcases hr.2 with hn | ⟨g,cap,b,rfl,hg,d,a⟩
 ·exact .inl hn
 ·exact .inr ⟨g,cap,b,rfl,hg,(hk g (by simp [blk])).trans d,a⟩
theorem Xu.move {τ:TypeId→Option Ty} {iT:TypeId} {w w':World}:∀ {xs:List (List Int × Int)} {cs:List Value} {B:List Nat},Xu τ iT w xs cs B→(∀ j∈B,w'.heap[j]?=w.heap[j]?)→Xu τ iT w' xs cs B
 | [],cs,B,h,_=>h
 | x::r,cs,B,h,hk=>by
  obtain ⟨c,cr,B1,B2,rfl,rfl,h1,h2⟩:=h
  exact ⟨c,cr,B1,B2,rfl,rfl,Q6q h1 (fun j hj=>hk j (List.mem_append.2 (.inl hj))),Xu.move h2 (fun j hj=>hk j (List.mem_append.2 (.inr hj)))⟩
theorem Xu.split {τ:TypeId→Option Ty} {iT:TypeId}:∀ {xs:List (List Int × Int)} {cs:List Value} {B:List Nat} (p:Nat) (hp:p<xs.length),Xu τ iT w xs cs B →
  ∃ a c b B1 Bp B2,cs=a++c::Value.int .i64 xs[p].2::b∧B=B1++(Bp++B2)∧Xu τ iT w (xs.take p) a B1∧Q18 τ (fun _=>False) w iT (.int .i64) xs[p].1 c Bp∧Xu τ iT w (xs.drop (p+1)) b B2
 | [],cs,B,p,hp,h=>by simp at hp
 | x::r,cs,B,0,hp,h=>by
  obtain ⟨c,cr,B1,B2,rfl,rfl,h1,h2⟩:=h
  exact ⟨[],c,cr,[],B1,B2,rfl,rfl,⟨rfl,rfl⟩,h1,h2⟩
 | x::r,cs,B,p+1,hp,h=>by
  obtain ⟨c,cr,B1,B2,rfl,rfl,h1,h2⟩:=h
  obtain ⟨a,c',b,B3,Bp,B4,rfl,rfl,g1,g2,g3⟩:=Xu.split p (by simpa using hp) h2
  refine ⟨c::Value.int .i64 x.2::a,c',b,B1++B3,Bp,B4,rfl,by simp [List.append_assoc],⟨c,a,B1,B3,rfl,rfl,h1,g1⟩,g2,g3⟩
theorem Q8.cat {τ:TypeId→Option Ty} {e:Ty} {ys1 f:List (Option e.den)} {a b:List Value} (h1:Q8 τ S w e ys1 a) (h2:Q8 τ S w e f b) (hl:a.length=ys1.length*e.cells):Q8 τ S w e (ys1++f) (a++b):=by
 intro i x hi
 rcases Nat.lt_or_ge i ys1.length with d | c
 ·rw [List.getElem?_append_left d] at hi
  have:=h1 i x hi
  have hb:i*e.cells+e.cells≤a.length:=by
   rw [hl];have:=Nat.mul_le_mul_right e.cells (show i+1≤ys1.length from d);rwa [Nat.add_mul,Nat.one_mul] at this
  rw [List.drop_append,List.take_append,show e.cells - (List.drop (i*e.cells) a).length=0 by rw [List.length_drop];omega,List.take_zero,List.append_nil]
  exact this
 ·rw [List.getElem?_append_right c] at hi
  have:=h2 _ x hi
  have hm:ys1.length*e.cells≤i*e.cells:=Nat.mul_le_mul_right _ c
  rw [List.drop_append,List.drop_eq_nil_of_le (by omega),List.nil_append,hl,← Nat.sub_mul]
  exact this
theorem Q8.none1 {τ:TypeId→Option Ty} {e:Ty} (cs:List Value):Q8 τ S w e [none] cs:=by
 intro i x hi
 cases i with
 | zero=>exact absurd (sI hi) (by simp)
 | succ i=>simp at hi
theorem Q8.more {τ:TypeId→Option Ty} {e:Ty} {ys:List (Option e.den)} {l:List Value} {m:Nat} (h:Q8 τ S w e ys (l.take m)) (hm:ys.length*e.cells≤m):Q8 τ S w e ys l:=by
 intro i x hi
 have:=h i x hi
 have a:i<ys.length:=(List.getElem?_eq_some_iff.1 hi).1
 have hb:i*e.cells+e.cells≤m:=by
  have:=Nat.mul_le_mul_right e.cells (show i+1≤ys.length from a);rw [Nat.add_mul,Nat.one_mul] at this;omega
 rw [List.drop_take,List.take_take,show min e.cells (m - i*e.cells)=e.cells by omega] at this
 exact this
theorem Qh5 {α:Type} (l:List α) (p:Nat) (hp:p<l.length):(l.map some).set p none=(l.take p).map some++([none]++(l.drop (p+1)).map some):=by
 rw [List.set_eq_take_append_cons_drop,if_pos (by rw [List.length_map];exact hp),List.map_take,List.map_drop]
 rfl
theorem Xu.hole {τ:TypeId→Option Ty} {iT:TypeId} {S':Nat→Prop} {xs:List (List Int × Int)} {a b:List Value} {c:Value} {B1 B2:List Nat} {p:Nat} (hp:p<xs.length) (h1:Xu τ iT w (xs.take p) a B1) (h2:Xu τ iT w (xs.drop (p+1)) b B2)
  (hS:∀ j∈B1++B2,S' j) (hl:∀ j∈B1++B2,j<w.heap.size) (u:Value):Q8 τ S' w (Q0x iT) ((xs.map some).set p none) (a++c::u::b):=by
 rw [Qh5 xs p hp]
 have r1:=h1.rows (S':=S') (fun j hj=>hS j (List.mem_append.2 (.inl hj))) (fun j hj=>hl j (List.mem_append.2 (.inl hj)))
 have r2:=h2.rows (S':=S') (fun j hj=>hS j (List.mem_append.2 (.inr hj))) (fun j hj=>hl j (List.mem_append.2 (.inr hj)))
 have m1:=Q8.of_row r1 (cs:=a) (List.take_of_length_le (Nat.le_refl _)) 0
 have m2:=Q8.of_row r2 (cs:=b) (List.take_of_length_le (Nat.le_refl _)) 0
 rw [List.replicate_zero,List.append_nil] at m1 m2
 have l1:=h1.length
 refine Q8.cat (e:=Q0x iT) m1 (Q8.cat (e:=Q0x iT) (ys1:=[none]) (a:=[c,u]) (Q8.none1 _) m2 rfl) ?_
 refine l1.trans ?_
 show (List.take p xs).length*2=(List.map some (List.take p xs):List (Option (List Int × Int))).length*2
 rw [List.length_map]
theorem Q3t {b:Array Oper} {Q:Exit→Act→World→Prop} {o:Oper} {r:List Oper} {x:Operand} (ho:o.op=.move x∨o.op=.assign x) (hg:o.guard=none) (h:wpList P b Q r (a.put o.dst (a.eval x)) w):wpList P b Q (o::r) a w:=by
 refine wpList_plain hg fun K hK=>?_
 unfold Oper.wp execOp
 rcases ho with ho | ho<;>(simp only [ho];exact hK _ _ h)
theorem Q4o {b:Array Oper} {Q:Exit→Act→World→Prop} {o:Oper} {r:List Oper} {x:Value} (ho:(execOp a.eval o).run P w=.ok (.value x) w) (hg:o.guard=none) (h:wpList P b Q r (a.put o.dst x) w):wpList P b Q (o::r) a w:=by
 refine wpList_plain hg fun K hK=>?_
 unfold Oper.wp
 rw [ho]
 exact hK _ _ h
theorem Qf7 {b:Array Oper} {Q:Exit→Act→World→Prop} {o:Oper} {r:List Oper} {f:FuncId} {x:Operand} {T:TypeId} (ho:o.op=.call { callee:=.value (.func f),args:=#[x],argTypes:=#[T] }) (hg:o.guard=none) (c:Qe1 P f)
  {R:Value→World→Prop} (hc:Calls P f #[a.eval x] w fun ex w'=>∃ v,ex=.returned v∧R v w') (h:∀ v w',R v w'→wpList P b Q r (a.put o.dst v) w'):wpList P b Q (o::r) a w:=by
 refine wpList_plain hg fun K hK=>?_
 refine Q52 ho (g:=f) (cap:=#[]) rfl c Q K ?_
 refine Calls.mono (R:=fun ex w'=>∃ v,ex=.returned v∧R v w') (by simpa using hc) ?_
 rintro ex w' ⟨v,rfl,hv⟩
 exact ⟨v,rfl,hK _ _ (h v w' hv)⟩
def Qiw:List Code→Code→Code
 | [],c=>c
 | b::r,c=>.seq b (Qiw r c)
noncomputable def Qav {R:Type} (Γ:Ctx) (τ:Tab) (fi:Fi) (n:Nat):List Code→St→(EX→St→Option R)→Option R
 | [],st,k=>k .normal st
 | b::r,st,k=>Xb Γ τ fi n b st fun e s=>match e with
  | .normal=>Qav Γ τ fi n r s k
  | e=>k e s
theorem Q6o {n0:Nat} (m:n0≤N.1) {Γ:Ctx} (hΓ:Je tab.ty P Γ) (d:Qc P tab) (hD:Q8k P Γ tab N) {fi:Fi} {n:Nat} {R:Type} {i:R}:∀ {bs:List Code} {c:Code} {st:St} {S:Nat→Prop} {β:Lab→Value} {a:Act} {w:World} {k:EX→St→Option R} {Q:Exit→Act→World→Prop},
  bs.all (X3 n0 (N.2.map (·.1)))=true→Rel P tab.ty N w0 F S β st a w→Qav Γ tab fi n bs st k=some i →
  (∀ e a' w' S' β' s,e≠.normal→(∀ k,S k→S' k)→Rel P tab.ty N w0 F S' β' s a' w'→k e s=some i→Q (Qa6 e) a' w') →
  (∀ a' w' S' β' s,(∀ k,S k→S' k)→Rel P tab.ty N w0 F S' β' s a' w'→k .normal s=some i→c.wp P Q a' w')→(Qiw bs c).wp P Q a w
 | [],c,st,S,β,a,w,k,Q,hd,h,he,hQ,hN=>hN a w S β st (fun _ x=>x) h he
 | b::r,c,st,S,β,a,w,k,Q,hd,h,he,hQ,hN=>by
  simp only [List.all_cons,Bool.and_eq_true] at hd
  refine wp_seq (Q0q m hΓ d hD hd.1 h he (fun e a' w' S' β' s hS h' hk=>?_))
  cases e with
  | normal=>
   exact Q6o m hΓ d hD hd.2 h' hk (fun e g j f l s' g0 g1 g2 g3=>hQ e g j f l s' g0 (fun k hk=>g1 k (hS k hk)) g2 g3) (fun g j f l s' g1 g2 g3=>hN g j f l s' (fun k hk=>g1 k (hS k hk)) g2 g3)
  | exit id=>exact hQ (.exit id) a' w' S' β' s (by intro h;cases h) hS h' hk
  | ret=>exact hQ .ret a' w' S' β' s (by intro h;cases h) hS h' hk
def Qhl (β:Lab→Value) (st:St):List Nat:=st.objs.flatMap fun p=>(blk (β p.1)).toList
theorem Rel.rebase (h:Rel P tab.ty N w0 F S β st a w) {N':NN} (hN:N'.1=N.1) (hp:∀ p∈N'.2,a.tmps.getD p.1 undef=p.2):Rel P tab.ty N' w (fun k=>k∈Qhl β st,S) S β st a w:=
 ⟨h.sb,h.slots,h.objs,fun l x hl b hb=>⟨(h.excl l x hl b hb).1,.inr (by
   obtain ⟨p,c,_⟩:=Qbq hl
   exact List.mem_flatMap.2 ⟨(l,x),Zn hl,by simp [hb]⟩),(h.excl l x hl b hb).2.2⟩,h.dist,Fr.refl _ w,h.size.trans hN.symm,h.nodef,fun k hk=>.inl hk,hp⟩
theorem Q4f.conv {w1 w':World} {S SB:Nat→Prop} {B:List Nat} {vals:List Value} {ps:List PK} {rs:List RK} {r:RDs rs × ODs ps} {ex:Ending} (h:Q4f tab w1 SB vals B r ex w') (hB:∀ k∈B,w.heap.size≤k) (h1:∀ k,S k→SB k)
  (h2:∀ k,SB k→S k∨w.heap.size≤k) (hf:Fr (fun _=>False) w w1):Q4f tab w S vals [] r ex w':=by
 obtain ⟨vs,S',B1,B2,e1,e2,e3,e4,e5,e6,e7,e8⟩:=h
 refine ⟨vs,S',B1,B2,e1,e2,e3,e4,fun k hk=>?_,fun k hk=>e6 k (h1 k hk),fun k hk=>?_,?_⟩
 ·obtain ⟨g1,g2,g3⟩:=e5 k hk
  exact ⟨g1,g2,.inl (g3.elim (fun h=>Nat.le_trans hf.size h) (hB k))⟩
 ·obtain ⟨g1,g2⟩:=e7 k hk
  refine ⟨g1,?_⟩
  rcases g2 with g2 | g2 | g2
  ·exact (h2 k g2).elim .inl (fun h=>.inr (.inl h))
  ·exact .inr (.inl (Nat.le_trans hf.size g2))
  ·exact .inr (.inl (hB k g2))
 ·refine (hf.mono (fun _ h=>h.elim)).trans' e8 (fun k hk a=>?_)
  exact absurd (hB k a) (by omega)
def Xg (s:St):List Nat→List (Nat × SV)
 | []=>[]
 | t::r=>match Q9 s.slots t with
  | .cv (.one (.pure (.int k) n))=>(t,.cv (.one (.pure (.int k) n)))::Xg s r
  | _=>Xg s r
def Z5 (s:St):Option Nat→Option (Nat × TypeId × IntKind × Int)
 | none=>none
 | some t=>match Q9 s.slots t with
  | .cv (.one (.ptr l 0))=>(match Q0 s.objs l with
   | some (.box T [.pure (.int k) n])=>some (t,T,k,n)
   | _=>none)
  | _=>none
theorem Q59 (s:St):∀ (ks:List Nat) (t:Nat),Q9 (Xg s ks) t=.dead∨(t∈ks∧∃ k n,Q9 s.slots t=.cv (.one (.pure (.int k) n))∧Q9 (Xg s ks) t=.cv (.one (.pure (.int k) n)))
 | [],t=>.inl rfl
 | u::r,t=>by
  have ih:=Q59 s r t
  have a:Q9 (Xg s r) t=.dead∨(t∈u::r∧∃ k n,Q9 s.slots t=.cv (.one (.pure (.int k) n))∧Q9 (Xg s r) t=.cv (.one (.pure (.int k) n))):=
   ih.imp id (fun ⟨h1,h2⟩=>⟨List.mem_cons_of_mem _ h1,h2⟩)
  unfold Xg
  split
  ·rename_i k n hs
   rw [Qk]
   by_cases e:u=t
   ·subst e
    rw [if_pos rfl]
    exact .inr ⟨List.mem_cons_self ..,k,n,hs,rfl⟩
   ·rw [if_neg e];exact a
  ·exact a
end
end Go.PE
namespace Go.PE
section
variable {P:Program} {tab:Tab} {N:NN} {w0:World} {F:FF} {S:Nat→Prop} {β:Lab→Value} {st:St} {a:Act} {w:World}
structure Q1g where
 eT:TypeId
 iT:TypeId
 Tcs:TypeId
 Tsl:TypeId
 tD:Ty
 cs:Nat
 ix:Nat
 tA:Nat
 tB:Nat
 q1:Nat
 q2:Nat
 q3:Nat
 q4:Nat
 q5:Nat
 ks:List Nat
 bx:Option Nat
 ft:FuncId
 id6:Nat
def Q9y (z:Option (Nat × TypeId × IntKind × Int)):List (Nat × SV) × List (Lab × Ob):=match z with
 | some (t,T,k,n)=>([(t,.cv (.one (.ptr (900003,0) 0)))],[((900003,0),.box T [.pure (.int k) n])])
 | none=>([],[])
def stC (c:Q1g) (d:c.tD.den) (s:St) (xs:List (List Int × Int)) (p:Nat):St:=
 {slots:=(c.cs,.cv (.one (.ref (900001,0))))::(c.q5,.cv (.one (.ref (900002,0))))::(0,.cv (.one (.pure c.tD d)))::((Q9y (Z5 s c.bx)).1++Xg s c.ks),
  objs:=((900001,0),.mem c.eT (Q0x c.iT) ((xs.map some).set p none) xs.length false)::((900002,0),.row c.iT (.int .i64) ((xs.getD p ([],0)).1))::(Q9y (Z5 s c.bx)).2 }
def Q4b (z:Option (Nat × TypeId × IntKind × Int)) (a:Act):Value:=match z with
 | some (t,_)=>a.tmps.getD t undef
 | none=>undef
theorem Qhp {c:Q1g} {w w1 w2:World} {S S2:Nat→Prop} {N2:NN} {F2:FF} {β2:Lab→Value} {s2:St} {a2:Act} {d:c.tD.den} {vd v1:Value} {xs:List (List Int × Int)} {cells:List Value} {Bs:List Nat} {p:Nat}
  (hS:∀ k,S k→k<w.heap.size) (hd:Rep tab.ty S w c.tD d [vd]) (u:Rel P tab.ty N2 w1 F2 S2 β2 s2 a2 w2) (a7:Fr (fun _=>False) w w1) (M:∀ k,F2.1 k→w.heap.size≤k∧k ∉ (blk v1).toList++Bs)
  (c1:w1.ownsRow 0 c.eT 2 v1 xs.length cells) (f1:Xu tab.ty c.iT w1 xs cells Bs) (e0:((blk v1).toList++Bs).Nodup) (o:∀ j∈(blk v1).toList++Bs,w.heap.size≤j∧j<w1.heap.size) (hp:p<xs.length) :
  ∃ (g cp:Nat) (i:Array Value) (a:Value) (β3:Lab→Value) (S3:Nat→Prop) (BC:List Nat),v1=.slice (some ⟨g,0,none⟩) xs.length cp∧w2.heap[g]?=some (.cells i c.eT (0,0))∧i[p*2]?=some a ∧
   (∀ k∈BC,w.heap.size≤k)∧(∀ k,S k→S3 k)∧(∀ k,S3 k→S k∨w.heap.size≤k)∧Fr (fun _=>False) w w2 ∧
   ∀ (a3:Act) (N3:NN),a3.defers=[]→a3.tmps.size=N3.1→N3.2=[]→a3.tmps.getD c.cs undef=v1→a3.tmps.getD c.q5 undef=a→a3.tmps.getD 0 undef=vd→(∀ t∈c.ks,a3.tmps.getD t undef=a2.tmps.getD t undef) →
    (∀ z,Z5 s2 c.bx=some z→a3.tmps.getD z.1 undef=a2.tmps.getD z.1 undef) →
    Rel P tab.ty N3 w2 (fun k=>k∈BC,S3) S3 β3 (stC c d s2 xs p) a3 w2:=by
 obtain ⟨g,cap,i,f2,d6,b9,d2,d3,c5⟩:∃ g cap i,v1=.slice (some ⟨g,0,none⟩) xs.length cap∧w1.heap[g]?=some (.cells i c.eT (0,0))∧xs.length≤cap∧cap≤maxLen∧i.size=cap*2∧i.toList.take (xs.length*2)=cells:=by
  rcases c1.2 with ⟨_,h0⟩ | ⟨g,cap,i,e,_,h1,h2,h3,h4,h5⟩
  ·omega
  ·exact ⟨g,cap,i,e,h1,h2,h3,h4,h5⟩
 subst f2
 have F:g∈(blk (Value.slice (some ⟨g,0,none⟩) xs.length cap)).toList++Bs:=List.mem_append.2 (.inl (by simp [blk]))
 have K:∀ k∈(blk (Value.slice (some ⟨g,0,none⟩) xs.length cap)).toList++Bs,w2.heap[k]?=w1.heap[k]?:=fun k hk=>u.fr.block (o k hk).2 (fun hx=>(M k hx).2 hk)
 have e9:w1.heap.size≤w2.heap.size:=u.fr.size
 obtain ⟨c6,a,f9,B1,Bp,B2,y,L,t1,t2,t3⟩:=f1.split p hp
 have f0:c6.length=p*2:=by rw [t1.length,List.length_take,Nat.min_eq_left (by omega)]
 have v:Fr (fun _=>False) w w2:=a7.trans' u.fr (fun k hk hx=>absurd (M k hx).1 (by omega))
 have I:∀ j∈B1,j∈Bs:=fun j hj=>by rw [L];simp [hj]
 have f:∀ j∈Bp,j∈Bs:=fun j hj=>by rw [L];simp [hj]
 have J:∀ j∈B2,j∈Bs:=fun j hj=>by rw [L];simp [hj]
 have r:∀ j∈Bs,j∈(blk (Value.slice (some ⟨g,0,none⟩) xs.length cap)).toList++Bs:=fun j hj=>List.mem_append.2 (.inr hj)
 have A:([g]++Bs).Nodup:=e0
 have a4:g ∉ Bs:=by simp at A;exact A.1
 have U:(B1++(Bp++B2)).Nodup:=by rw [← L];simp at A;exact A.2
 have c3:∀ j∈Bp,j ∉ B1++B2:=fun j hj d7=>by
  rw [List.nodup_append] at U
  obtain ⟨_,h2,h3⟩:=U
  rw [List.nodup_append] at h2
  rcases List.mem_append.1 d7 with h | h
  ·exact h3 j h j (List.mem_append.2 (.inl hj)) rfl
  ·exact h2.2.2 j hj j h rfl
 have f5:=t1.move (w':=w2) (fun j hj=>K j (r j (I j hj)))
 have f6:=Q6q (w':=w2) t2 (fun j hj=>K j (r j (f j hj)))
 have f7:=t3.move (w':=w2) (fun j hj=>K j (r j (J j hj)))
 obtain ⟨g0,⟨O,W,f3⟩,c8⟩:=f6
 subst c8
 obtain ⟨S3,s⟩:∃ S3:Nat→Prop,S3=fun q=>S q∨q∈B1++B2:=⟨_,rfl⟩
 have Q:∀ k,S k→S3 k:=fun k hk=>by rw [s];exact .inl hk
 have a9:∀ j∈B1++B2,S3 j:=fun j hj=>by rw [s];exact .inr hj
 have E:∀ j∈B1++B2,j∈Bs:=fun j hj=>(List.mem_append.1 hj).elim (I j) (J j)
 have b0:∀ k,S3 k→S k∨w.heap.size≤k:=fun k hk=>by
  rw [s] at hk
  exact hk.imp id (fun h=>(o k (r k (E k h))).1)
 have X:∀ k,S3 k→k<w2.heap.size:=fun k hk=>by
  rw [s] at hk
  rcases hk with h | h
  ·have:=hS k h;have:=v.size;omega
  ·have:=(o k (r k (E k h))).2;omega
 have b4:¬ S3 g:=fun hk=>by
  rw [s] at hk
  rcases hk with h | h
  ·have:=hS g h;have:=(o g F).1;omega
  ·exact a4 (E g h)
 have c4:∀ k,blk a=some k→¬ S3 k:=fun k hb hk=>by
  have b6:k∈(blk a).toList:=by simp [hb]
  rw [s] at hk
  rcases hk with h | h
  ·have:=hS k h;have:=(o k (r k (f k b6))).1;omega
  ·exact c3 k b6 h
 have a5:xs.getD p ([],0)=xs[p]:=by rw [List.getD_eq_getElem?_getD,List.getElem?_eq_getElem hp];rfl
 have a1:i[p*2]?=some a:=by
  have e1:cells[p*2]?=some a:=by rw [y,List.getElem?_append_right (by omega),f0,Nat.sub_self];rfl
  rw [← Array.getElem?_toList]
  rw [← c5,List.getElem?_take,if_pos (by omega)] at e1
  exact e1
 have b5:w2.heap[g]?=some (.cells i c.eT (0,0)):=(K g F).trans d6
 have b8:Q8 tab.ty S3 w2 (Q0x c.iT) ((xs.map some).set p none) i.toList:=by
  have h1:=Xu.hole (w:=w2) (S':=S3) (c:=a) hp f5 f7 a9 (fun j hj=>by have:=(o j (r j (E j hj))).2;omega) (Value.int .i64 xs[p].2)
  rw [← y,← c5] at h1
  refine Q8.more (e:=Q0x c.iT) h1 ?_
  show ((xs.map some).set p none).length*2≤_
  rw [List.length_set,List.length_map]
  exact Nat.le_refl _
 obtain ⟨bl,b1⟩:∃ bl:List Nat,bl=(match Z5 s2 c.bx with | some z=>(blk (a2.tmps.getD z.1 undef)).toList | none=>[]):=⟨_,rfl⟩
 have m:∀ t T k n,Z5 s2 c.bx=some (t,T,k,n)→∃ b T' ,a2.tmps.getD t undef=.pointer (some ⟨b,0,none⟩)∧w2.heap[b]?=some (.cells #[.int k n] T' (0,0))∧b<w2.heap.size∧w.heap.size≤b∧b≠g∧blk a≠some b∧¬ S3 b:=by
  intro t T k n hz
  unfold Z5 at hz
  split at hz
  ·cases hz
  ·rename_i t' f8
   split at hz
   ·rename_i l hsl
    split at hz
    ·rename_i T2 k2 n2 hol
     have hz:=sI hz
     simp only [Prod.mk.injEq] at hz
     obtain ⟨rfl,rfl,rfl,rfl⟩:=hz
     have H:=u.slots t'
     rw [hsl] at H
     obtain ⟨b,Y,c9⟩:=H
     obtain ⟨b',T',cs,hβ,hh,c0,cr,d1,Z,a0⟩:=u.objs l _ hol
     rw [hβ] at Y
     simp only [Value.pointer.injEq,Option.some.injEq,Addr.mk.injEq] at Y
     obtain ⟨rfl,_⟩:=Y
     have a0:cr=[]:=a0
     subst a0
     have Z:[c0]=[Value.int k n]:=Z
     have b3:cs=#[Value.int k n]:=by apply Array.ext';rw [d1,Z]
     subst b3
     obtain ⟨e1,e2,e3⟩:=u.excl l _ hol b' (by rw [hβ];rfl)
     have G:b' ∉ (blk (Value.slice (some ⟨g,0,none⟩) xs.length cap)).toList++Bs:=fun hm=>by
      rcases e2 with e2 | e2
      ·have:=(o b' hm).2;omega
      ·exact (M b' e2).2 hm
     have d5:w.heap.size≤b':=by
      rcases e2 with e2 | e2
      ·exact Nat.le_trans a7.size e2
      ·exact (M b' e2).1
     refine ⟨b',T',c9,hh,e3,d5,fun e=>G (by rw [e];exact F),fun e=>G (r b' (f b' (by simp [e]))),fun h3=>?_⟩
     rw [s] at h3
     rcases h3 with h | h
     ·have:=hS b' h;omega
     ·exact G (r b' (E b' h))
    ·cases hz
   ·cases hz
 refine ⟨g,cap,i,a,fun l=>if l=(900001,0) then .slice (some ⟨g,0,none⟩) xs.length cap else if l=(900002,0) then a else Q4b (Z5 s2 c.bx) a2,S3,g::((blk a).toList++bl),rfl,b5,a1,?_,Q,b0,v,?_⟩
 ·intro k hk
  rcases List.mem_cons.1 hk with rfl | hk
  ·exact (o _ F).1
  ·rcases List.mem_append.1 hk with hk | hk
   ·exact (o k (r k (f k hk))).1
   ·rw [b1] at hk
    cases hz:Z5 s2 c.bx with
    | none=>rw [hz] at hk;cases hk
    | some z=>
     obtain ⟨t,T,k',n⟩:=z
     rw [hz] at hk
     obtain ⟨b,T',e1,_,_,e4,_⟩:=m t T k' n hz
     simp only [e1,blk,Option.toList,List.mem_singleton] at hk
     subst hk;exact e4
 ·intro a3 N3 d4 e8 a8 R V c7 b7 b2
  have hob:∀ l ob,Q0 (stC c d s2 xs p).objs l=some ob→(l=(900001,0)∧ob=.mem c.eT (Q0x c.iT) ((xs.map some).set p none) xs.length false)∨(l=(900002,0)∧ob=.row c.iT (.int .i64) (xs[p].1)) ∨
    (∃ t T k n,Z5 s2 c.bx=some (t,T,k,n)∧l=(900003,0)∧ob=.box T [.pure (.int k) n]):=by
   intro l ob hl
   simp only [stC] at hl
   rw [Q3] at hl
   split at hl
   ·rename_i e;exact .inl ⟨e.symm,(sI hl).symm⟩
   ·rw [Q3] at hl
    split at hl
    ·rename_i e;exact .inr (.inl ⟨e.symm,by rw [← a5];exact (sI hl).symm⟩)
    ·cases hz:Z5 s2 c.bx with
     | none=>rw [hz] at hl;cases hl
     | some z=>
      obtain ⟨t,T,k,n⟩:=z
      rw [hz] at hl
      simp only [Q9y] at hl
      rw [Q3] at hl
      split at hl
      ·rename_i e;exact .inr (.inr ⟨t,T,k,n,rfl,e.symm,(sI hl).symm⟩)
      ·cases hl
  have D:∀ t T k n,Z5 s2 c.bx=some (t,T,k,n)→Q4b (Z5 s2 c.bx) a2=a2.tmps.getD t undef:=fun t T k n hz=>by rw [hz];rfl
  refine ⟨X,fun t=>?_,fun l ob hl=>?_,fun l ob hl b hb=>?_,fun l l' ob f4 hl d8 a6 b hb C=>?_,Fr.refl _ _,e8,d4,fun k hk=>.inl hk,fun q hq=>by rw [a8] at hq;cases hq⟩
  ·show Qf P tab.ty S3 _ w2 (Q9 ((c.cs,_)::(c.q5,_)::(0,_)::((Q9y (Z5 s2 c.bx)).1++Xg s2 c.ks)) t) _
   rw [Qk]
   split
   ·rename_i e;subst e;exact ⟨by rw [R];rfl,_,_,_,R⟩
   ·rw [Qk]
    split
    ·rename_i e;subst e
     obtain ⟨A2,n2,c2,e2⟩:=Zy W
     exact ⟨by rw [V];rfl,A2,n2,c2,by rw [V];exact e2⟩
    ·rw [Qk]
     split
     ·rename_i e;subst e
      show Rep tab.ty S3 w2 c.tD d [a3.tmps.getD 0 undef]
      rw [c7]
      exact Rep.frame Q v.size (fun k hk d9=>v.block d9 (fun x=>x)) hd
     ·have B:Qf P tab.ty S3 (fun l=>if l=(900001,0) then Value.slice (some ⟨g,0,none⟩) xs.length cap else if l=(900002,0) then a else Q4b (Z5 s2 c.bx) a2) w2 (Q9 (Xg s2 c.ks) t) (a3.tmps.getD t undef):=by
       rcases Q59 s2 c.ks t with e | ⟨hm,k,n,e1,e2⟩
       ·rw [e];trivial
       ·rw [e2,b7 t hm]
        have:=u.slots t
        rw [e1] at this
        exact this
      cases hz:Z5 s2 c.bx with
      | none=>rw [hz] at B;exact B
      | some z=>
       obtain ⟨t',T,k,n⟩:=z
       show Qf P tab.ty S3 _ w2 (Q9 ((t',_)::Xg s2 c.ks) t) _
       rw [Qk]
       split
       ·rename_i e;subst e
        obtain ⟨b,T',e1,_⟩:=m t' T k n hz
        refine ⟨b,?_,?_⟩
        ·show Q4b (some (t',T,k,n)) a2=_
         exact e1
        ·rw [b2 _ hz];exact e1
       ·rw [hz] at B;exact B
  ·rcases hob l ob hl with ⟨rfl,rfl⟩ | ⟨rfl,rfl⟩ | ⟨t,T,k,n,hz,rfl,rfl⟩
   ·refine ⟨Nat.zero_lt_succ _,some ⟨g,0,none⟩,cap,rfl,?_,b9,d2,(fun h=>by cases h),.inr ⟨g,i,rfl,b5,d3,b8⟩⟩
    show ((xs.map some).set p none).length≤cap
    rw [List.length_set,List.length_map];exact b9
   ·exact ⟨g0,O,W,f3.frame (fun _ h=>h.elim) (Nat.le_refl _) (fun _ _ _=>rfl)⟩
   ·obtain ⟨b,T',e1,e2,_⟩:=m t T k n hz
    refine ⟨b,T',#[.int k n],?_,e2,_,[],rfl,(rfl:[Value.int k n]=[Value.int k n]),rfl⟩
    show Q4b (Z5 s2 c.bx) a2=_
    rw [D t T k n hz];exact e1
  ·rcases hob l ob hl with ⟨rfl,rfl⟩ | ⟨rfl,rfl⟩ | ⟨t,T,k,n,hz,rfl,rfl⟩
   ·have hb:g=b:=sI hb
    subst hb
    exact ⟨b4,.inr (List.mem_cons_self ..),by have:=(o g F).2;omega⟩
   ·have hb:blk a=some b:=hb
    have d0:b∈(blk a).toList:=by simp [hb]
    exact ⟨c4 b hb,.inr (by simp [hb]),by have:=(o b (r b (f b d0))).2;omega⟩
   ·obtain ⟨b',T',e1,e2,e3,e4,e5,e6,e7⟩:=m t T k n hz
    have hb:blk (Q4b (Z5 s2 c.bx) a2)=some b:=hb
    rw [D t T k n hz,e1] at hb
    have hb:b'=b:=sI hb
    subst hb
    refine ⟨e7,.inr ?_,e3⟩
    rw [b1,hz]
    simp [e1,blk]
  ·rcases hob l ob hl with ⟨rfl,rfl⟩ | ⟨rfl,rfl⟩ | ⟨t,T,k,n,hz,rfl,rfl⟩<;>rcases hob l' f4 d8 with ⟨rfl,rfl⟩ | ⟨rfl,rfl⟩ | ⟨t',T',k',n',N,rfl,rfl⟩
   ·exact a6 rfl
   ·have h1:g=b:=sI hb
    have h2:blk a=some b:=C
    exact a4 (f g (by rw [← h1] at h2;simp [h2]))
   ·have h1:g=b:=sI hb
    obtain ⟨b',T2,e1,e2,e3,e4,e5,e6,e7⟩:=m t' T' k' n' N
    have h2:blk (Q4b (Z5 s2 c.bx) a2)=some b:=C
    rw [D t' T' k' n' N,e1] at h2
    have h2:b'=b:=sI h2
    exact e5 (h2.trans h1.symm)
   ·have h1:g=b:=sI C
    have h2:blk a=some b:=hb
    exact a4 (f g (by rw [← h1] at h2;simp [h2]))
   ·exact a6 rfl
   ·have h1:blk a=some b:=hb
    obtain ⟨b',T2,e1,e2,e3,e4,e5,e6,e7⟩:=m t' T' k' n' N
    have h2:blk (Q4b (Z5 s2 c.bx) a2)=some b:=C
    rw [D t' T' k' n' N,e1] at h2
    have h2:b'=b:=sI h2
    exact e6 (by rw [h2];exact h1)
   ·have h1:g=b:=sI C
    obtain ⟨b',T2,e1,e2,e3,e4,e5,e6,e7⟩:=m t T k n hz
    have h2:blk (Q4b (Z5 s2 c.bx) a2)=some b:=hb
    rw [D t T k n hz,e1] at h2
    have h2:b'=b:=sI h2
    exact e5 (h2.trans h1.symm)
   ·have h1:blk a=some b:=C
    obtain ⟨b',T2,e1,e2,e3,e4,e5,e6,e7⟩:=m t T k n hz
    have h2:blk (Q4b (Z5 s2 c.bx) a2)=some b:=hb
    rw [D t T k n hz,e1] at h2
    have h2:b'=b:=sI h2
    exact e6 (by rw [h2];exact h1)
   ·exact a6 rfl
end
end Go.PE
namespace Go.PE
section
variable {P:Program} {tab:Tab} {N:NN} {w0:World} {F:FF} {S:Nat→Prop} {β:Lab→Value} {st:St} {a:Act} {w:World}
def stB (c:Q1g) (s:St) (xs:List (List Int × Int)):St:=
 {slots:=(c.cs,.cv (.one (.pure (.sl c.eT (Q0x c.iT)) xs)))::(c.tB,.dead)::(c.tA,.dead)::s.slots,objs:=s.objs }
def Qh1 (xs:List (List Int × Int)):Bool:=Nat.ble xs.length 1073741824&&xs.all fun y=>Nat.ble y.1.length 1073741824
def Qdh (i:Int) (xs:List (List Int × Int)):Bool:=decide (0≤i)&&decide (i<(xs.length:Int))
noncomputable def Qef (Γ:Ctx) (τ:Tab) (fi:Fi) (n:Nat) (c:Q1g) (a:Array Oper) (tail:Code) (ps:List PK) (rs:List RK) (fn:Func) (d:c.tD.den) (xs:List (List Int × Int)) (s2:St):Option (RDs rs × ODs ps):=
 match Q9 s2.slots c.ix with
 | .cv (.one (.pure (.int .i64) i))=>bif Qdh i xs then
   Q1c Γ τ a.toList (a.toList.drop 5) [] (stC c d s2 xs (Int.toNat i)) fun s=>Xb Γ τ fi n tail { s with slots:=trim (Qcy fi c.id6) s.slots } fun e3 s3=>match e3 with
    | .normal=>Q4h τ ps rs fn s3
    | .ret=>Q4h τ ps rs fn s3
    | .exit _=>none
  else none
 | _=>none
noncomputable def Qgg (Γ:Ctx) (τ:Tab) (fi:Fi) (n:Nat) (c:Q1g) (r0:Code) (Bs:List Code) (a:Array Oper) (tail:Code) (ps:List PK) (rs:List RK) (fn:Func) (d:c.tD.den) (x:PDs ps):Option (RDs rs × ODs ps):=
 Xb Γ τ fi n r0 { slots:=Zk 0 ps x,objs:=Zl 0 0 ps x } fun e sA=>match e with
 | .normal=>(match Q9 sA.slots c.cs with
  | .cv (.one (.pure t xs'))=>(Zi t (.sl c.eT (Q0x c.iT)) xs').bind fun xs=>
    bif Qh1 xs then Qav Γ τ fi n Bs (stB c sA xs) fun e2 s2=>match e2 with
     | .ret=>Q4h τ ps rs fn s2
     | .normal=>Qef Γ τ fi n c a tail ps rs fn d xs s2
     | .exit _=>none
    else none
  | _=>none)
 | _=>none
def Q38:List PK→Bool
 | []=>true
 | .val _::r=>Q38 r
 | _=>false
theorem Qc6 {τ:TypeId→Option Ty}:∀ {ps:List PK} {x:PDs ps} {vals:List Value} {B:List Nat},Q38 ps=true→X5 τ P S w ps x vals B→B=[]
 | [],x,vals,B,_,h=>h.2
 | p::r,x,vals,B,hv,h=>by
  obtain ⟨v,vr,B1,B2,rfl,rfl,h1,h2⟩:=h
  cases p<;>try (cases hv;done)
  obtain ⟨_,rfl⟩:=h1
  rw [Qc6 (ps:=r) hv h2];rfl
theorem Q3d {a:Act}:∀ {ps:List PK} {vals:List Value} (i:Nat),Q38 ps=true→Q60 a i ps vals
 | [],vals,i,_=>trivial
 | p::r,vals,i,hv=>by
  cases p<;>try (cases hv;done)
  exact Q3d (ps:=r) (i+1) hv
theorem Q4a:∀ {ps:List PK},Q38 ps=true→Jm ps=true
 | [],_=>rfl
 | p::r,hv=>by
  cases p<;>try (cases hv;done)
  exact Q4a (ps:=r) hv
theorem Qak {ps:List PK} (h:Q38 ps=true):Qbe ps=true:=by
 cases ps with
 | nil=>rfl
 | cons p r=>cases p<;>first | (cases h;done) | exact Q4a h
theorem Q40 (c:Nat):∀ {ps:List PK} {x:PDs ps} (i:Nat),Q38 ps=true→Zl c i ps x=[]
 | [],x,i,_=>rfl
 | p::r,x,i,hv=>by
  cases p<;>try (cases hv;done)
  exact Q40 c (ps:=r) (x:=x.2) (i+1) hv
theorem Qb7 {o:List (Lab × Ob)} {p:Lab × Ob} (h:p∈o):∃ b,Q0 o p.1=some b:=by
 induction o with
 | nil=>cases h
 | cons q r ih=>
  obtain ⟨l,b⟩:=q
  rw [Q3]
  by_cases e:l=p.1
  ·rw [if_pos e];exact ⟨b,rfl⟩
  ·rw [if_neg e]
   rcases List.mem_cons.1 h with h | h
   ·subst h;exact absurd rfl e
   ·exact ih h
theorem Q1l {d t:Nat} {v:Value} (hd:d<a.tmps.size):(a.put (some d) v).tmps.getD t undef=if d=t then v else a.tmps.getD t undef:=Q3m hd
theorem Q0d {d:Option Nat} {v:Value}:(a.put d v).tmps.size=a.tmps.size:=by
 cases d<;>simp [Act.put]
theorem Q11 {d:Option Nat} {v:Value}:(a.put d v).defers=a.defers:=by cases d<;>rfl
structure Qi2 (c:Q1g) (o1 o2 o3 p1 p2 p3 p4 p5:Oper):Prop where
 a1:o1.op=.move (.tmp c.cs)∧o1.dst=some c.tA∧o1.guard=none
 a2:o2.op=.call { callee:=.value (.func c.ft),args:=#[.tmp c.tA],argTypes:=#[c.Tcs] }∧o2.dst=some c.tB∧o2.guard=none
 a3:o3.op=.assign (.tmp c.tB)∧o3.dst=some c.cs∧o3.guard=none
 b1:p1.op=.move (.tmp c.cs)∧p1.dst=some c.q1∧p1.guard=none
 b2:p2.op=.move (.tmp c.ix)∧p2.dst=some c.q2∧p2.guard=none
 b3:p3.op=.indexAddr c.Tcs (.tmp c.q1) (.tmp c.q2)∧p3.dst=some c.q3∧p3.guard=none
 b4:p4.op=.fieldAddr c.eT (.tmp c.q3) 0∧p4.dst=some c.q4∧p4.guard=none
 b5:p5.op=.load c.Tsl (.tmp c.q4)∧p5.dst=some c.q5∧p5.guard=none
def Qeq (tab:Tab) (c:Q1g) (nt:Nat) (r0:Code) (Bs:List Code) (a:List Oper) (tail:Code):Bool:=
 X3 nt [0] r0&&Bs.all (X3 nt [0,c.cs])&&a.all (fun o=>match o.dst with | some d=>Nat.blt d nt | none=>true)&&X3 nt [] tail &&
 [c.cs,c.tA,c.tB,c.q1,c.q2,c.q3,c.q4,c.q5].all (fun t=>Nat.blt t nt&&Nat.blt 0 t)&&Q3q [c.cs,c.tA,c.tB]&&Q3q [c.q1,c.q2,c.q3,c.q4,c.q5] &&
 Q5k [c.q1,c.q2,c.q3,c.q4,c.q5] (c.cs::c.ix::(c.bx.toList++c.ks))&&!c.tD.isAgg &&
 (match tab.td c.Tcs with | some (.slc e)=>Nat.beq e c.eT | _=>false)&&(match tab.ty c.eT with | some t=>Ty.beq t (Q0x c.iT) | none=>false) &&
 (match Q43 tab c.eT 0 with | some f=>Nat.beq f.1 c.Tsl&&Nat.beq f.2 0 | none=>false)&&(match tab.ty c.Tsl with | some t=>Ty.beq t (.sl c.iT (.int .i64)) | none=>false)
theorem Q34:∀ {l:List Nat},Q3q l=true→l.Nodup
 | [],_=>List.nodup_nil
 | t::r,h=>by
  simp only [Q3q,Bool.and_eq_true,Bool.not_eq_true'] at h
  exact List.nodup_cons.2 ⟨(fun hm=>by rw [Q27.2 hm] at h;cases h.1),Q34 h.2⟩
theorem Qcf {l r:List Nat} (h:Q5k l r=true):∀ t∈l,t ∉ r:=fun t ht hr=>by
 have:=List.all_eq_true.1 h t ht
 rw [Q27.2 hr] at this;cases this
theorem Qj6 {Γ:Ctx} (hm:P.follows .mixedOrders=true) (hΓ:Je tab.ty P Γ) (a:Qc P tab) {c:Q1g} (d7:Qin P tab.ty c.ft c.eT c.iT) {f:FuncId} {fn:Func} (hf:P.funcs[f]?=some fn) (i6:(fn.name=="runtime.NumGoroutine")=false)
  {r0 tail:Code} {Bs:List Code} {e0:Nat} {O I:Array Oper} {o1 o2 o3 p1 p2 p3 p4 p5:Oper} {Q:List Oper}
  (hb:fn.body=some (.seq r0 (.seq (.region e0 O false) (Qiw Bs (.seq (.region c.id6 I false) tail))))) (a9:O.toList=[o1,o2,o3]) (L:I.toList=p1::p2::p3::p4::p5::Q)
  (ho:Qi2 c o1 o2 o3 p1 p2 p3 p4 p5) (hc:Qeq tab c fn.ntmps r0 Bs Q tail=true) {pr:List PK} {rs:List RK} {fi:Fi} {n:Nat} (hv:Q38 pr=true)
  {G:PDs (.val c.tD::pr)→Option (RDs rs × ODs (.val c.tD::pr))} (hG:∀ x r,G x=some r→Qgg Γ tab fi n c r0 Bs I tail (.val c.tD::pr) rs fn x.1 x=some r):Q4t tab.ty P f ⟨.val c.tD::pr,rs,G⟩:=by
 have hD:∀ N,Q8k P Γ tab N:=fun N=>Q84 hm hΓ a N
 have C:Q38 (.val c.tD::pr)=true:=hv
 refine ⟨⟨fn,hf,i6,by rw [hb];rfl⟩,fun w S x vals B r c8 A i4 hB hg=>?_⟩
 have f0:=Qc6 C A
 subst f0
 have he:=hG x r hg
 unfold Qgg at he
 unfold Qeq at hc
 simp only [Bool.and_eq_true,Bool.not_eq_true'] at hc
 obtain ⟨⟨⟨⟨⟨⟨⟨⟨⟨⟨⟨⟨k1,k2⟩,k3⟩,k4⟩,k5⟩,k6⟩,k7⟩,k8⟩,k9⟩,b7⟩,b8⟩,M⟩,b9⟩:=hc
 have m:∀ t∈[c.cs,c.tA,c.tB,c.q1,c.q2,c.q3,c.q4,c.q5],t<fn.ntmps∧0<t:=fun t ht=>by
  have:=List.all_eq_true.1 k5 t ht
  simp only [Bool.and_eq_true] at this
  exact ⟨Q2.1 this.1,Q2.1 this.2⟩
 have k6:=Q34 k6
 have k7:=Q34 k7
 have k8:=Qcf k8
 obtain ⟨j7,j9⟩:=m c.cs (by simp)
 obtain ⟨lA,pA⟩:=m c.tA (by simp)
 obtain ⟨lB,pB⟩:=m c.tB (by simp)
 obtain ⟨l1,z1⟩:=m c.q1 (by simp)
 obtain ⟨l2,z2⟩:=m c.q2 (by simp)
 obtain ⟨l3,z3⟩:=m c.q3 (by simp)
 obtain ⟨l4,z4⟩:=m c.q4 (by simp)
 obtain ⟨l5,z5⟩:=m c.q5 (by simp)
 have htd:tab.td c.Tcs=some (.slc c.eT):=by
  split at b7
  ·rename_i e he;rw [he,Nat.eq_of_beq_eq_true b7]
  ·cases b7
 have hte:tab.ty c.eT=some (Q0x c.iT):=by
  split at b8
  ·rename_i t he;rw [he,Ty.eq_of_beq b8]
  ·cases b8
 have g9:Q43 tab c.eT 0=some (c.Tsl,0):=by
  split at M
  ·rename_i q he
   simp only [Bool.and_eq_true] at M
   obtain ⟨q1,q2⟩:=q
   rw [he]
   have e1:=Nat.eq_of_beq_eq_true M.1
   have e2:=Nat.eq_of_beq_eq_true M.2
   simp only at e1 e2
   rw [e1,e2]
  ·cases M
 have hts:tab.ty c.Tsl=some (.sl c.iT (.int .i64)):=by
  split at b9
  ·rename_i t he;rw [he,Ty.eq_of_beq b9]
  ·cases b9
 refine calls_of_wp hf hb ?_
 obtain ⟨vd,vr,B1,B2,rfl,l9,⟨j4,rfl⟩,j1⟩:=id A
 have j0:Rep tab.ty S w c.tD x.1 [vd]:=by
  rcases j4 with ⟨h,_⟩ | ⟨_,h⟩
  ·rw [k9] at h;cases h
  ·exact h
 obtain ⟨sz,d3⟩:∃ sz,sz=((vd::vr).toArray++Array.replicate (fn.ntmps - (vd::vr).toArray.size) undef).size:=⟨_,rfl⟩
 have H:fn.ntmps≤sz:=by rw [d3];simp;omega
 have d6:∀ t,((vd::vr).toArray++Array.replicate (fn.ntmps - (vd::vr).toArray.size) undef).getD t undef=(vd::vr).getD t undef:=by
  intro t
  rw [Array.getD_eq_getD_getElem?,List.getD_eq_getElem?_getD,Array.getElem?_append]
  split
  ·simp
  ·rename_i h4
   rw [List.getElem?_eq_none (by simpa using h4)]
   rw [Array.getElem?_replicate]
   split<;>rfl
 obtain ⟨β0,h0⟩:=Q98 (P:=P) (tab:=tab) (N:=(sz,[(0,vd)])) c8 A i4 hB (Qak C) (by rw [Q40 _ 0 C];rfl)
  {tmps:=(vd::vr).toArray++Array.replicate (fn.ntmps - (vd::vr).toArray.size) undef,defers:=[] } rfl (fun t _=>d6 t) d3.symm (fun p hp=>by
   have:=List.mem_singleton.1 hp;subst this;rw [d6];rfl)
 have d0:Zl (Q2z (.val c.tD::pr) (vd::vr)) 0 (.val c.tD::pr) x=Zl 0 0 (.val c.tD::pr) x:=by rw [Q40 _ 0 C,Q40 _ 0 C]
 rw [d0] at h0
 refine wp_seq (Q0q (n0:=fn.ntmps) (N:=(sz,[(0,vd)])) H hΓ a (hD _) k1 h0 he (fun e a1 w1 S1 β1 sA f5 hA hk=>?_))
 cases e with
 | exit j=>cases hk
 | ret=>cases hk
 | normal=>
 simp only at hk
 have l7:a1.tmps.getD 0 undef=vd:=hA.par (0,vd) (by simp)
 have F:=hA.slots c.cs
 split at hk
 case h_2=>cases hk
 case h_1 t xs' hsl=>
 obtain ⟨xs,f9,hk⟩:=bE hk
 obtain ⟨e1,e2⟩:=Z0 f9
 subst e1
 have e2:xs'=xs:=e2
 subst e2
 rw [hsl] at F
 have F:Rep tab.ty S1 w1 (.sl c.eT (Q0x c.iT)) xs' [a1.tmps.getD c.cs undef]:=F
 obtain ⟨xs,j6⟩:∃ xs:List (List Int × Int),xs=xs':=⟨xs',rfl⟩
 subst j6
 cases l:Qh1 xs with
 | false=>rw [l] at hk;cases hk
 | true=>
 rw [l] at hk
 simp only [cond_true] at hk
 simp only [Qh1,Bool.and_eq_true,List.all_eq_true] at l
 have l6:a1.tmps.size=sz:=hA.size
 show (Code.seq (Code.region e0 O false) _).wp P _ a1 w1
 refine wp_seq (wp_region_list ?_)
 rw [a9]
 refine Q3t (.inl ho.a1.1) ho.a1.2.2 ?_
 rw [ho.a1.2.1]
 have i1:c.tA<a1.tmps.size:=by omega
 have i2:c.tB<a1.tmps.size:=by omega
 have i3:c.cs<a1.tmps.size:=by omega
 refine Qf7 ho.a2.1 ho.a2.2.2 d7.1 (R:=fun v' w'=>∃ cells B,w'.ownsRow 0 c.eT 2 v' xs.length cells∧Xu tab.ty c.iT w' xs cells B∧((blk v').toList++B).Nodup∧(∀ j∈(blk v').toList++B,w1.heap.size≤j∧j<w'.heap.size)∧Fr (fun _=>False) w1 w') ?_ ?_
 ·have e3:(a1.put (some c.tA) (a1.eval (.tmp c.cs))).eval (.tmp c.tA)=a1.tmps.getD c.cs undef:=by
   show (a1.put (some c.tA) _).tmps.getD c.tA undef=_
   rw [Q1l i1,if_pos rfl];rfl
  rw [e3]
  refine (d7.2 w1 S1 xs _ hA.sb F (Q2.1 l.1) (fun y hy=>Q2.1 (l.2 y hy))).mono ?_
  rintro ex w' ⟨v',cells,B,rfl,g1,g2,g3,g4,g5⟩
  exact ⟨v',rfl,cells,B,g1,g2,g3,g4,g5⟩
 rintro v1 w2 ⟨cells,Bt,a4,d5,c9,D,K⟩
 refine Q3t (.inr ho.a3.1) ho.a3.2.2 ?_
 rw [ho.a2.2.1,ho.a3.2.1]
 have m2:c.cs≠c.tA∧c.cs≠c.tB∧c.tA≠c.tB:=by
  simp at k6;exact ⟨k6.1.1,k6.1.2,k6.2⟩
 obtain ⟨aB,T⟩:∃ aB:Act,aB=((a1.put (some c.tA) (a1.eval (.tmp c.cs))).put (some c.tB) v1).put (some c.cs) (((a1.put (some c.tA) (a1.eval (.tmp c.cs))).put (some c.tB) v1).eval (.tmp c.tB)):=⟨_,rfl⟩
 have g8:((a1.put (some c.tA) (a1.eval (.tmp c.cs))).put (some c.tB) v1).eval (.tmp c.tB)=v1:=by
  show ((a1.put (some c.tA) (a1.eval (.tmp c.cs))).put (some c.tB) v1).tmps.getD c.tB undef=v1
  rw [Q1l (by rw [Q0d];exact i2),if_pos rfl]
 rw [← T]
 rw [g8] at T
 obtain ⟨SB,u⟩:∃ SB:Nat→Prop,SB=fun q=>S1 q∨(w1.heap.size≤q∧q<w2.heap.size):=⟨_,rfl⟩
 have f2:=hA.grow (S':=SB) (w':=w2) K (fun k hk=>by rw [u];exact .inl hk) (fun k hk=>by rw [u] at hk;exact hk.imp id (fun h=>h.1)) (fun k hk=>by
  rw [u] at hk
  rcases hk with h | h
  ·have:=hA.sb k h;have:=K.size;omega
  ·exact h.2)
 have ok:∀ t,t<fn.ntmps→0<t→∀ e,some t=some e→okD (sz,[(0,vd)]) e:=fun t h1 h2 e he=>by
  have:=sI he;subst this
  exact ⟨by show t<sz;omega,fun p hp=>by have:=List.mem_singleton.1 hp;subst this;show (0:Nat)≠t;omega⟩
 have a7:=((f2.put (d:=some c.tA) (v:=.dead) (x:=a1.eval (.tmp c.cs)) (ok _ lA pA) trivial).put (d:=some c.tB) (v:=.dead) (x:=v1) (ok _ lB pB) trivial).put (d:=some c.cs) (v:=.cv (.one (.pure (.sl c.eT (Q0x c.iT)) xs))) (x:=v1) (ok _ j7 j9) (by
  have b0:=d5.rows (S':=SB) (fun j hj=>by rw [u];exact .inr (D j (List.mem_append.2 (.inr hj)))) (fun j hj=>(D j (List.mem_append.2 (.inr hj))).2)
  exact Q7i (S:=SB) (e:=Q0x c.iT) (B:=(blk v1).toList) ⟨Nat.zero_lt_succ _,⟨cells,a4,b0⟩,rfl⟩ (fun _ h=>h) (fun j hj=>by rw [u];exact .inr (D j (List.mem_append.2 (.inl hj)))) (fun j hj=>(D j (List.mem_append.2 (.inl hj))).2))
 rw [← T] at a7
 have c5:aB.tmps.getD c.cs undef=v1:=by
  rw [T,Q1l (by rw [Q0d,Q0d];exact i3),if_pos rfl]
 have d9:aB.tmps.getD 0 undef=vd:=a7.par (0,vd) (by simp)
 have f3:Rel P tab.ty (sz,[(0,vd),(c.cs,v1)]) w2 (fun k=>k∈Qhl β1 (stB c sA xs),SB) SB β1 (stB c sA xs) aB w2:=a7.rebase (N':=(sz,[(0,vd),(c.cs,v1)])) rfl (fun p hp=>by
  rcases List.mem_cons.1 hp with rfl | hp
  ·exact d9
  ·have:=List.mem_singleton.1 hp;subst this;exact c5)
 have b6:∀ k∈Qhl β1 (stB c sA xs),w.heap.size≤k∧k<w1.heap.size:=fun k hk=>by
  obtain ⟨p,hp,i9⟩:=List.mem_flatMap.1 hk
  obtain ⟨ob,hob⟩:=Qb7 hp
  have:=hA.excl p.1 ob hob k (by simpa using i9)
  exact ⟨this.2.1.elim id (fun h=>by cases h),this.2.2⟩
 have c2:∀ k,S1 k→S k∨w.heap.size≤k:=fun k hk=>(hA.within k hk).elim .inl (fun h=>h.elim .inr (fun h=>by cases h))
 have Z:Fr (fun _=>False) w w2:=(hA.fr.mono (fun _ h=>by cases h)).trans K
 have j5:∀ k,SB k→S k∨w.heap.size≤k:=fun k hk=>by
  rw [u] at hk
  exact hk.elim (c2 k) (fun h=>.inr (Nat.le_trans hA.fr.size h.1))
 refine Q6o (n0:=fn.ntmps) (N:=(sz,[(0,vd),(c.cs,v1)])) H hΓ a (hD _) k2 f3 hk (fun e a' w' S' β' s i5 hS h' hk=>?_) (fun a3 w3 S3 β3 s3 m0 h3 hk=>?_)
 ·cases e with
  | normal=>exact absurd rfl i5
  | exit j=>cases hk
  | ret=>
   exact ⟨h'.nodef,Q5j (R:=Q4f tab w S (vd::vr) [] r) a h' hS hk (Q3d 0 C) (fun vs a5 B1 B2 g1 g2 g3 g4 g5 g6 g7=>
    Q4f.conv (w1:=w2) (SB:=SB) (B:=Qhl β1 (stB c sA xs)) ⟨vs,a5,B1,B2,rfl,g1,g2,g3,g4,g5,g6,g7⟩ (fun k hk=>(b6 k hk).1) (fun k hk=>by rw [u];exact .inl (f5 k hk)) j5 Z)⟩
 simp only at hk
 unfold Qef at hk
 split at hk
 case h_2=>cases hk
 case h_1 i hix=>
 obtain ⟨i,rfl⟩:∃ j:Int,j=i:=⟨i,rfl⟩
 cases hq:Qdh i xs with
 | false=>rw [hq] at hk;cases hk
 | true=>
 rw [hq] at hk
 simp only [cond_true] at hk
 simp only [Qdh,Bool.and_eq_true,decide_eq_true_eq] at hq
 have hp:Int.toNat i<xs.length:=by omega
 obtain ⟨g,cp,l8,J,β4,S4,BC,j3,h7,c6,f1,f6,c3,c1,f4⟩:=Qhp (c:=c) c8 j0 h3 Z (fun k hk=>⟨(b6 k hk).1,fun hm=>by have:=(D k hm).1;have:=(b6 k hk).2;omega⟩) a4 d5 c9 (fun j hj=>⟨Nat.le_trans hA.fr.size (D j hj).1,(D j hj).2⟩) hp
 have d4:a3.tmps.size=sz:=h3.size
 have d8:a3.tmps.getD 0 undef=vd:=h3.par (0,vd) (by simp)
 have a0:a3.tmps.getD c.cs undef=v1:=h3.par (c.cs,v1) (by simp)
 have c7:a3.tmps.getD c.ix undef=.int .i64 i:=by
  have:=h3.slots c.ix
  rw [hix] at this
  exact List.singleton_inj.1 this
 refine wp_seq (wp_region_list ?_)
 rw [L]
 have n7:c.q1≠c.q2∧c.q1≠c.q3∧c.q1≠c.q4∧c.q1≠c.q5∧c.q2≠c.q3∧c.q2≠c.q4∧c.q2≠c.q5∧c.q3≠c.q4∧c.q3≠c.q5∧c.q4≠c.q5:=by
  simp at k7
  obtain ⟨⟨x1,x2,x3,x4⟩,⟨x5,x6,x7⟩,⟨x8,x9⟩,l0⟩:=k7
  exact ⟨x1,x2,x3,x4,x5,x6,x7,x8,x9,l0⟩
 obtain ⟨j8,m3,m4,m5,m6,m7,m8,m9,n1,n2⟩:=n7
 have c0:=k8 c.q1 (by simp)
 have e6:=k8 c.q2 (by simp)
 have e7:=k8 c.q3 (by simp)
 have e8:=k8 c.q4 (by simp)
 have e9:=k8 c.q5 (by simp)
 refine Q3t (.inl ho.b1.1) ho.b1.2.2 ?_
 rw [ho.b1.2.1]
 have E1:a3.eval (.tmp c.cs)=v1:=a0
 rw [E1]
 obtain ⟨b1,U⟩:∃ b1:Act,b1=a3.put (some c.q1) v1:=⟨_,rfl⟩
 rw [← U]
 have s1:b1.tmps.size=sz:=by rw [U,Q0d];exact d4
 have G1:∀ t,b1.tmps.getD t undef=if c.q1=t then v1 else a3.tmps.getD t undef:=fun t=>by rw [U];exact Q1l (by omega)
 refine Q3t (.inl ho.b2.1) ho.b2.2.2 ?_
 rw [ho.b2.2.1]
 have E2:b1.eval (.tmp c.ix)=.int .i64 i:=by
  show b1.tmps.getD c.ix undef=_
  rw [G1,if_neg (fun e=>c0 (by simp [e])),c7]
 rw [E2]
 obtain ⟨b2,V⟩:∃ b2:Act,b2=b1.put (some c.q2) (.int .i64 i):=⟨_,rfl⟩
 rw [← V]
 have s2:b2.tmps.size=sz:=by rw [V,Q0d];exact s1
 have G2:∀ t,b2.tmps.getD t undef=if c.q2=t then .int .i64 i else b1.tmps.getD t undef:=fun t=>by rw [V];exact Q1l (by omega)
 have hu:P.underlying c.Tcs=some (.slice c.eT):=a.td _ _ htd
 have f8:=a.ty _ _ hte
 refine Q4o (x:=.pointer (some ⟨g,0+(Int.toNat i)*(Q0x c.iT).cells,none⟩)) (X9 ho.b3.1 hu f8 (b:=g) (off:=0) (n:=xs.length) (cap:=cp) (k:=.i64) (i:=i) ?_ ?_ hq.1 hq.2) ho.b3.2.2 ?_
 ·show b2.tmps.getD c.q1 undef=_
  rw [G2,if_neg (fun e=>j8 e.symm),G1,if_pos rfl,j3]
 ·show b2.tmps.getD c.q2 undef=_
  rw [G2,if_pos rfl]
 rw [ho.b3.2.1]
 obtain ⟨b3,W⟩:∃ b3:Act,b3=b2.put (some c.q3) (.pointer (some ⟨g,0+(Int.toNat i)*(Q0x c.iT).cells,none⟩)):=⟨_,rfl⟩
 rw [← W]
 have k0:b3.tmps.size=sz:=by rw [W,Q0d];exact s2
 have G3:∀ t,b3.tmps.getD t undef=if c.q3=t then .pointer (some ⟨g,0+(Int.toNat i)*(Q0x c.iT).cells,none⟩) else b2.tmps.getD t undef:=fun t=>by rw [W];exact Q1l (by omega)
 obtain ⟨gs,gf,j2,h5,h9,h8⟩:=Q8i a g9
 have c4:=a.ty _ _ hts
 refine Q4o (x:=.pointer (some ⟨g,(0+(Int.toNat i)*(Q0x c.iT).cells)+gf.offset,none⟩)) (Q06 ho.b4.1 j2 h5 (t:=.sl c.iT (.int .i64)) (by rw [h9];exact c4) Nat.one_ne_zero (b:=g) ?_) ho.b4.2.2 ?_
 ·show b3.tmps.getD c.q3 undef=_
  rw [G3,if_pos rfl]
 rw [ho.b4.2.1]
 obtain ⟨b4,X⟩:∃ b4:Act,b4=b3.put (some c.q4) (.pointer (some ⟨g,(0+(Int.toNat i)*(Q0x c.iT).cells)+gf.offset,none⟩)):=⟨_,rfl⟩
 rw [← X]
 have s4:b4.tmps.size=sz:=by rw [X,Q0d];exact k0
 have G4:∀ t,b4.tmps.getD t undef=if c.q4=t then .pointer (some ⟨g,(0+(Int.toNat i)*(Q0x c.iT).cells)+gf.offset,none⟩) else b3.tmps.getD t undef:=fun t=>by rw [X];exact Q1l (by omega)
 have d1:(0+(Int.toNat i)*(Q0x c.iT).cells)+gf.offset=Int.toNat i*2:=by
  rw [h8,Nat.zero_add];rfl
 refine Q4o (x:=Xd (.sl c.iT (.int .i64)) [J]) (Qcm ho.b5.1 c4 (b:=g) (off:=Int.toNat i*2) (cs:=[J]) ?_ rfl (fun j hj=>?_)) ho.b5.2.2 ?_
 ·show b4.tmps.getD c.q4 undef=_
  rw [G4,if_pos rfl,d1]
 ·have hj:j<1:=hj
  have i0:j=0:=by omega
  subst i0
  simp [World.cell?,h7,c6]
 rw [ho.b5.2.1]
 have i8:Xd (.sl c.iT (.int .i64)) [J]=J:=rfl
 rw [i8]
 obtain ⟨b5,Y⟩:∃ b5:Act,b5=b4.put (some c.q5) J:=⟨_,rfl⟩
 rw [← Y]
 have s5:b5.tmps.size=sz:=by rw [Y,Q0d];exact s4
 have G5:∀ t,b5.tmps.getD t undef=if c.q5=t then J else b4.tmps.getD t undef:=fun t=>by rw [Y];exact Q1l (by omega)
 have keep:∀ t,t≠c.q1→t≠c.q2→t≠c.q3→t≠c.q4→t≠c.q5→b5.tmps.getD t undef=a3.tmps.getD t undef:=fun t e1 e2 e3 e4 e5=>by
  rw [G5,if_neg (fun e=>e5 e.symm),G4,if_neg (fun e=>e4 e.symm),G3,if_neg (fun e=>e3 e.symm),G2,if_neg (fun e=>e2 e.symm),G1,if_neg (fun e=>e1 e.symm)]
 have E:∀ t∈c.cs::c.ix::(c.bx.toList++c.ks),b5.tmps.getD t undef=a3.tmps.getD t undef:=fun t ht=>
  keep t (fun e=>c0 (by rw [← e];exact ht)) (fun e=>e6 (by rw [← e];exact ht)) (fun e=>e7 (by rw [← e];exact ht)) (fun e=>e8 (by rw [← e];exact ht)) (fun e=>e9 (by rw [← e];exact ht))
 have g0:b5.defers=[]:=by rw [Y,Q11,X,Q11,W,Q11,V,Q11,U,Q11];exact h3.nodef
 have d2:=f4 b5 (sz,[]) g0 s5 rfl (by rw [E c.cs (by simp)];exact a0) (by rw [G5,if_pos rfl]) (by rw [keep 0 (by omega) (by omega) (by omega) (by omega) (by omega)];exact d8)
  (fun t ht=>E t (by simp [ht])) (fun z hz=>E z.1 (by
   have:c.bx=some z.1:=by
    unfold Z5 at hz
    split at hz
    ·cases hz
    ·rename_i t' m1
     split at hz
     ·split at hz
      ·have:=sI hz;rw [← this]
       first | assumption | rfl
      ·cases hz
     ·cases hz
   simp [this]))
 have a8:I.toList.drop 5=Q:=by rw [L];rfl
 rw [a8] at hk
 refine Q1j (N:=(sz,[])) hΓ a (fun o i7 d hd=>⟨?_,fun p hp=>by cases hp⟩) (fun t b ht=>by cases ht) d2 hk (fun a6 w6 S6 β6 s6 f7 h6 hk=>?_)
 ·have:=List.all_eq_true.1 k3 o i7
  rw [hd] at this
  exact Nat.lt_of_lt_of_le (Q2.1 this) H
 refine Q0q (n0:=fn.ntmps) (N:=(sz,[])) H hΓ a (hD _) k4 (h6.trim _) hk (fun e a' w' S' β' s hS h' hk=>?_)
 have fin:Q4h tab (.val c.tD::pr) rs fn s=some r→∃ v,(results fn a'.tmps).run P w'=.ok v w'∧Q4f tab w S (vd::vr) [] r (.returned v) w':=fun hk=>
  Q5j (R:=Q4f tab w S (vd::vr) [] r) a h' (fun k hk=>hS k (f7 k hk)) hk (Q3d 0 C) (fun vs a5 B1 B2 g1 g2 g3 g4 g5 g6 g7=>
   Q4f.conv (w1:=w3) (SB:=S4) (B:=BC) ⟨vs,a5,B1,B2,rfl,g1,g2,g3,g4,g5,g6,g7⟩ f1 f6 c3 c1)
 cases e with
 | normal=>exact ⟨h'.nodef,fin hk⟩
 | ret=>exact ⟨h'.nodef,fin hk⟩
 | exit j=>cases hk
end
def Qk7:Code→Code
 | .seq a _=>a
 | c=>c
def Qk4:Code→Code
 | .seq _ b=>b
 | c=>c
def Qjs:Code→List Oper
 | .region _ o _=>o.toList
 | _=>[]
def Qjp:Code→Array Oper
 | .region _ o _=>o
 | _=>#[]
def Qk5 (l:List Oper) (i:Nat):Oper:=match l[i]? with
 | some o=>o
 | none=>{ dst:=none,op:=.move (.tmp 0),type:=0,pos:="",after:=#[],guard:=none }
def Qjw (fn:Func):Code:=match fn.body with
 | some c=>c
 | none=>.skip
end Go.PE
namespace Go.PE
class EqB (α:Type) where
 eqb:α→α→Bool
 ok:∀ {a b:α},eqb a b=true→a=b
def Qjj:Int→Int→Bool
 | .ofNat m,.ofNat n=>Nat.beq m n
 | .negSucc m,.negSucc n=>Nat.beq m n
 | _,_=>false
instance:EqB Int:=⟨Qjj,fun {a b} h=>by
 cases a<;>cases b<;>first | (cases h;done) | (rw [Nat.eq_of_beq_eq_true h])⟩
instance:EqB Bool:=⟨fun a b=>bif a then b else !b,fun {a b} h=>by cases a<;>cases b<;>first | rfl | cases h⟩
instance:EqB Unit:=⟨fun _ _=>true,fun _=>rfl⟩
def eqL {α:Type} [EqB α]:List α→List α→Bool
 | [],[]=>true
 | x::q,y::r=>EqB.eqb x y&&eqL q r
 | _,_=>false
theorem Qe4 {α:Type} [EqB α]:∀ {a b:List α},eqL a b=true→a=b
 | [],[],_=>rfl
 | [],_::_,h=>by cases h
 | _::_,[],h=>by cases h
 | x::q,y::r,h=>by
  simp only [eqL,Bool.and_eq_true] at h
  rw [EqB.ok h.1,Qe4 h.2]
instance {α:Type} [EqB α]:EqB (List α):=⟨eqL,Qe4⟩
instance:EqB UInt8:=⟨fun a b=>Nat.beq a.toNat b.toNat,fun h=>UInt8.toNat_inj.1 (Nat.eq_of_beq_eq_true h)⟩
instance:EqB ByteArray:=⟨fun a b=>eqL a.data.toList b.data.toList,fun {a b} h=>by
 have:=Qe4 h
 cases a with | mk a=>cases b with | mk b=>congr;exact Array.ext' this⟩
instance {α β:Type} [EqB α] [EqB β]:EqB (α × β):=⟨fun a b=>EqB.eqb a.1 b.1&&EqB.eqb a.2 b.2,fun {a b} h=>by
 simp only [Bool.and_eq_true] at h
 exact Prod.ext (EqB.ok h.1) (EqB.ok h.2)⟩
def Qj2 {α β:Type} [EqB α]:List (α × β)→α→Option β
 | [],_=>none
 | p::q,x=>bif EqB.eqb p.1 x then some p.2 else Qj2 q x
def Qij {α β:Type} (G:α→Option β):List (α × β)→Prop
 | []=>True
 | p::q=>G p.1=some p.2∧Qij G q
theorem Qi5 {α β:Type} [EqB α] {G:α→Option β}:∀ {t:List (α × β)},Qij G t→∀ x r,Qj2 t x=some r→G x=some r
 | [],_,x,r,h=>by cases h
 | p::q,ht,x,r,h=>by
  unfold Qj2 at h
  cases he:EqB.eqb p.1 x with
  | true=>
   rw [he] at h
   have h:=sI h
   rw [← EqB.ok he,← h];exact ht.1
  | false=>
   rw [he] at h
   exact Qi5 ht.2 x r h
theorem Q4t.weaken {τ:TypeId→Option Ty} {P:Program} {f:FuncId} {ps:List PK} {rs:List RK} {G G':PDs ps→Option (RDs rs × ODs ps)} (h:Q4t τ P f ⟨ps,rs,G⟩) (hg:∀ x r,G' x=some r→G x=some r):Q4t τ P f ⟨ps,rs,G'⟩:=
 ⟨h.1,fun w S x vals B r a b c d e=>h.2 w S x vals B r a b c d (hg x r e)⟩
end Go.PE
namespace Go.PE
def Qic (m f:Nat):Bool:=Nat.beq (Nat.land 1 (Nat.shiftRight m f)) 1
def Q4y (b:Nat→List Nat):Nat→List Nat→List Nat→Nat→List Nat
 | 0,_,a,_=>a.reverse
 | _+1,[],a,_=>a.reverse
 | n+1,f::c,a,m=>bif Qic m f then Q4y b n c a m else Q4y b n (b f++c) (f::a) (Nat.lor m (Nat.shiftLeft 1 f))
theorem Qg6 (m f:Nat):Qic m f=m.testBit f:=by
 show Nat.beq (1 &&& (m >>> f)) 1=(1 &&& (m >>> f) != 0)
 have:(1 &&& (m >>> f))=0∨(1 &&& (m >>> f))=1:=by
  rw [Nat.one_and_eq_mod_two];omega
 rcases this with e | e<;>rw [e]<;>rfl
theorem Q0f (P:Program):∀ (n:Nat) (b a:List Nat) (m:Nat),(∀ g,a.contains g=m.testBit g)→P.closureVia n b a=Q4y (fun f=>(P.funcs[f]?).elim [] P.leadsTo) n b a m
 | 0,b,a,m,_=>by unfold Program.closureVia Q4y;rfl
 | n+1,[],a,m,_=>by unfold Program.closureVia Q4y;rfl
 | n+1,f::b,a,m,h=>by
  unfold Program.closureVia Q4y
  rw [Qg6,← h f]
  cases hc:a.contains f with
  | true=>rw [if_pos rfl];exact Q0f P n b a m h
  | false=>
   rw [if_neg (by simp)]
   refine Q0f P n _ (f::a) _ (fun g=>?_)
   show (f::a).contains g=(m ||| (1 <<< f)).testBit g
   rw [Nat.testBit_or,← h g,List.contains_cons,Nat.one_shiftLeft,Nat.testBit_two_pow,Bool.or_comm]
   by_cases e:g=f
   ·subst e;simp
   ·have e':¬ f=g:=fun h=>e h.symm
    simp [e,e']
theorem Qht (P:Program) (f:Nat):P.closure f=Q4y (fun f=>(P.funcs[f]?).elim [] P.leadsTo) (1+(P.funcs.toList.map fun g=>(P.leadsTo g).length+1).sum) [f] [] 0:=by
 unfold Program.closure
 exact Q0f P _ _ _ _ (fun g=>by simp)
end Go.PE
namespace Go.PE
open Go.ChangeShapes
def Q8d (P:Program) (L:List FuncId):List String:=
 L.filterMap fun g=>(P.funcs[g]?).bind fun fn=>if fn.ours||fn.body.isNone||fn.name=="runtime.NumGoroutine" then some fn.name else none
def Q3b (P:Program) (L:List FuncId):Bool:=
 L.any fun g=>(P.funcs[g]?).any fun fn=>match fn.body with | some c=>c.unfollowed | none=>entryCalls fn
def Q4x (P:Program) (L:List FuncId):List String:=
 (((L.flatMap fun g=>((P.funcs[g]?).bind (·.body)).elim [] Code.globalsNamed).eraseDups).filterMap (fun g=>(P.globals[g]?).map (·.name)) ++
  L.filterMap fun g=>(P.funcs[g]?).bind fun fn=>if fn.body.isNone then entryReads.lookup fn.name else none).eraseDups
theorem Qf5 {P:Program} {f:FuncId} {L:List FuncId} (h:P.closure f=L):P.inPlace f=Q8d P L:=by unfold Program.inPlace Q8d;rw [h]
theorem Qa8 {P:Program} {f:FuncId} {L:List FuncId} (h:P.closure f=L):P.unfollowed f=Q3b P L:=by unfold Program.unfollowed Q3b;rw [h];rfl
theorem Qb8 {P:Program} {f:FuncId} {L:List FuncId} (h:P.closure f=L):P.varsNamed f=Q4x P L:=by unfold Program.varsNamed Q4x;rw [h]
theorem Qdb {P:Program} {f:FuncId} (h:P.unfollowed f=true):P.recurses f=true:=by unfold Program.recurses;rw [h];rfl
def Q83 (P:Program) (fn:Func) (s:ChangeSpec) (c:OpenClaim):Bool:=
 fn.params.all (P.readableRec ·)&&namedTie P c.named s.vars &&
 (c.stops==[])&&(c.knobs==[]) &&
 (c.maps==(fn.params.toList++s.plain.varTypes P).any (P.mapsRec ·))&&(c.ifaces==(fn.params.toList++s.plain.varTypes P).any (P.ifacesRec ·))&&(c.mapsOut==P.mapsAmong fn.resultTypes.toList) &&
 (c.loops==(fn.params.toList++s.plain.varTypes P).any (P.loopsFrom ·))&&(c.wideKeys==(fn.params.toList++s.plain.varTypes P++fn.resultTypes.toList).any (P.wideKeysFrom ·)) &&
 s.vars.all (P.varReadable ·)&&fn.resultTypes.all (fun t=>P.readableRec t&&decide (t<P.types.size))&&(c.ifacesOut==fn.resultTypes.toList.any (P.ifacesRec ·))&&(c.loopsOut==fn.resultTypes.toList.any (P.loopsFrom ·))&&c.shortTexts.isNone&&(c.kinds==(if c.domain.isEmpty then [] else fn.params.toList.map fun t=>match P.underlying t with | some (.int k)=>some k | _=>none))&&(c.pinned==c.pinnedBy) &&
 (c.veiled==(fn.params.toList++s.plain.varTypes P++fn.resultTypes.toList).any (P.veiledRec ·))&&c.veiledFits P fn.params.toList (fn.params.toList++s.plain.varTypes P++fn.resultTypes.toList)
theorem Qje {P:Program} {f:FuncId} {fn:Func} {s:ChangeSpec} {c:OpenClaim} {L:List FuncId} (h:P.closure f=L)
  (t:c.wf (OpenSpec.ofChange s)=true) (i:laidOutB P=true) (m:mapsRowed P=true) (e:P.stops=[]) (d:P.stopKnobs=[])
  (p:Q8d P L=c.inPlace) (r:Q3b P L=true) (n:c.unfollowed=true) (q:c.recurses=true) (o:Q4x P L=c.named)
  (g:P.plainKeys=c.plainKeys) (b:P.stopsHeard=true) (k:P.mayEnter=true) (l:P.liftsFinal=c.lifted) (j:P.make=some c.make)
  (a:Q83 P fn s c=true):joinedFacts P f fn s c=true:=by
 unfold Q83 at a
 simp only [Bool.and_eq_true] at a
 obtain ⟨⟨⟨⟨⟨⟨⟨⟨⟨⟨⟨⟨⟨⟨⟨⟨⟨r1,r2⟩,r3⟩,r4⟩,r5⟩,r6⟩,r7⟩,r8⟩,r9⟩,u⟩,v⟩,w⟩,x⟩,y⟩,z⟩,A⟩,B⟩,C⟩:=a
 have hu:=(Qa8 h).trans r
 unfold joinedFacts
 rw [Qf5 h,hu,Qdb hu,Qb8 h,p,o,n,q,t,i,m,e,d,g,b,k,l,j,r1,r2,r3,r4,r5,r6,r7,r8,r9,u,v,w,x,y,A,B,C]
 simp only [Bool.and_true,Bool.true_and,beq_self_eq_true]
 exact z
end Go.PE
set_option maxRecDepth 100000
namespace Go.PE
def Qep {α:Type} (z:α) (c:Nat) (b:List α) (a:Int) (d:List α):Option (((List α) × Unit) × Unit):=
 bif (decide (0≤a)&&decide (a≤((b.length:Nat):Int)))&&decide (((b.length:Nat):Int)≤((((List.map some b++List.replicate c none).length) - 0:Nat):Int)) then
 bif (d.length:Int)==0 then
  bif Nat.ble b.length ((List.map some b++List.replicate c none).length) then
  Option.bind (Qd (List.take b.length (List.map some b++List.replicate c none))) fun (z1:List α)=>
  some ((z1,()),())
  else none
 else
 bif a==((b.length:Nat):Int) then
  bif Nat.ble (0+b.length) ((List.map some b++List.replicate c none).length) then
  bif Nat.ble (b.length+d.length) ((List.map some b++List.replicate c none).length) then
   bif Nat.ble (b.length+d.length) ((Q6 (List.map some b++List.replicate c none) b.length d).length) then
   Option.bind (Qd (List.take (b.length+d.length) (Q6 (List.map some b++List.replicate c none) b.length d))) fun (z2:List α)=>
   some ((z2,()),())
   else none
  else
  bif Nat.ble (b.length+d.length) 1073741824 then
   Option.bind (Qd (List.take b.length (List.map some b++List.replicate c none))) fun (z3:List α)=>
   some ((z3++d,()),())
  else none
  else none
 else
 bif Nat.ble (0+b.length) ((List.map some b++List.replicate c none).length) then
  bif decide (IntKind.wrap .i64 (((b.length:Nat):Int)+(d.length:Int))>((((List.map some b++List.replicate c none).length) - 0:Nat):Int)) then
  bif decide (0≤a)&&decide (a≤((((List.map some b++List.replicate c none).length) - 0:Nat):Int)) then
   bif Nat.ble (0+((a - 0).toNat)) ((List.map some b++List.replicate c none).length) then
   bif decide (0<IntKind.wrap .i64 ((IntKind.wrap .i64 (((b.length:Nat):Int)+(d.length:Int))) - a))&&true&&Nat.blt ((List.map some b++List.replicate c none).length) (((a - 0).toNat)+((List.replicate ((IntKind.wrap .i64 ((IntKind.wrap .i64 (((b.length:Nat):Int)+(d.length:Int))) - a)).toNat) z).length))&&Nat.ble (((List.map some b++List.replicate c none).length)+((List.replicate ((IntKind.wrap .i64 ((IntKind.wrap .i64 (((b.length:Nat):Int)+(d.length:Int))) - a)).toNat) z).length)) 536870912 then
    bif (decide (0≤a)&&decide (a≤((((a - 0).toNat)+((List.replicate ((IntKind.wrap .i64 ((IntKind.wrap .i64 (((b.length:Nat):Int)+(d.length:Int))) - a)).toNat) z).length):Nat):Int)))&&decide (((((a - 0).toNat)+((List.replicate ((IntKind.wrap .i64 ((IntKind.wrap .i64 (((b.length:Nat):Int)+(d.length:Int))) - a)).toNat) z).length):Nat):Int)≤((((List.take ((a - 0).toNat) (List.map some b++List.replicate c none)++List.map some (List.replicate ((IntKind.wrap .i64 ((IntKind.wrap .i64 (((b.length:Nat):Int)+(d.length:Int))) - a)).toNat) z)).length) - 0:Nat):Int)) then
    bif Nat.ble ((0+a.toNat)+((((((a - 0).toNat)+((List.replicate ((IntKind.wrap .i64 ((IntKind.wrap .i64 (((b.length:Nat):Int)+(d.length:Int))) - a)).toNat) z).length):Nat):Int) - a).toNat)) ((List.take ((a - 0).toNat) (List.map some b++List.replicate c none)++List.map some (List.replicate ((IntKind.wrap .i64 ((IntKind.wrap .i64 (((b.length:Nat):Int)+(d.length:Int))) - a)).toNat) z)).length) then
     bif (decide (0≤IntKind.wrap .i64 (a+(d.length:Int)))&&decide (IntKind.wrap .i64 (a+(d.length:Int))≤((((a - 0).toNat)+((List.replicate ((IntKind.wrap .i64 ((IntKind.wrap .i64 (((b.length:Nat):Int)+(d.length:Int))) - a)).toNat) z).length):Nat):Int)))&&decide (((((a - 0).toNat)+((List.replicate ((IntKind.wrap .i64 ((IntKind.wrap .i64 (((b.length:Nat):Int)+(d.length:Int))) - a)).toNat) z).length):Nat):Int)≤((((Q6 (List.take ((a - 0).toNat) (List.map some b++List.replicate c none)++List.map some (List.replicate ((IntKind.wrap .i64 ((IntKind.wrap .i64 (((b.length:Nat):Int)+(d.length:Int))) - a)).toNat) z)) (0+a.toNat) (List.take ((((((a - 0).toNat)+((List.replicate ((IntKind.wrap .i64 ((IntKind.wrap .i64 (((b.length:Nat):Int)+(d.length:Int))) - a)).toNat) z).length):Nat):Int) - a).toNat) d)).length) - 0:Nat):Int)) then
     bif (decide (0≤a)&&decide (a≤((b.length:Nat):Int)))&&decide (((b.length:Nat):Int)≤((((List.map some b++List.replicate c none).length) - 0:Nat):Int)) then
      bif Nat.ble ((0+((IntKind.wrap .i64 (a+(d.length:Int))).toNat))+((((((a - 0).toNat)+((List.replicate ((IntKind.wrap .i64 ((IntKind.wrap .i64 (((b.length:Nat):Int)+(d.length:Int))) - a)).toNat) z).length):Nat):Int) - (IntKind.wrap .i64 (a+(d.length:Int)))).toNat)) ((Q6 (List.take ((a - 0).toNat) (List.map some b++List.replicate c none)++List.map some (List.replicate ((IntKind.wrap .i64 ((IntKind.wrap .i64 (((b.length:Nat):Int)+(d.length:Int))) - a)).toNat) z)) (0+a.toNat) (List.take ((((((a - 0).toNat)+((List.replicate ((IntKind.wrap .i64 ((IntKind.wrap .i64 (((b.length:Nat):Int)+(d.length:Int))) - a)).toNat) z).length):Nat):Int) - a).toNat) d)).length) then
      bif Nat.ble ((0+a.toNat)+((((b.length:Nat):Int) - a).toNat)) ((List.map some b++List.replicate c none).length) then
      Option.bind (Qd (List.take (min ((((((a - 0).toNat)+((List.replicate ((IntKind.wrap .i64 ((IntKind.wrap .i64 (((b.length:Nat):Int)+(d.length:Int))) - a)).toNat) z).length):Nat):Int) - (IntKind.wrap .i64 (a+(d.length:Int)))).toNat) ((((b.length:Nat):Int) - a).toNat)) (List.drop (0+a.toNat) (List.map some b++List.replicate c none)))) fun (z4:List α)=>
      bif Nat.ble (((a - 0).toNat)+((List.replicate ((IntKind.wrap .i64 ((IntKind.wrap .i64 (((b.length:Nat):Int)+(d.length:Int))) - a)).toNat) z).length)) ((Q6 (Q6 (List.take ((a - 0).toNat) (List.map some b++List.replicate c none)++List.map some (List.replicate ((IntKind.wrap .i64 ((IntKind.wrap .i64 (((b.length:Nat):Int)+(d.length:Int))) - a)).toNat) z)) (0+a.toNat) (List.take ((((((a - 0).toNat)+((List.replicate ((IntKind.wrap .i64 ((IntKind.wrap .i64 (((b.length:Nat):Int)+(d.length:Int))) - a)).toNat) z).length):Nat):Int) - a).toNat) d)) (0+((IntKind.wrap .i64 (a+(d.length:Int))).toNat)) z4).length) then
      Option.bind (Qd (List.take (((a - 0).toNat)+((List.replicate ((IntKind.wrap .i64 ((IntKind.wrap .i64 (((b.length:Nat):Int)+(d.length:Int))) - a)).toNat) z).length)) (Q6 (Q6 (List.take ((a - 0).toNat) (List.map some b++List.replicate c none)++List.map some (List.replicate ((IntKind.wrap .i64 ((IntKind.wrap .i64 (((b.length:Nat):Int)+(d.length:Int))) - a)).toNat) z)) (0+a.toNat) (List.take ((((((a - 0).toNat)+((List.replicate ((IntKind.wrap .i64 ((IntKind.wrap .i64 (((b.length:Nat):Int)+(d.length:Int))) - a)).toNat) z).length):Nat):Int) - a).toNat) d)) (0+((IntKind.wrap .i64 (a+(d.length:Int))).toNat)) z4))) fun (z5:List α)=>
      some ((z5,()),())
      else none
      else none
      else none
     else none
     else none
    else none
    else none
   else none
   else none
  else none
  else
  bif decide (0≤IntKind.wrap .i64 (((b.length:Nat):Int)+(d.length:Int)))&&decide (IntKind.wrap .i64 (((b.length:Nat):Int)+(d.length:Int))≤((((List.map some b++List.replicate c none).length) - 0:Nat):Int)) then
  bif (decide (0≤IntKind.wrap .i64 (a+(d.length:Int)))&&decide (IntKind.wrap .i64 (a+(d.length:Int))≤((((IntKind.wrap .i64 (((b.length:Nat):Int)+(d.length:Int))) - 0).toNat:Nat):Int)))&&decide (((((IntKind.wrap .i64 (((b.length:Nat):Int)+(d.length:Int))) - 0).toNat:Nat):Int)≤((((List.map some b++List.replicate c none).length) - 0:Nat):Int)) then
   bif (decide (0≤IntKind.wrap .i64 (a+(d.length:Int)))&&decide (IntKind.wrap .i64 (a+(d.length:Int))≤((((IntKind.wrap .i64 (((b.length:Nat):Int)+(d.length:Int))) - 0).toNat:Nat):Int)))&&decide (((((IntKind.wrap .i64 (((b.length:Nat):Int)+(d.length:Int))) - 0).toNat:Nat):Int)≤((((List.map some b++List.replicate c none).length) - 0:Nat):Int)) then
   bif (decide (0≤a)&&decide (a≤((((IntKind.wrap .i64 (((b.length:Nat):Int)+(d.length:Int))) - 0).toNat:Nat):Int)))&&decide (((((IntKind.wrap .i64 (((b.length:Nat):Int)+(d.length:Int))) - 0).toNat:Nat):Int)≤((((List.map some b++List.replicate c none).length) - 0:Nat):Int)) then
    bif Nat.ble ((0+((IntKind.wrap .i64 (a+(d.length:Int))).toNat))+((((((IntKind.wrap .i64 (((b.length:Nat):Int)+(d.length:Int))) - 0).toNat:Nat):Int) - (IntKind.wrap .i64 (a+(d.length:Int)))).toNat)) ((List.map some b++List.replicate c none).length) then
    bif Nat.ble ((0+a.toNat)+((((((IntKind.wrap .i64 (((b.length:Nat):Int)+(d.length:Int))) - 0).toNat:Nat):Int) - a).toNat)) ((List.map some b++List.replicate c none).length) then
     Option.bind (Qd (List.take (min ((((((IntKind.wrap .i64 (((b.length:Nat):Int)+(d.length:Int))) - 0).toNat:Nat):Int) - (IntKind.wrap .i64 (a+(d.length:Int)))).toNat) ((((((IntKind.wrap .i64 (((b.length:Nat):Int)+(d.length:Int))) - 0).toNat:Nat):Int) - a).toNat)) (List.drop (0+a.toNat) (List.map some b++List.replicate c none)))) fun (z6:List α)=>
     bif (decide (0≤a)&&decide (a≤((((IntKind.wrap .i64 (((b.length:Nat):Int)+(d.length:Int))) - 0).toNat:Nat):Int)))&&decide (((((IntKind.wrap .i64 (((b.length:Nat):Int)+(d.length:Int))) - 0).toNat:Nat):Int)≤((((Q6 (List.map some b++List.replicate c none) (0+((IntKind.wrap .i64 (a+(d.length:Int))).toNat)) z6).length) - 0:Nat):Int)) then
     bif Nat.ble ((0+a.toNat)+((((((IntKind.wrap .i64 (((b.length:Nat):Int)+(d.length:Int))) - 0).toNat:Nat):Int) - a).toNat)) ((Q6 (List.map some b++List.replicate c none) (0+((IntKind.wrap .i64 (a+(d.length:Int))).toNat)) z6).length) then
      bif Nat.ble (((IntKind.wrap .i64 (((b.length:Nat):Int)+(d.length:Int))) - 0).toNat) ((Q6 (Q6 (List.map some b++List.replicate c none) (0+((IntKind.wrap .i64 (a+(d.length:Int))).toNat)) z6) (0+a.toNat) (List.take ((((((IntKind.wrap .i64 (((b.length:Nat):Int)+(d.length:Int))) - 0).toNat:Nat):Int) - a).toNat) d)).length) then
      Option.bind (Qd (List.take (((IntKind.wrap .i64 (((b.length:Nat):Int)+(d.length:Int))) - 0).toNat) (Q6 (Q6 (List.map some b++List.replicate c none) (0+((IntKind.wrap .i64 (a+(d.length:Int))).toNat)) z6) (0+a.toNat) (List.take ((((((IntKind.wrap .i64 (((b.length:Nat):Int)+(d.length:Int))) - 0).toNat:Nat):Int) - a).toNat) d)))) fun (z7:List α)=>
      some ((z7,()),())
      else none
     else none
     else none
    else none
    else none
   else none
   else none
  else none
  else none
 else none
 else none
theorem Qi {α:Type} {ys:List (Option α)} {p:Nat} {xs:List α} (hp:p≤ys.length) (j:Nat) :
  (Q6 ys p xs)[j]?=if j<p then ys[j]? else if j<p+xs.length then (xs[j - p]?).map some else ys[j]?:=by
 unfold Q6
 have e1:(ys.take p).length=p:=by rw [List.length_take];omega
 by_cases h1:j<p
 ·rw [if_pos h1,List.append_assoc,List.getElem?_append_left (by omega),List.getElem?_take,if_pos h1]
 ·rw [if_neg h1]
  by_cases h2:j<p+xs.length
  ·rw [if_pos h2,List.append_assoc,List.getElem?_append_right (by omega),List.getElem?_append_left (by rw [List.length_map];omega),e1,List.getElem?_map]
  ·rw [if_neg h2,List.getElem?_append_right (by rw [List.length_append,e1,List.length_map];omega),List.length_append,e1,List.length_map,List.getElem?_drop]
   congr 1;omega
theorem Z4 {α:Type} {ys:List (Option α)} {p:Nat} {xs:List α} (hp:p+xs.length≤ys.length):(Q6 ys p xs).length=ys.length:=by
 unfold Q6
 simp only [List.length_append,List.length_take,List.length_map,List.length_drop];omega
theorem Zr {α:Type} {l:List (Option α)} {r:List α} (h:l=r.map some):Qd l=some r:=by rw [h,Q6i]
theorem Qhd {x:Int} (h1:0≤x) (h2:x≤9223372036854775807):IntKind.wrap .i64 x=x:=by
 have e:x % 2 ^ 64=x:=by omega
 simp only [IntKind.wrap,IntKind.bits,IntKind.signed,e]
 rw [if_neg]
 simp;omega
def Qf0 {α:Type} (s:List α) (i:Int) (v:List α):Option (((List α) × Unit) × Unit):=
 bif decide (0≤i)&&decide (i≤(s.length:Int))&&Nat.ble (s.length+v.length) 134217728 then some ((s.take i.toNat++v++s.drop i.toNat,()),()) else none
theorem Q7 {R:Type} {b:Bool} {x y:R} (h:b=true):(bif b then x else y)=x:=by rw [h];rfl
theorem Zm {R:Type} {b:Bool} {x y:R} (h:b=false):(bif b then x else y)=y:=by rw [h];rfl
theorem Zg {a b:Nat}:Nat.blt a b=true↔a<b:=by unfold Nat.blt;rw [Q2];exact Iff.rfl
theorem Qio {α:Type} (z:α) (c:Nat) (s:List α) (i:Int) (v:List α) (r) (o:c≤maxLen) (h:Qf0 s i v=some r):Qep z c s i v=some r:=by
 unfold Qf0 at h
 cases hq:(decide (0≤i)&&decide (i≤(s.length:Int))&&Nat.ble (s.length+v.length) 134217728) with
 | false=>rw [hq] at h;cases h
 | true=>
 rw [hq] at h
 have h:=sI h
 subst h
 simp only [Bool.and_eq_true,decide_eq_true_eq] at hq
 obtain ⟨⟨h0,h1⟩,h2⟩:=hq
 have h2:=Nat.le_of_ble_eq_true h2
 obtain ⟨k,rfl⟩:∃ k:Nat,i=(k:Int):=⟨i.toNat,by omega⟩
 have hk:k≤s.length:=by omega
 have e1:IntKind.wrap .i64 ((s.length:Int)+(v.length:Int))=((s.length+v.length:Nat):Int):=by rw [Qhd (by omega) (by omega)];omega
 have e2:IntKind.wrap .i64 ((k:Int)+(v.length:Int))=((k+v.length:Nat):Int):=by rw [Qhd (by omega) (by omega)];omega
 have e3:IntKind.wrap .i64 (((s.length+v.length:Nat):Int) - (k:Int))=((s.length+v.length - k:Nat):Int):=by rw [Qhd (by omega) (by omega)];omega
 have d:∀ j,j<s.length→(List.map some s++List.replicate c none)[j]?=(s[j]?).map some:=fun j hj=>by
  rw [List.getElem?_append_left (by rw [List.length_map];exact hj),List.getElem?_map]
 have n:(List.map some s++List.replicate c none).length=s.length+c:=by simp
 unfold Qep
 simp only [e1,e2,e3,Int.toNat_natCast,Int.sub_zero,Nat.zero_add,Nat.sub_zero,List.length_replicate]
 generalize hY:List.map some s++List.replicate c none=Y at *
 have a:Qd (List.take s.length Y)=some s:=Zr (by
  refine List.ext_getElem? fun j=>?_
  rw [List.getElem?_take,List.getElem?_map]
  by_cases hj:j<s.length
  ·rw [if_pos hj,d j hj]
  ·rw [if_neg hj,List.getElem?_eq_none (by omega)];rfl)
 have b:Qd (List.take (s.length - k) (List.drop k Y))=some (s.drop k):=Zr (by
  refine List.ext_getElem? fun j=>?_
  rw [List.getElem?_take,List.getElem?_map,List.getElem?_drop,List.getElem?_drop]
  by_cases hj:j<s.length - k
  ·rw [if_pos hj,d _ (by omega)]
  ·rw [if_neg hj,List.getElem?_eq_none (by omega)];rfl)
 have q:(s.drop k).length=s.length - k:=List.length_drop ..
 rw [Q7 (by simp only [Bool.and_eq_true,decide_eq_true_eq,Q2,Zg,beq_iff_eq,and_true,true_and];omega)]
 by_cases hm:v.length=0
 ·have hv:v=[]:=List.eq_nil_of_length_eq_zero hm
  subst hv
  rw [Q7 (by rfl)]
  repeat rw [Q7 (by simp only [Bool.and_eq_true,decide_eq_true_eq,Q2,Zg,beq_iff_eq,and_true,true_and];omega)]
  rw [a]
  simp
 rw [Zm (beq_eq_false_iff_ne.2 (by omega))]
 by_cases m:k=s.length
 ·subst m
  rw [Q7 (by simp)]
  rw [Q7 (by simp only [Bool.and_eq_true,decide_eq_true_eq,Q2,Zg,beq_iff_eq,and_true,true_and];omega)]
  by_cases hc:s.length+v.length≤s.length+c
  ·have w1:(Q6 Y s.length v).length=Y.length:=Z4 (by omega)
   repeat rw [Q7 (by simp only [Bool.and_eq_true,decide_eq_true_eq,Q2,Zg,beq_iff_eq,and_true,true_and];omega)]
   rw [Zr (r:=s++v) (by
    refine List.ext_getElem? fun j=>?_
    rw [List.getElem?_take,List.getElem?_map,Qi (by omega)]
    by_cases hj:j<s.length
    ·rw [if_pos (by omega),if_pos hj,d j hj,List.getElem?_append_left hj]
    ·rw [List.getElem?_append_right (by omega),if_neg hj]
     by_cases g:j<s.length+v.length
     ·rw [if_pos g,if_pos g]
     ·rw [if_neg g,List.getElem?_eq_none (by omega)];rfl)]
   simp
  ·rw [Zm (by rw [← Bool.not_eq_true,Q2];omega)]
   repeat rw [Q7 (by simp only [Bool.and_eq_true,decide_eq_true_eq,Q2,Zg,beq_iff_eq,and_true,true_and];omega)]
   rw [a]
   simp
 rw [Zm (by simp;omega)]
 have f:∀ j,(s.take k++v++s.drop k)[j]?=if j<k then s[j]? else if j<k+v.length then v[j - k]? else s[j - v.length]?:=fun j=>by
  have e:(s.take k).length=k:=by rw [List.length_take];omega
  by_cases h3:j<k
  ·rw [if_pos h3,List.append_assoc,List.getElem?_append_left (by omega),List.getElem?_take,if_pos h3]
  ·rw [if_neg h3]
   by_cases h4:j<k+v.length
   ·rw [if_pos h4,List.append_assoc,List.getElem?_append_right (by omega),List.getElem?_append_left (by omega),e]
   ·rw [if_neg h4,List.getElem?_append_right (by rw [List.length_append];omega),List.length_append,e,List.getElem?_drop]
    congr 1;omega
 by_cases hg:s.length+c<s.length+v.length
 ·rw [Q7 (decide_eq_true (by omega))]
  have n0:k+(s.length+v.length - k)=s.length+v.length:=by omega
  have n1:(((s.length+v.length:Nat):Int) - (k:Int)).toNat=s.length+v.length - k:=by omega
  have n2:(((s.length+v.length:Nat):Int) - ((k+v.length:Nat):Int)).toNat=s.length - k:=by omega
  have n3:((s.length:Int) - (k:Int)).toNat=s.length - k:=by omega
  have n4:List.take (s.length+v.length - k) v=v:=List.take_of_length_le (by omega)
  simp only [n0,n1,n2,n3,n4,Nat.min_self]
  generalize hZ:List.take k Y++List.map some (List.replicate (s.length+v.length - k) z)=Z
  have p:Z.length=s.length+v.length:=by rw [← hZ];simp only [List.length_append,List.length_take,List.length_map,List.length_replicate];omega
  have l:∀ j,j<k→Z[j]?=(s[j]?).map some:=fun j hj=>by
   rw [← hZ,List.getElem?_append_left (by rw [List.length_take];omega),List.getElem?_take,if_pos hj,d j (by omega)]
  have w1:(Q6 Z k v).length=Z.length:=Z4 (by omega)
  have w2:(Q6 (Q6 Z k v) (k+v.length) (s.drop k)).length=Z.length:=by rw [Z4 (by omega),w1]
  repeat rw [Q7 (by simp only [Bool.and_eq_true,decide_eq_true_eq,Q2,Zg,beq_iff_eq,and_true,true_and];omega)]
  rw [b]
  show (bif _ then _ else none)=_
  repeat rw [Q7 (by simp only [Bool.and_eq_true,decide_eq_true_eq,Q2,Zg,beq_iff_eq,and_true,true_and];omega)]
  rw [Zr (r:=s.take k++v++s.drop k) (by
   refine List.ext_getElem? fun j=>?_
   rw [List.getElem?_take,List.getElem?_map,f]
   by_cases hj:j<s.length+v.length
   ·rw [if_pos hj,Qi (by omega)]
    by_cases h3:j<k
    ·rw [if_pos (by omega),Qi (by omega),if_pos h3,if_pos h3,l j h3]
    ·by_cases h4:j<k+v.length
     ·rw [if_pos h4,Qi (by omega),if_neg h3,if_pos h4,if_neg h3,if_pos h4]
     ·rw [if_neg h4,if_pos (by omega),if_neg h3,if_neg h4,List.getElem?_drop,show k+(j - (k+v.length))=j - v.length by omega]
   ·rw [if_neg hj,if_neg (by omega),if_neg (by omega),List.getElem?_eq_none (by omega)];rfl)]
  rfl
 ·rw [Zm (decide_eq_false (by omega))]
  have n1:(((s.length+v.length:Nat):Int) - (k:Int)).toNat=s.length+v.length - k:=by omega
  have n2:(((s.length+v.length:Nat):Int) - ((k+v.length:Nat):Int)).toNat=s.length - k:=by omega
  have n4:List.take (s.length+v.length - k) v=v:=List.take_of_length_le (by omega)
  have n5:min (s.length - k) (s.length+v.length - k)=s.length - k:=by omega
  simp only [n1,n2,n4,n5]
  have w1:(Q6 Y (k+v.length) (s.drop k)).length=Y.length:=Z4 (by omega)
  have w2:(Q6 (Q6 Y (k+v.length) (s.drop k)) k v).length=Y.length:=by rw [Z4 (by omega),w1]
  repeat rw [Q7 (by simp only [Bool.and_eq_true,decide_eq_true_eq,Q2,Zg,beq_iff_eq,and_true,true_and];omega)]
  rw [b]
  show (bif _ then _ else none)=_
  repeat rw [Q7 (by simp only [Bool.and_eq_true,decide_eq_true_eq,Q2,Zg,beq_iff_eq,and_true,true_and];omega)]
  rw [Zr (r:=s.take k++v++s.drop k) (by
   refine List.ext_getElem? fun j=>?_
   rw [List.getElem?_take,List.getElem?_map,f]
   by_cases hj:j<s.length+v.length
   ·rw [if_pos hj,Qi (by omega)]
    by_cases h3:j<k
    ·rw [if_pos h3,if_pos h3,Qi (by omega),if_pos (by omega),d j (by omega)]
    ·by_cases h4:j<k+v.length
     ·rw [if_neg h3,if_pos h4,if_neg h3,if_pos h4]
     ·rw [if_neg h3,if_neg h4,if_neg h3,if_neg h4,Qi (by omega),if_neg (by omega),if_pos (by omega),List.getElem?_drop,show k+(j - (k+v.length))=j - v.length by omega]
   ·rw [if_neg hj,if_neg (by omega),if_neg (by omega),List.getElem?_eq_none (by omega)];rfl)]
  rfl
end Go.PE
set_option maxRecDepth 100000
namespace Go.PE
def Qif {α:Type} (z:α) (c:Nat) (a:List α) (b:Int):Option (((List α) × Unit) × Unit):=
 bif decide (b<0) then
 none
 else
 bif Nat.ble (0+a.length) ((List.map some a++List.replicate c none).length) then
 bif decide (IntKind.wrap .i64 (b - (IntKind.wrap .i64 (((((List.map some a++List.replicate c none).length) - 0:Nat):Int) - ((a.length:Nat):Int))))>0) then
  bif Nat.ble (0+a.length) ((List.map some a++List.replicate c none).length) then
  bif decide (0≤((((List.map some a++List.replicate c none).length) - 0:Nat):Int))&&decide (((((List.map some a++List.replicate c none).length) - 0:Nat):Int)≤((((List.map some a++List.replicate c none).length) - 0:Nat):Int)) then
   bif Nat.ble (0+((((((List.map some a++List.replicate c none).length) - 0:Nat):Int) - 0).toNat)) ((List.map some a++List.replicate c none).length) then
   bif decide (0<IntKind.wrap .i64 (b - (IntKind.wrap .i64 (((((List.map some a++List.replicate c none).length) - 0:Nat):Int) - ((a.length:Nat):Int)))))&&true&&Nat.blt ((List.map some a++List.replicate c none).length) (((((((List.map some a++List.replicate c none).length) - 0:Nat):Int) - 0).toNat)+((List.replicate ((IntKind.wrap .i64 (b - (IntKind.wrap .i64 (((((List.map some a++List.replicate c none).length) - 0:Nat):Int) - ((a.length:Nat):Int))))).toNat) z).length))&&Nat.ble (((List.map some a++List.replicate c none).length)+((List.replicate ((IntKind.wrap .i64 (b - (IntKind.wrap .i64 (((((List.map some a++List.replicate c none).length) - 0:Nat):Int) - ((a.length:Nat):Int))))).toNat) z).length)) 536870912 then
    bif decide (0≤((a.length:Nat):Int))&&decide (((a.length:Nat):Int)≤((((List.take ((((((List.map some a++List.replicate c none).length) - 0:Nat):Int) - 0).toNat) (List.map some a++List.replicate c none)++List.map some (List.replicate ((IntKind.wrap .i64 (b - (IntKind.wrap .i64 (((((List.map some a++List.replicate c none).length) - 0:Nat):Int) - ((a.length:Nat):Int))))).toNat) z)).length) - 0:Nat):Int)) then
    bif Nat.ble ((((a.length:Nat):Int) - 0).toNat) ((List.take ((((((List.map some a++List.replicate c none).length) - 0:Nat):Int) - 0).toNat) (List.map some a++List.replicate c none)++List.map some (List.replicate ((IntKind.wrap .i64 (b - (IntKind.wrap .i64 (((((List.map some a++List.replicate c none).length) - 0:Nat):Int) - ((a.length:Nat):Int))))).toNat) z)).length) then
     Option.bind (Qd (List.take ((((a.length:Nat):Int) - 0).toNat) (List.take ((((((List.map some a++List.replicate c none).length) - 0:Nat):Int) - 0).toNat) (List.map some a++List.replicate c none)++List.map some (List.replicate ((IntKind.wrap .i64 (b - (IntKind.wrap .i64 (((((List.map some a++List.replicate c none).length) - 0:Nat):Int) - ((a.length:Nat):Int))))).toNat) z)))) fun (z1:List α)=>
     some ((z1,()),())
    else none
    else none
   else none
   else none
  else none
  else none
 else
 bif Nat.ble a.length ((List.map some a++List.replicate c none).length) then
  Option.bind (Qd (List.take a.length (List.map some a++List.replicate c none))) fun (z2:List α)=>
  some ((z2,()),())
 else none
 else none
def Qia {α:Type} (s:List α) (n:Int):Option (((List α) × Unit) × Unit):=
 bif decide (0≤n)&&decide (n≤134217728)&&Nat.ble s.length 134217728 then some ((s,()),()) else none
theorem Q8y {α:Type} (s:List α) (c:Nat) (q:List (Option α)):Qd (List.take s.length (List.map some s++q))=some s:=Zr (by
 rw [List.take_append_of_le_length (by simp),List.take_of_length_le (by simp)])
theorem Qjl {α:Type} (z:α) (c:Nat) (s:List α) (n:Int) (r) (hc:c≤maxLen) (h:Qia s n=some r):Qif z c s n=some r:=by
 unfold Qia at h
 cases hq:(decide (0≤n)&&decide (n≤134217728)&&Nat.ble s.length 134217728) with
 | false=>rw [hq] at h;cases h
 | true=>
 rw [hq] at h
 have h:=sI h
 subst h
 simp only [Bool.and_eq_true,decide_eq_true_eq] at hq
 obtain ⟨⟨h0,h1⟩,h2⟩:=hq
 have h2:=Nat.le_of_ble_eq_true h2
 have hc:c≤9223372036854775807:=hc
 have b:(List.map some s++List.replicate c none).length=s.length+c:=by simp
 have a:=Q8y s c (List.replicate c none)
 have e2:IntKind.wrap .i64 (n - (c:Int))=n - (c:Int):=by rw [IntKind.wrap_i64];omega
 unfold Qif
 rw [Zm (decide_eq_false (by omega))]
 generalize hY:List.map some s++List.replicate c none=Y at *
 have e1:IntKind.wrap .i64 ((Y.length:Int) - (s.length:Int))=(c:Int):=by rw [b,IntKind.wrap_i64];omega
 simp only [Int.sub_zero,Nat.sub_zero,Nat.zero_add,Int.toNat_natCast,List.length_replicate]
 simp only [e1,e2]
 rw [Q7 (Q2.2 (by omega))]
 by_cases hg:n - (c:Int)>0
 ·rw [Q7 (decide_eq_true hg)]
  have w0:(List.take Y.length Y++List.map some (List.replicate (n - (c:Int)).toNat z)).length=Y.length+(n - (c:Int)).toNat:=by
   rw [List.length_append,List.length_take,Nat.min_self,List.length_map,List.length_replicate]
  repeat rw [Q7 (by simp only [Bool.and_eq_true,decide_eq_true_eq,Q2,Zg,beq_iff_eq,and_true,true_and];omega)]
  have e3:Qd (List.take s.length (List.take Y.length Y++List.map some (List.replicate (n - (c:Int)).toNat z)))=some s:=by
   rw [List.take_append_of_le_length (by rw [List.length_take];omega),List.take_take,Nat.min_eq_left (by omega),a]
  rw [e3]
  rfl
 ·rw [Zm (decide_eq_false hg),Q7 (Q2.2 (by omega)),a]
  rfl
def Qev {α:Type} (z:α) (c:Nat) (a:List α) (b:Int) (d:Int):Option (((List α) × Unit) × Unit):=
 bif ((decide (0≤b)&&decide (b≤d))&&decide (d≤((a.length:Nat):Int)))&&decide (((a.length:Nat):Int)≤((((List.map some a++List.replicate c none).length) - 0:Nat):Int)) then
 bif b==d then
  bif Nat.ble a.length ((List.map some a++List.replicate c none).length) then
  Option.bind (Qd (List.take a.length (List.map some a++List.replicate c none))) fun (z1:List α)=>
  some ((z1,()),())
  else none
 else
 bif decide (0≤b)&&decide (b≤((((List.map some a++List.replicate c none).length) - 0:Nat):Int)) then
  bif (decide (0≤d)&&decide (d≤((a.length:Nat):Int)))&&decide (((a.length:Nat):Int)≤((((List.map some a++List.replicate c none).length) - 0:Nat):Int)) then
  bif Nat.ble (0+((b - 0).toNat)) ((List.map some a++List.replicate c none).length) then
   bif Nat.ble ((0+d.toNat)+((((a.length:Nat):Int) - d).toNat)) ((List.map some a++List.replicate c none).length) then
   Option.bind (Qd (List.take ((((a.length:Nat):Int) - d).toNat) (List.drop (0+d.toNat) (List.map some a++List.replicate c none)))) fun (z2:List α)=>
   bif Nat.ble (((b - 0).toNat)+z2.length) ((List.map some a++List.replicate c none).length) then
    bif (decide (0≤((((b - 0).toNat)+z2.length:Nat):Int))&&decide (((((b - 0).toNat)+z2.length:Nat):Int)≤((a.length:Nat):Int)))&&decide (((a.length:Nat):Int)≤((((Q6 (List.map some a++List.replicate c none) ((b - 0).toNat) z2).length) - 0:Nat):Int)) then
    bif Nat.ble ((0+(((((b - 0).toNat)+z2.length:Nat):Int).toNat))+((((a.length:Nat):Int) - ((((b - 0).toNat)+z2.length:Nat):Int)).toNat)) ((Q6 (List.map some a++List.replicate c none) ((b - 0).toNat) z2).length) then
     bif Nat.ble (((b - 0).toNat)+z2.length) ((Q6 (Q6 (List.map some a++List.replicate c none) ((b - 0).toNat) z2) (0+(((((b - 0).toNat)+z2.length:Nat):Int).toNat)) (List.replicate ((((a.length:Nat):Int) - ((((b - 0).toNat)+z2.length:Nat):Int)).toNat) z)).length) then
     Option.bind (Qd (List.take (((b - 0).toNat)+z2.length) (Q6 (Q6 (List.map some a++List.replicate c none) ((b - 0).toNat) z2) (0+(((((b - 0).toNat)+z2.length:Nat):Int).toNat)) (List.replicate ((((a.length:Nat):Int) - ((((b - 0).toNat)+z2.length:Nat):Int)).toNat) z)))) fun (z3:List α)=>
     some ((z3,()),())
     else none
    else none
    else none
   else
   bif Nat.ble (((b - 0).toNat)+z2.length) 1073741824 then
    Option.bind (Qd (List.take ((b - 0).toNat) (List.map some a++List.replicate c none))) fun (z4:List α)=>
    bif (decide (0≤(((z4++z2).length:Nat):Int))&&decide ((((z4++z2).length:Nat):Int)≤((a.length:Nat):Int)))&&decide (((a.length:Nat):Int)≤(((List.map some (z4++z2)).length:Nat):Int)) then
    bif Nat.ble ((0+((((z4++z2).length:Nat):Int).toNat))+((((a.length:Nat):Int) - (((z4++z2).length:Nat):Int)).toNat)) ((List.map some (z4++z2)).length) then
     none
    else none
    else none
   else none
   else none
  else none
  else none
 else none
 else none
def Qeu {α:Type} (s:List α) (i j:Int):Option (((List α) × Unit) × Unit):=
 bif decide (0≤i)&&decide (i≤j)&&decide (j≤(s.length:Int)) then some ((s.take i.toNat++s.drop j.toNat,()),()) else none
theorem Qiu {α:Type} (z:α) (c:Nat) (s:List α) (i j:Int) (r) (l:c≤maxLen) (h:Qeu s i j=some r):Qev z c s i j=some r:=by
 unfold Qeu at h
 cases hq:(decide (0≤i)&&decide (i≤j)&&decide (j≤(s.length:Int))) with
 | false=>rw [hq] at h;cases h
 | true=>
 rw [hq] at h
 have h:=sI h
 subst h
 simp only [Bool.and_eq_true,decide_eq_true_eq] at hq
 obtain ⟨⟨h0,h1⟩,h2⟩:=hq
 obtain ⟨a,rfl⟩:∃ a:Nat,i=(a:Int):=⟨i.toNat,by omega⟩
 obtain ⟨b,rfl⟩:∃ b:Nat,j=(b:Int):=⟨j.toNat,by omega⟩
 have f:∀ j,j<s.length→(List.map some s++List.replicate c none)[j]?=(s[j]?).map some:=fun j hj=>by
  rw [List.getElem?_append_left (by rw [List.length_map];exact hj),List.getElem?_map]
 have k:(List.map some s++List.replicate c none).length=s.length+c:=by simp
 have g:=Q8y s c (List.replicate c none)
 have m1:((s.length:Int) - (b:Int)).toNat=s.length - b:=by omega
 unfold Qev
 simp only [Int.toNat_natCast,Int.sub_zero,Nat.zero_add,Nat.sub_zero,m1]
 generalize hY:List.map some s++List.replicate c none=Y at *
 have d:Qd (List.take (s.length - b) (List.drop b Y))=some (s.drop b):=Zr (by
  refine List.ext_getElem? fun j=>?_
  rw [List.getElem?_take,List.getElem?_map,List.getElem?_drop,List.getElem?_drop]
  by_cases hj:j<s.length - b
  ·rw [if_pos hj,f _ (by omega)]
  ·rw [if_neg hj,List.getElem?_eq_none (by omega)];rfl)
 have m:(s.drop b).length=s.length - b:=List.length_drop ..
 rw [Q7 (by simp only [Bool.and_eq_true,decide_eq_true_eq,Q2,Zg,beq_iff_eq,and_true,true_and];omega)]
 by_cases hab:a=b
 ·subst hab
  rw [Q7 (by simp)]
  rw [Q7 (Q2.2 (by omega)),g]
  simp
 rw [Zm (beq_eq_false_iff_ne.2 (by omega))]
 repeat rw [Q7 (by simp only [Bool.and_eq_true,decide_eq_true_eq,Q2,Zg,beq_iff_eq,and_true,true_and];omega)]
 rw [d]
 show (bif _ then _ else _)=_
 have w1:(Q6 Y a (s.drop b)).length=Y.length:=Z4 (by omega)
 have n1:((s.length:Int) - ((a+(s.drop b).length:Nat):Int)).toNat=b - a:=by omega
 simp only [n1]
 have w2:(Q6 (Q6 Y a (s.drop b)) (a+(s.drop b).length) (List.replicate (b - a) z)).length=Y.length:=by rw [Z4 (by rw [List.length_replicate];omega),w1]
 repeat rw [Q7 (by simp only [Bool.and_eq_true,decide_eq_true_eq,Q2,Zg,beq_iff_eq,and_true,true_and];omega)]
 rw [Zr (r:=s.take a++s.drop b) (by
  have e:(s.take a).length=a:=by rw [List.length_take];omega
  refine List.ext_getElem? fun j=>?_
  rw [List.getElem?_take,List.getElem?_map]
  by_cases hj:j<a+(s.drop b).length
  ·rw [if_pos hj,Qi (by omega),if_pos hj,Qi (by omega)]
   by_cases h3:j<a
   ·rw [if_pos h3,List.getElem?_append_left (by omega),List.getElem?_take,if_pos h3,f j (by omega)]
   ·rw [if_neg h3,if_pos hj,List.getElem?_append_right (by omega),e]
  ·rw [if_neg hj,List.getElem?_eq_none (by rw [List.length_append];omega)];rfl)]
 rfl
end Go.PE
set_option maxRecDepth 100000
namespace Go.PE
def Qbs {α:Type} (z:α) (c:Nat) (a:List (Option α)) (b:Int) (d:Int):Option (((List α) × Unit) × Unit):=
 bif ((decide (0≤b)&&decide (b≤d))&&decide (d≤((a.length:Nat):Int)))&&decide (((a.length:Nat):Int)≤((((List.append a (List.replicate c none)).length) - 0:Nat):Int)) then
 bif b==d then
  bif Nat.ble a.length ((List.append a (List.replicate c none)).length) then
  Option.bind (Qd (List.take a.length (List.append a (List.replicate c none)))) fun (z1:List α)=>
  some ((z1,()),())
  else none
 else
 bif decide (0≤b)&&decide (b≤((((List.append a (List.replicate c none)).length) - 0:Nat):Int)) then
  bif (decide (0≤d)&&decide (d≤((a.length:Nat):Int)))&&decide (((a.length:Nat):Int)≤((((List.append a (List.replicate c none)).length) - 0:Nat):Int)) then
  bif Nat.ble (0+((b - 0).toNat)) ((List.append a (List.replicate c none)).length) then
   bif Nat.ble ((0+d.toNat)+((((a.length:Nat):Int) - d).toNat)) ((List.append a (List.replicate c none)).length) then
   Option.bind (Qd (List.take ((((a.length:Nat):Int) - d).toNat) (List.drop (0+d.toNat) (List.append a (List.replicate c none))))) fun (z2:List α)=>
   bif Nat.ble (((b - 0).toNat)+z2.length) ((List.append a (List.replicate c none)).length) then
    bif (decide (0≤((((b - 0).toNat)+z2.length:Nat):Int))&&decide (((((b - 0).toNat)+z2.length:Nat):Int)≤((a.length:Nat):Int)))&&decide (((a.length:Nat):Int)≤((((Q6 (List.append a (List.replicate c none)) ((b - 0).toNat) z2).length) - 0:Nat):Int)) then
    bif Nat.ble ((0+(((((b - 0).toNat)+z2.length:Nat):Int).toNat))+((((a.length:Nat):Int) - ((((b - 0).toNat)+z2.length:Nat):Int)).toNat)) ((Q6 (List.append a (List.replicate c none)) ((b - 0).toNat) z2).length) then
     bif Nat.ble (((b - 0).toNat)+z2.length) ((Q6 (Q6 (List.append a (List.replicate c none)) ((b - 0).toNat) z2) (0+(((((b - 0).toNat)+z2.length:Nat):Int).toNat)) (List.replicate ((((a.length:Nat):Int) - ((((b - 0).toNat)+z2.length:Nat):Int)).toNat) z)).length) then
     Option.bind (Qd (List.take (((b - 0).toNat)+z2.length) (Q6 (Q6 (List.append a (List.replicate c none)) ((b - 0).toNat) z2) (0+(((((b - 0).toNat)+z2.length:Nat):Int).toNat)) (List.replicate ((((a.length:Nat):Int) - ((((b - 0).toNat)+z2.length:Nat):Int)).toNat) z)))) fun (z3:List α)=>
     some ((z3,()),())
     else none
    else none
    else none
   else
   bif Nat.ble (((b - 0).toNat)+z2.length) 1073741824 then
    Option.bind (Qd (List.take ((b - 0).toNat) (List.append a (List.replicate c none)))) fun (z4:List α)=>
    bif (decide (0≤(((z4++z2).length:Nat):Int))&&decide ((((z4++z2).length:Nat):Int)≤((a.length:Nat):Int)))&&decide (((a.length:Nat):Int)≤(((List.map some (z4++z2)).length:Nat):Int)) then
    bif Nat.ble ((0+((((z4++z2).length:Nat):Int).toNat))+((((a.length:Nat):Int) - (((z4++z2).length:Nat):Int)).toNat)) ((List.map some (z4++z2)).length) then
     none
    else none
    else none
   else none
   else none
  else none
  else none
 else none
 else none
def Qcu {α:Type} (s:List (Option α)) (i j:Int):Option (((List α) × Unit) × Unit):=
 bif decide (0≤i)&&decide (i≤j)&&decide (j≤(s.length:Int)) then (Qd (s.take i.toNat++s.drop j.toNat)).bind fun r=>some ((r,()),()) else none
theorem Qig {α:Type} (z:α) (c:Nat) (s:List (Option α)) (i j:Int) (r) (m:c≤maxLen) (h:Qcu s i j=some r):Qbs z c s i j=some r:=by
 unfold Qcu at h
 cases hq:(decide (0≤i)&&decide (i≤j)&&decide (j≤(s.length:Int))) with
 | false=>rw [hq] at h;cases h
 | true=>
 rw [hq] at h
 obtain ⟨r0,ha,h⟩:=bE h
 have h:=sI h
 subst h
 simp only [Bool.and_eq_true,decide_eq_true_eq] at hq
 obtain ⟨⟨h0,h1⟩,h2⟩:=hq
 obtain ⟨a,rfl⟩:∃ a:Nat,i=(a:Int):=⟨i.toNat,by omega⟩
 obtain ⟨b,rfl⟩:∃ b:Nat,j=(b:Int):=⟨j.toNat,by omega⟩
 simp only [Int.toNat_natCast] at ha
 have ha:=Q1k ha
 have f:(s.take a).length=a:=by rw [List.length_take];omega
 have o:r0.length=a+(s.length - b):=by
  have:=congrArg List.length ha
  rw [List.length_append,f,List.length_drop,List.length_map] at this
  omega
 have e1:s.take a=(r0.take a).map some:=by
  have:=congrArg (List.take a) ha
  rw [List.take_append_of_le_length (by omega),List.take_of_length_le (by omega)] at this
  rw [this,List.map_take]
 have e2:s.drop b=(r0.drop a).map some:=by
  have:=congrArg (List.drop a) ha
  rw [List.drop_append_of_le_length (by omega),List.drop_of_length_le (by omega),List.nil_append] at this
  rw [this,List.map_drop]
 have g:∀ j,j<s.length→(List.append s (List.replicate c none))[j]?=s[j]?:=fun j hj=>by
  show (s++_)[j]?=_
  rw [List.getElem?_append_left hj]
 have l:(List.append s (List.replicate c none)).length=s.length+c:=by
  show (s++_).length=_
  simp
 have m1:((s.length:Int) - (b:Int)).toNat=s.length - b:=by omega
 have k:a=b→Qd (List.take s.length (List.append s (List.replicate c none)))=some r0:=fun e=>Zr (by
  show List.take s.length (s++_)=_
  rw [List.take_append_of_le_length (by omega),List.take_of_length_le (by omega),← ha,e,List.take_append_drop])
 unfold Qbs
 simp only [Int.toNat_natCast,Int.sub_zero,Nat.zero_add,Nat.sub_zero,m1]
 generalize hY:List.append s (List.replicate c none)=Y at *
 have n:(r0.drop a).length=s.length - b:=by rw [List.length_drop];omega
 have d:Qd (List.take (s.length - b) (List.drop b Y))=some (r0.drop a):=Zr (by
  rw [← e2]
  refine List.ext_getElem? fun j=>?_
  rw [List.getElem?_take,List.getElem?_drop,List.getElem?_drop]
  by_cases hj:j<s.length - b
  ·rw [if_pos hj,g _ (by omega)]
  ·rw [if_neg hj,List.getElem?_eq_none (by omega)])
 rw [Q7 (by simp only [Bool.and_eq_true,decide_eq_true_eq,Q2,Zg,beq_iff_eq,and_true,true_and];omega)]
 by_cases hab:a=b
 ·rw [Q7 (by simp [hab])]
  rw [Q7 (Q2.2 (by omega)),k hab]
  rfl
 rw [Zm (beq_eq_false_iff_ne.2 (by omega))]
 repeat rw [Q7 (by simp only [Bool.and_eq_true,decide_eq_true_eq,Q2,Zg,beq_iff_eq,and_true,true_and];omega)]
 rw [d]
 show (bif _ then _ else _)=_
 have w1:(Q6 Y a (r0.drop a)).length=Y.length:=Z4 (by omega)
 have n1:((s.length:Int) - ((a+(r0.drop a).length:Nat):Int)).toNat=b - a:=by omega
 simp only [n1]
 have w2:(Q6 (Q6 Y a (r0.drop a)) (a+(r0.drop a).length) (List.replicate (b - a) z)).length=Y.length:=by rw [Z4 (by rw [List.length_replicate];omega),w1]
 repeat rw [Q7 (by simp only [Bool.and_eq_true,decide_eq_true_eq,Q2,Zg,beq_iff_eq,and_true,true_and];omega)]
 rw [Zr (r:=r0) (by
  refine List.ext_getElem? fun j=>?_
  rw [List.getElem?_take]
  by_cases hj:j<a+(r0.drop a).length
  ·rw [if_pos hj,Qi (by omega),if_pos hj,Qi (by omega)]
   by_cases h3:j<a
   ·rw [if_pos h3,g j (by omega),← ha,List.getElem?_append_left (by omega),List.getElem?_take,if_pos h3]
   ·rw [if_neg h3,if_pos hj,← ha,List.getElem?_append_right (by omega),f,e2,List.getElem?_map]
  ·rw [if_neg hj,List.getElem?_eq_none (by rw [List.length_map];omega)])]
 rfl
end Go.PE
