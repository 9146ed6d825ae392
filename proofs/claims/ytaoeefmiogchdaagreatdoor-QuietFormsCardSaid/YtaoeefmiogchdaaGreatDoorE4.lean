/-
  The evaluator PE and its soundness, part 4.
  Conditions: none.
-/
import Derived.Carry
import Derived.ChangeArms
import Derived.RowKit
import Derived.JoinedOf
import Derived.Test.YtaoeefmiogchdaaGreatDoorE3
set_option linter.unusedVariables false
set_option linter.unusedSimpArgs false
namespace Go.PE
section
variable {P:Program} {tab:Tab} {N:NN} {w0:World} {F:FF} {S:Nat→Prop} {β:Lab→Value} {st:St} {a:Act} {w:World}
theorem Q98 (st:St):∀ (ts:List Nat) (t:Nat),Q9 (ts.map fun u=>(u,Q9 st.slots u)) t=.dead∨(t∈ts∧Q9 (ts.map fun u=>(u,Q9 st.slots u)) t=Q9 st.slots t)
 | [],t=>.inl rfl
 | u::r,t=>by
  rw [List.map_cons,Qk]
  by_cases h:u=t
  ·subst h;rw [if_pos rfl];exact .inr ⟨List.mem_cons_self ..,rfl⟩
  ·rw [if_neg h]
   rcases Q98 st r t with h1 | ⟨h1,h2⟩
   ·exact .inl h1
   ·exact .inr ⟨List.mem_cons_of_mem _ h1,h2⟩
theorem Qbp (st:St):∀ (ls:List Lab) (l:Lab),Q0 (ls.filterMap fun l=>(Q0 st.objs l).map fun b=>(l,b)) l=if l∈ls then Q0 st.objs l else none
 | [],l=>by simp [Q0]
 | m::r,l=>by
  rw [List.filterMap_cons]
  have ih:=Qbp st r l
  cases hm:Q0 st.objs m with
  | none=>
   simp only [Option.map_none]
   rw [ih]
   by_cases h:l=m
   ·subst h;rw [hm];simp
   ·simp [h]
  | some b=>
   simp only [Option.map_some]
   rw [Q3,ih]
   by_cases h:m=l
   ·subst h;rw [if_pos rfl,hm];simp
   ·rw [if_neg h]
    have h3:l≠m:=fun e=>h e.symm
    by_cases h2:l∈r<;>simp [h2,h3]
theorem Q1q:∀ {ls:List Lab} {l:Lab},l∈Q4a ls↔l∈ls
 | [],l=>by simp [Q4a]
 | m::r,l=>by
  simp only [Q4a]
  cases hm:Xu m r with
  | true=>
   simp only [cond_true,List.mem_cons]
   rw [Q1q]
   exact ⟨.inr,fun h=>h.elim (fun e=>e▸Q02.1 hm) id⟩
  | false=>
   simp only [cond_false,List.mem_cons]
   rw [Q1q]
theorem Qdj {ts:List Nat} {l:Lab} (h:l∈Q7k st ts):(∃ t∈ts,l∈Qf (Q9 st.slots t))∨∃ m x,m∈Q7k st ts∧Q0 st.objs m=some x∧l∈Qz x:=by
 have h':=h
 unfold Q7k at h
 rw [Q1q] at h
 rcases List.mem_append.1 h with h | h
 ·obtain ⟨t,ht,hl⟩:=List.mem_flatMap.1 h
  exact .inl ⟨t,ht,hl⟩
 ·obtain ⟨m,hm,hl⟩:=List.mem_flatMap.1 h
  split at hl
  ·rename_i x hx
   refine .inr ⟨m,x,?_,hx,hl⟩
   unfold Q7k
   rw [Q1q]
   exact List.mem_append.2 (.inl hm)
  ·cases hl
theorem Qg4 {all:List Oper} {o:Oper} {l:Lab} (h:l∈Q6w st all o):(∃ t∈Xk all o,l∈Qf (Q9 st.slots t))∨∃ m x,m∈Q6w st all o∧Q0 st.objs m=some x∧l∈Qz x:=by
 unfold Q6w at h ⊢
 cases hm:Qaz o with
 | true=>rw [hm] at h;cases h
 | false=>
  rw [hm] at h
  simp only [cond_false] at h ⊢
  cases hm2:Qbk st o with
  | true=>
   rw [hm2] at h
   simp only [cond_true] at h
   rw [Q1q] at h
   obtain ⟨t,ht,hl⟩:=List.mem_flatMap.1 h
   exact .inl ⟨t,ht,hl⟩
  | false=>rw [hm2] at h;exact Qdj h
theorem Qcj {ls:List Lab} {l:Lab} (h:l∈Qg1 st ls):∃ m x,m∈ls∧Q0 st.objs m=some x∧l∈Qz x:=by
 unfold Qg1 at h
 obtain ⟨m,hm,hl⟩:=List.mem_flatMap.1 h
 split at hl
 ·rename_i x hx;exact ⟨m,x,hm,hx,hl⟩
 ·cases hl
theorem Q3r {ls:List Lab} {dst:Option Nat} {l:Lab} (h:within ls dst l=true):l∈ls∨dst=some l.1:=by
 unfold within at h
 rw [Bool.or_eq_true] at h
 rcases h with h | h
 ·exact .inl (Q02.1 h)
 ·cases dst with
  | none=>cases h
  | some d=>exact .inr (by rw [Z7.1 h])
theorem Qgx {all:List Oper} {dst:Option Nat} {s:St} {R:Type} {k:St→Option R} {res:R} (h:split all dst s k=some res) :
  ∃ s',k s'=some res∧(s'=s∨∃ d b,dst=some d∧Q9 s.slots d=.cv (.one (.pure .bool b))∧s'=Q1r s (some d) (.cv (.one (.lit b)))):=by
 unfold split at h
 cases dst with
 | none=>exact ⟨s,h,.inl rfl⟩
 | some d=>
  simp only at h
  cases hq:Q7b d (Qec all) with
  | false=>rw [hq] at h;exact ⟨s,h,.inl rfl⟩
  | true=>
   rw [hq] at h
   simp only [cond_true] at h
   split at h
   ·rename_i x hx
    cases hb:(show Bool from x) with
    | true=>
     have hb:x=true:=hb
     subst hb
     exact ⟨_,h,.inr ⟨d,true,rfl,hx,rfl⟩⟩
    | false=>
     have hb:x=false:=hb
     subst hb
     exact ⟨_,h,.inr ⟨d,false,rfl,hx,rfl⟩⟩
   ·exact ⟨s,h,.inl rfl⟩
theorem Rel.lit (h:Rel P tab.ty N w0 F S β st a w) {d:Nat} {b:Bool} (hd:Q9 st.slots d=.cv (.one (.pure .bool b))):Rel P tab.ty N w0 F S β (Q1r st (some d) (.cv (.one (.lit b)))) a w:=by
 refine ⟨h.sb,fun t=>?_,h.objs,h.excl,h.dist,h.fr,h.size,h.nodef,h.within,h.par⟩
 show Qe P tab.ty S β w (Q9 ((d,SV.cv (.one (.lit b)))::st.slots) t) _
 rw [Qk]
 split
 ·rename_i e;subst e
  have:=h.slots d
  rw [hd] at this
  exact List.singleton_inj.1 this
 ·exact h.slots t
def Qeq (P:Program) (tab:Tab) (N:NN) (bf:List Nat) (all:List Oper) (r:List Oper) (i:Nat) (ts:List Tr) (st:St) {R:Type} (k:St→Option R) (res:R):Prop:=
  ∃ (er:List En) (fin:St),er.map (·.o)=r∧k fin=some res∧∀ (ep:List En) (sl0:Nat→SV) (ob0:Lab→Option Ob),ep.length=i→(∀ t,Q9 st.slots t=Zc (fun _=>true) 0 ep sl0 t)→(∀ l,Q0 st.objs l=Z9 (fun _=>true) 0 ep ob0 l) →
   (∀ n e,ep[n]?=some e→e.act=true→∃ x∈ts,x.i=n∧x.rd=e.ls∧x.wr=e.W) →
   (∀ j e,er[j]?=some e→Qhr P tab N bf all (ep++er) sl0 ob0 (i+j) e)∧(∀ t,Q9 fin.slots t=Zc (fun _=>true) 0 (ep++er) sl0 t)∧(∀ l,Q0 fin.objs l=Z9 (fun _=>true) 0 (ep++er) ob0 l)
theorem Qbg {Γ:Ctx} (hΓ:J8 tab.ty P Γ) (hTab:Qc P tab) {bf:List Nat} {all:List Oper} {R:Type} {k:St→Option R} {res:R}:∀ {r:List Oper} {i:Nat} {ts:List Tr} {st:St},
  (∀ o∈r,∀ d,o.dst=some d→okD N d)→Qab Γ tab bf all r i ts st k=some res →
  Qeq P tab N bf all r i ts st k res
 | [],i,ts,st,hd,he=>⟨[],st,rfl,he,fun ep sl0 ob0 _ h1 h2 _=>⟨fun j e hj=>by simp at hj,by simpa using h1,by simpa using h2⟩⟩
 | o::r,i,ts,st,hd,he=>by
  have hdr:∀ o∈r,∀ d,o.dst=some d→okD N d:=fun o ho=>hd o (List.mem_cons_of_mem _ ho)
  have hdo:=hd o (List.mem_cons_self ..)
  have join:∀ (e:En) (st1:St) (ts1:List Tr),e.o=o→Qab Γ tab bf all r (i+1) ts1 st1 k=some res →
    (∀ t,Q9 st1.slots t=e.putSl (Q9 st.slots) t)→(∀ l,Q0 st1.objs l=e.putOb (Q0 st.objs) l)→(∀ x∈ts,x∈ts1)→(e.act=true→∃ x∈ts1,x.i=i∧x.rd=e.ls∧x.wr=e.W) →
    (∀ (ep er:List En) (sl0:Nat→SV) (ob0:Lab→Option Ob),ep.length=i→(∀ t,Q9 st.slots t=Zc (fun i=>decide (i<ep.length)) 0 (ep++e::er) sl0 t)→(∀ l,Q0 st.objs l=Z9 (fun i=>decide (i<ep.length)) 0 (ep++e::er) ob0 l) →
     (∀ n e,ep[n]?=some e→e.act=true→∃ x∈ts,x.i=n∧x.rd=e.ls∧x.wr=e.W)→Qhr P tab N bf all (ep++e::er) sl0 ob0 i e) →
    Qeq P tab N bf all (o::r) i ts st k res:=by
   intro e st1 ts1 heo he hsl hob hts hte hok
   obtain ⟨er,fin,g1,g2,g3⟩:=Qbg hΓ hTab hdr he
   refine ⟨e::er,fin,by simp [heo,g1],g2,fun ep sl0 ob0 hl h1 h2 h3=>?_⟩
   have q:=g3 (ep++[e]) sl0 ob0 (by simp [hl]) (fun t=>by
    rw [hsl,Q3d]
    simp only [Zc,if_true]
    unfold En.putSl
    rw [h1]) (fun l=>by
    rw [hob,Q3g]
    simp only [Z9,if_true]
    unfold En.putOb
    rw [h2]) (fun n e' hn ha=>by
     by_cases hlt:n<ep.length
     ·rw [List.getElem?_append_left hlt] at hn
      obtain ⟨x,hx,hr⟩:=h3 n e' hn ha
      exact ⟨x,hts x hx,hr⟩
     ·rw [List.getElem?_append_right (by omega)] at hn
      have hn0:n - ep.length=0:=by
       rcases Nat.eq_zero_or_pos (n - ep.length) with h0 | h0
       ·exact h0
       ·rw [List.getElem?_eq_none (by simp;omega)] at hn;cases hn
      rw [hn0] at hn
      have hn:=Option.some.inj hn
      subst hn
      obtain ⟨x,hx,hxi,hr⟩:=hte ha
      exact ⟨x,hx,by rw [hxi];omega,hr⟩)
   rw [List.append_assoc,List.singleton_append] at q
   refine ⟨fun j e' hj=>?_,q.2.1,q.2.2⟩
   cases j with
   | zero=>
    have hj:=Option.some.inj hj
    subst hj
    exact hok ep er sl0 ob0 hl (fun t=>by rw [h1,Qd1]) (fun l=>by rw [h2,Qdp]) h3
   | succ j=>
    have:=q.1 j e' (by simpa using hj)
    rw [show i+1+j=i+(j+1) by omega] at this
    exact this
  have skip:Qab Γ tab bf all r (i+1) ts (Q1r st o.dst .skip) k=some res→Q0f all (Q9 st.slots) o false→Qeq P tab N bf all (o::r) i ts st k res:=fun he hg=>
   join { o:=o,act:=false,ls:=[],W:=[],sub:=st,s:=st } (Q1r st o.dst .skip) ts rfl he (fun t=>by
    simp only [En.putSl,En.v]
    cases hdst:o.dst with
    | none=>simp [Q1r]
    | some d=>simp only [Q1r,Qk,Option.some.injEq]) (fun l=>by
    simp only [En.putOb]
    cases o.dst<;>simp [Q1r]) (fun x hx=>hx) (fun h=>by cases h) (fun ep er sl0 ob0 hl h1 h2 h3=>by
    have hsl:Zc (fun n=>decide (n<i)) 0 (ep++{ o:=o,act:=false,ls:=[],W:=[],sub:=st,s:=st }::er) sl0=Q9 st.slots:=by rw [← hl];funext t;exact (h1 t).symm
    refine ⟨by rw [hsl];exact hg,?_,?_,?_,?_,?_,?_,?_⟩<;>(intro h;cases h))
  have go:(Q3y Γ tab [] (Q8v st (Xk all o) (Q6w st all o)) o fun s W=>
     bif Qiv bf ts { i:=i,rd:=Q6w st all o,wr:=W }&&Qed (Q6w st all o) (Qid st all o) (Qg1 st (Q6w st all o)) o.dst s W then
     split all o.dst s fun s'=>Qab Γ tab bf all r (i+1) ({ i:=i,rd:=Q6w st all o,wr:=W }::ts) (Qer st (Q6w st all o) W s' o.dst) k else none)=some res→Q0f all (Q9 st.slots) o true→Qeq P tab N bf all (o::r) i ts st k res:=fun he hg=>by
   obtain ⟨s0,W,hk,hall,hkeep⟩:=Qfu he
   generalize hls:Q6w st all o=ls at *
   cases hq:(Qiv bf ts { i:=i,rd:=ls,wr:=W }&&Qed ls (Qid st all o) (Qg1 st ls) o.dst s0 W) with
   | false=>simp only [hq] at hk;cases hk
   | true=>
    simp only [hq,cond_true] at hk
    rw [Bool.and_eq_true] at hq
    obtain ⟨htr,hlo⟩:=hq
    obtain ⟨s',hk,hs'⟩:=Qgx hk
    have hobj:s'.objs=s0.objs:=by
     rcases hs' with rfl | ⟨d,b,_,_,rfl⟩<;>rfl
    unfold Qed at hlo
    simp only [Bool.and_eq_true,List.all_eq_true] at hlo
    obtain ⟨⟨l1,l2⟩,l3⟩:=hlo
    have hsubo:∀ l,Q0 (Q8v st (Xk all o) ls).objs l=if l∈ls then Q0 st.objs l else none:=fun l=>Qbp st ls l
    refine join { o:=o,act:=true,ls:=ls,W:=W,sub:=Q8v st (Xk all o) ls,s:=s' } (Qer st ls W s' o.dst) _ rfl hk (fun t=>?_) (fun l=>?_) (fun x hx=>List.mem_cons_of_mem _ hx) (fun _=>⟨_,List.mem_cons_self ..,rfl,rfl,rfl⟩) (fun ep er sl0 ob0 hl h1 h2 h3=>?_)
    ·simp only [En.putSl,En.v,Qer]
     cases hdst:o.dst with
     | none=>simp
     | some d=>simp only [List.singleton_append,Qk,Option.some.injEq]
    ·show Q0 (s'.objs++(PE.delAll st (ls++W)).objs) l=if true=true∧l∈W then Q0 s'.objs l else Q0 st.objs l
     rw [Q3a,Zp]
     by_cases hW:l∈W
     ·rw [if_pos (show l∈ls++W from List.mem_append.2 (.inr hW)),if_pos (show true=true∧l∈W from ⟨rfl,hW⟩)]
      cases Q0 s'.objs l<;>rfl
     ·have e9:(if true=true∧l∈W then Q0 s'.objs l else Q0 st.objs l)=Q0 st.objs l:=if_neg (fun h=>hW h.2)
      rw [e9]
      have hkl:Q0 s'.objs l=if l∈ls then Q0 st.objs l else none:=by rw [hobj,hkeep l hW,hsubo]
      by_cases hm:l∈ls
      ·rw [if_pos hm] at hkl
       rw [hkl,if_pos (show l∈ls++W from List.mem_append.2 (.inl hm))]
       cases Q0 st.objs l<;>rfl
      ·rw [if_neg hm] at hkl
       rw [hkl,if_neg (show ¬ l∈ls++W from fun h=>(List.mem_append.1 h).elim hm hW)]
    ·have hsl:Zc (fun n=>decide (n<i)) 0 (ep++{ o:=o,act:=true,ls:=ls,W:=W,sub:=Q8v st (Xk all o) ls,s:=s' }::er) sl0=Q9 st.slots:=by rw [← hl];funext t;exact (h1 t).symm
     have hob:Z9 (fun n=>decide (n<i)) 0 (ep++{ o:=o,act:=true,ls:=ls,W:=W,sub:=Q8v st (Xk all o) ls,s:=s' }::er) ob0=Q0 st.objs:=by rw [← hl];funext t;exact (h2 t).symm
     refine ⟨by rw [hsl];exact hg,fun _ t=>?_,fun _ l=>?_,fun _ l hlm=>?_,fun _=>?_,fun _ l hlW=>?_,fun _=>⟨fun l hlm=>?_,fun l x hx=>?_,fun l hlm=>Q3r (l3 l hlm)⟩,fun _ n e' hn hlt ha=>?_⟩
     ·rw [hsl];exact Q98 st (Xk all o) t
     ·rw [hob];exact hsubo l
     ·rw [hsl,hob]
      rw [← hls] at hlm
      rcases Qg4 hlm with h | ⟨m,x,hm,hx,hlx⟩
      ·exact .inl h
      ·exact .inr ⟨m,x,by rw [← hls];exact hm,hx,hlx⟩
     ·intro w0 F S β a w h Q K hK
      refine Qdv hΓ hTab hall h hdo Q K (fun x w' S' β' g1 g2 g3=>hK x w' S' β' g1 g2 ?_)
      rcases hs' with rfl | ⟨d,b,_,hsd,rfl⟩
      ·exact g3
      ·exact g3.lit hsd
     ·show Q0 s'.objs l=_
      rw [hobj];exact hkeep l hlW
     ·simp only [En.v] at hlm
      cases hdst:o.dst with
      | none=>rw [hdst] at hlm;simp [Qf] at hlm
      | some d=>
       rw [hdst] at hlm l1
       rcases hs' with rfl | ⟨d',b,hd',hsd,rfl⟩
       ·have:=List.all_eq_true.1 l1 l hlm
        rw [Bool.or_eq_true,Bool.or_eq_true] at this
        rcases this with h | h | h
        ·refine .inl (.inr ?_)
         rw [hsl]
         obtain ⟨t,ht,hl⟩:=List.mem_flatMap.1 (Q02.1 h)
         exact ⟨t,ht,hl⟩
        ·exact .inl (.inl (Q3r h))
        ·refine .inr ?_
         rw [hob]
         exact Qcj (Q02.1 h)
       ·have e:d'=d:=by rw [hdst] at hd';exact (Option.some.inj hd').symm
        subst e
        simp [Q1r,Qk,Qf,Q0y,Qw] at hlm
     ·have hx:Q0 s0.objs l=some x:=by rw [← hobj];exact hx
      have hp:=l2 (l,x) (Zn hx)
      exact ⟨Q3r hp.1,fun m hm=>by
       have:=hp.2 m hm
       rw [Bool.or_eq_true] at this
       rcases this with h | h
       ·exact .inl (Q3r h)
       ·refine .inr ?_
        rw [hob]
        exact Qcj (Q02.1 h)⟩
     ·have hnl:n<ep.length:=by omega
      rw [List.getElem?_append_left hnl] at hn
      obtain ⟨x,hx,hxi,hxr,hxw⟩:=h3 n e' hn ha
      have:=List.all_eq_true.1 htr x hx
      rw [Bool.or_eq_true] at this
      rcases this with h | h
      ·exact .inl (by rw [← hxi];exact h)
      ·simp only [Bool.and_eq_true] at h
       refine .inr ⟨fun l hl=>?_,fun l hl=>?_,fun l hl=>?_⟩
       ·exact Q0m h.1.1 l (by rw [hxw];exact hl)
       ·exact Q0m h.1.2 l (by rw [hxw];exact hl)
       ·rw [← hxr];exact Q0m h.2 l hl
  unfold Qab at he
  cases hg:o.guard with
  | none=>
   simp only [hg] at he
   exact go he (by unfold Q0f;rw [hg])
  | some gw=>
   obtain ⟨g,want⟩:=gw
   simp only [hg] at he
   cases ht:(all[g]?).bind (·.dst) with
   | none=>simp only [ht] at he;cases he
   | some t=>
    simp only [ht] at he
    split at he
    ·rename_i hs
     exact skip he (by unfold Q0f;rw [hg];exact ⟨t,ht,.inl ⟨hs,rfl⟩⟩)
    ·rename_i b hs
     cases hb:(b==want) with
     | true=>
      simp only [hb,cond_true] at he
      exact go he (by unfold Q0f;rw [hg];exact ⟨t,ht,.inr ⟨b,hs,hb.symm⟩⟩)
     | false=>
      simp only [hb,cond_false] at he
      exact skip he (by unfold Q0f;rw [hg];exact ⟨t,ht,.inr ⟨b,hs,hb.symm⟩⟩)
    ·cases he
end
end Go.PE
set_option linter.unusedVariables false
set_option linter.unusedSimpArgs false
namespace Go.PE
theorem Q68 {acc:List Nat} {i:Nat}:∀ {es:List Edge} {s:Nat},(es.foldl (fun s e=>bif Region.binds .any e then s ||| 2 ^ e.on ||| acc.getD e.on 0 else s) s).testBit i=true →
  s.testBit i=true∨∃ e∈es,Region.binds .any e=true∧(i=e.on∨(acc.getD e.on 0).testBit i=true)
 | [],s,h=>.inl h
 | e::r,s,h=>by
  rw [List.foldl_cons] at h
  rcases Q68 h with h1 | ⟨e',he',h1⟩
  ·cases hb:Region.binds .any e with
   | false=>rw [hb] at h1;exact .inl h1
   | true=>
    rw [hb] at h1
    simp only [cond_true,Nat.testBit_or,Bool.or_eq_true,Nat.testBit_two_pow,decide_eq_true_eq] at h1
    rcases h1 with (h1 | h1) | h1
    ·exact .inl h1
    ·exact .inr ⟨e,List.mem_cons_self ..,hb,.inl h1.symm⟩
    ·exact .inr ⟨e,List.mem_cons_self ..,hb,.inr h1⟩
  ·exact .inr ⟨e',List.mem_cons_of_mem _ he',h1⟩
theorem Q4b:∀ (r:List Oper) (acc:List Nat) (k:Nat),k<acc.length→(Q21 r acc).getD k 0=acc.getD k 0
 | [],acc,k,_=>rfl
 | o::r,acc,k,h=>by
  simp only [Q21]
  rw [Q4b r _ k (by simp;omega),List.getD_eq_getElem?_getD,List.getD_eq_getElem?_getD,List.getElem?_append_left h]
theorem Q9h:∀ (r:List Oper) (acc:List Nat) (j:Nat) (o:Oper),r[j]?=some o→∀ i,((Q21 r acc).getD (acc.length+j) 0).testBit i=true →
  ∃ e∈o.after.toList,Region.binds .any e=true∧(i=e.on∨((Q21 r acc).getD e.on 0).testBit i=true)
 | [],acc,j,o,hj,_,_=>by simp at hj
 | x::r,acc,0,o,hj,i,h=>by
  have hj:=Option.some.inj hj
  subst hj
  simp only [Q21] at h ⊢
  rw [Nat.add_zero,Q4b r _ acc.length (by simp),List.getD_eq_getElem?_getD,List.getElem?_append_right (Nat.le_refl _)] at h
  simp only [Nat.sub_self,List.getElem?_cons_zero,Option.getD_some] at h
  unfold Qa3 at h
  rcases Q68 h with h1 | ⟨e,he,hb,h1⟩
  ·simp at h1
  ·refine ⟨e,he,hb,?_⟩
   rcases h1 with h1 | h1
   ·exact .inl h1
   ·refine .inr ?_
    have hlt:e.on<acc.length:=by
     rcases Nat.lt_or_ge e.on acc.length with hl | hl
     ·exact hl
     ·rw [List.getD_eq_getElem?_getD,List.getElem?_eq_none hl] at h1;simp at h1
    rw [Q4b r _ e.on (by simp;omega),List.getD_eq_getElem?_getD,List.getElem?_append_left hlt,← List.getD_eq_getElem?_getD]
    exact h1
 | x::r,acc,j+1,o,hj,i,h=>by
  simp only [Q21] at h ⊢
  have:=Q9h r (acc++[Qa3 acc x.after.toList]) j o (by simpa using hj) i
  rw [List.length_append,List.length_singleton,show acc.length+1+j=acc.length+(j+1) by omega] at this
  exact this h
theorem Q9z {all:List Oper} {i j:Nat} {o:Oper} (hj:all[j]?=some o) (h:Jw (Q21 all []) i j=true) :
  ∃ e∈o.after.toList,Region.binds .any e=true∧(i=e.on∨Jw (Q21 all []) i e.on=true):=by
 have:=Q9h all [] j o hj i
 simp only [List.length_nil,Nat.zero_add] at this
 exact this h
theorem Q9e {bf:List Nat} {all:List Oper} (h:Q5f bf all=true) {i j:Nat} {x y:Oper} (hi:all[i]?=some x) (hj:all[j]?=some y) (hlt:i<j) :
  Jw bf i j=true∨((∀ t,x.dst=some t→t ∉ Xk all y)∧(∀ t,y.dst=some t→t ∉ Xk all x)):=by
 unfold Q5f at h
 have hx:(x,i)∈all.zipIdx:=List.mem_zipIdx_iff_getElem?.2 hi
 have hy:(y,j)∈all.zipIdx:=List.mem_zipIdx_iff_getElem?.2 hj
 have h1:=List.all_eq_true.1 (List.all_eq_true.1 h (x,i) hx) (y,j) hy
 have hb:Nat.blt i j=true:=Q2.2 hlt
 simp only [hb,cond_true,Bool.or_eq_true] at h1
 rcases h1 with h1 | h1
 ·exact .inl h1
 ·refine .inr ?_
  unfold Q8r at h1
  simp only [Bool.and_eq_true] at h1
  have ap:∀ {a b:List Nat},Q5m a b=true→∀ t∈a,t ∉ b:=fun {a b} hab t ht=>by
   have:=List.all_eq_true.1 hab t ht
   rw [Bool.not_eq_true',← Bool.not_eq_true,Q20] at this
   exact this
  refine ⟨fun t ht=>ap h1.1.1 t (by simp [Zf,ht]),fun t ht=>ap h1.1.2 t (by simp [Zf,ht])⟩
theorem Q4v:∀ {l:List Nat},Q34 l=true→l.Nodup
 | [],_=>List.nodup_nil
 | t::r,h=>by
  simp only [Q34,Bool.and_eq_true,Bool.not_eq_true'] at h
  refine List.nodup_cons.2 ⟨fun hm=>?_,Q4v h.2⟩
  rw [← Bool.not_eq_true,Q20] at h
  exact h.1 hm
theorem Qbm:∀ {all:List Oper},(all.flatMap Zf).Nodup→∀ {i j:Nat} {x y:Oper} {t:Nat},all[i]?=some x→all[j]?=some y→x.dst=some t→y.dst=some t→i=j
 | [],_,i,j,x,y,t,hi,_,_,_=>by simp at hi
 | o::r,h,i,j,x,y,t,hi,hj,hx,hy=>by
  rw [List.flatMap_cons,List.nodup_append] at h
  obtain ⟨_,h2,h3⟩:=h
  have inr:∀ {k:Nat} {z:Oper},r[k]?=some z→z.dst=some t→t∈r.flatMap Zf:=fun hk hz=>
   List.mem_flatMap.2 ⟨_,List.mem_of_getElem? hk,by simp [Zf,hz]⟩
  cases i with
  | zero=>
   cases j with
   | zero=>rfl
   | succ j=>
    have hi:=Option.some.inj hi
    subst hi
    exact absurd rfl (h3 t (by simp [Zf,hx]) t (inr (by simpa using hj) hy))
  | succ i=>
   cases j with
   | zero=>
    have hj:=Option.some.inj hj
    subst hj
    exact absurd rfl (h3 t (by simp [Zf,hy]) t (inr (by simpa using hi) hx))
   | succ j=>rw [Qbm h2 (i:=i) (j:=j) (by simpa using hi) (by simpa using hj) hx hy]
section
variable {P:Program} {tab:Tab} {N:NN} {w0:World} {F:FF} {S:Nat→Prop} {β:Lab→Value} {st:St} {a:Act} {w:World}
theorem Q1n {d:Nat} (h:Q84 st d=true):(∀ t,∀ l∈Qf (Q9 st.slots t),l.1≠d)∧∀ l x,Q0 st.objs l=some x→l.1≠d∧∀ m∈Qz x,m.1≠d:=by
 unfold Q84 at h
 simp only [Bool.and_eq_true,List.all_eq_true,Bool.not_eq_true'] at h
 refine ⟨fun t l hl=>?_,fun l x hx=>?_⟩
 ·by_cases hd:Q9 st.slots t=.dead
  ·rw [hd] at hl;simp [Qf] at hl
  ·obtain ⟨p,hp,hpv⟩:=Qc7 rfl hd
   exact Z0.1 (h.2 p hp l (by rw [hpv];exact hl))
 ·have:=h.1 (l,x) (Zn hx)
  exact ⟨Z0.1 this.1,fun m hm=>Z0.1 (this.2 m hm)⟩
theorem Q9y.skipF {τ:TypeId→Option Ty} {sl:Nat→SV} {ob:Lab→Option Ob} (h:Q9y P τ N w0 F S β sl ob a w) {dst:Option Nat} (hd:∀ d,dst=some d→okD N d) :
  Q9y P τ N w0 F S β (fun t=>if dst=some t then .skip else sl t) ob (a.put dst undef) w:=by
 cases dst with
 | none=>simp only [reduceCtorEq,if_false];exact h
 | some d=>
  have hlt:d<a.tmps.size:=by rw [h.size];exact (hd d rfl).1
  refine ⟨h.sb,fun t=>?_,h.objs,h.excl,h.dist,h.fr,?_,h.nodef,h.within,fun p hp=>?_⟩
  ·simp only [Act.put,Q30 hlt,Option.some.injEq]
   by_cases e:d=t
   ·rw [if_pos e,if_pos e];rfl
   ·rw [if_neg e,if_neg e];exact h.slots t
  ·simp only [Act.put,Array.size_setIfInBounds];exact h.size
  ·simp only [Act.put];rw [Q30 hlt,if_neg (fun e=>(hd d rfl).2 p hp e.symm)];exact h.par p hp
theorem Q9l {τ:TypeId→Option Ty} {ops:Array Oper} {sl sl':Nat→SV} {ob:Lab→Option Ob} (h:Q9y P τ N w0 F S β sl ob a w) {o:Oper} {act:Bool} (hg:Q0f ops.toList sl' o act) (hs:∀ t∈Xk ops.toList o,sl' t=sl t) :
  Region.wanted o (yielded ops a.tmps)=act:=by
 unfold Q0f at hg
 unfold Region.wanted
 cases ho:o.guard with
 | none=>rw [ho] at hg;exact hg.symm
 | some gw=>
  obtain ⟨g,want⟩:=gw
  rw [ho] at hg
  obtain ⟨t,ht,hg⟩:=hg
  have hl:t∈Xk ops.toList o:=by
   unfold Xk
   rw [ho]
   exact List.mem_append.2 (.inr (by simp only [ht];simp))
  rw [hs t hl] at hg
  have hv:=h.slots t
  rcases hg with ⟨e,rfl⟩ | ⟨b,e,rfl⟩
  ·rw [e] at hv
   have hv:a.tmps.getD t undef=undef:=hv
   simp only [Q47 ht hv];rfl
  ·rw [e] at hv
   have hv:a.tmps.getD t undef=.bool b:=hv
   simp only [Q7p ht hv];cases b<;>cases want<;>rfl
end
end Go.PE
set_option linter.unusedVariables false
set_option linter.unusedSimpArgs false
namespace Go.PE
section
variable {P:Program} {tab:Tab} {N:NN} {w0:World} {F:FF} {S:Nat→Prop} {β:Lab→Value} {st:St} {a:Act} {w:World}
def Q55 (all:List Oper) (es:List En) (D:Nat→Bool) (l:Lab):Prop:=
 (l.1≠999999999∧l.1 ∉ all.flatMap Zf)∨∃ (k:Nat) (e:En),D k=true∧es[k]?=some e∧e.o.dst=some l.1
structure Qhs (P:Program) (tab:Tab) (N:NN) (w0:World) (F:FF) (S:Nat→Prop) (all:List Oper) (es:List En) (sl0:Nat→SV) (ob0:Lab→Option Ob) (D:Nat→Bool) (a:Act) (w:World):Prop where
 rel:∃ S' β',(∀ k,S k→S' k)∧Q9y P tab.ty N w0 F S' β' (Zc D 0 es sl0) (Z9 D 0 es ob0) a w
 fs:∀ t,∀ l∈Qf (Zc D 0 es sl0 t),Q55 all es D l
 fo:∀ l x,Z9 D 0 es ob0 l=some x→Q55 all es D l∧∀ m∈Qz x,Q55 all es D m
 closed:∀ j,D j=true→∀ i,Jw (Q21 all []) i j=true→D i=true
def Q0n (D:Nat→Bool) (j:Nat):Nat→Bool:=fun i=>if i=j then true else D i
theorem Q55.mono {all:List Oper} {es:List En} {D D':Nat→Bool} {l:Lab} (h:Q55 all es D l) (hd:∀ i,D i=true→D' i=true):Q55 all es D' l:=by
 rcases h with h | ⟨k,e,h1,h2⟩
 ·exact .inl h
 ·exact .inr ⟨k,e,hd k h1,h2⟩
theorem Qew {ops:Array Oper} {es:List En} {sl0:Nat→SV} {ob0:Lab→Option Ob} (hes:es.map (·.o)=ops.toList) (hok:∀ j e,es[j]?=some e→Qhr P tab N (Q21 ops.toList []) ops.toList es sl0 ob0 j e)
  (htm:Q5f (Q21 ops.toList []) ops.toList=true) (hnd:(ops.toList.flatMap Zf).Nodup) (h9:999999999 ∉ ops.toList.flatMap Zf) (hdd:∀ o∈ops.toList,∀ d,o.dst=some d→okD N d)
  {D:Nat→Bool} (hi:Qhs P tab N w0 F S ops.toList es sl0 ob0 D a w) {j:Nat} {o:Oper} (hj:ops[j]?=some o) (hDj:D j=false) (hanc:∀ i,Jw (Q21 ops.toList []) i j=true→D i=true)
  (Q:Exit→Act→World→Prop) (K:Act→World→Prop) (hK:∀ a' w',Qhs P tab N w0 F S ops.toList es sl0 ob0 (Q0n D j) a' w'→K a' w') :
  if Region.wanted o (yielded ops a.tmps) then o.wp P a w K Q∨(o.asks P a w∧LetsOut Q) else K (a.put o.dst undef) w:=by
 have hjl:ops.toList[j]?=some o:=by rw [Array.getElem?_toList];exact hj
 obtain ⟨e,he,heo⟩:∃ e,es[j]?=some e∧e.o=o:=by
  rw [← hes,List.getElem?_map] at hjl
  cases hx:es[j]? with
  | none=>rw [hx] at hjl;cases hjl
  | some e=>rw [hx] at hjl;exact ⟨e,rfl,Option.some.inj hjl⟩
 have hall:∀ (i:Nat) (e':En),es[i]?=some e'→ops.toList[i]?=some e'.o:=fun i e' h=>by rw [← hes,List.getElem?_map,h];rfl
 have E:=hok j e he
 have hDj':∀ i,Jw (Q21 ops.toList []) j i=true→D i=false:=fun i h=>by
  cases hD:D i with
  | false=>rfl
  | true=>rw [hi.closed i hD j h] at hDj;cases hDj
 obtain ⟨S1,β1,hS1,hrel⟩:=hi.rel
 have seeS:∀ t∈Xk ops.toList e.o,Zc (fun i=>decide (i<j)) 0 es sl0 t=Zc D 0 es sl0 t:=fun t ht=>by
  refine J3 rfl (fun i e' hi' hdst=>?_)
  rw [Nat.zero_add]
  rcases Nat.lt_trichotomy i j with hlt | rfl | hgt
  ·rw [decide_eq_true hlt]
   rcases Q9e htm (hall i e' hi') hjl hlt with h | ⟨h,_⟩
   ·exact (hanc i h).symm
   ·exact absurd (heo▸ht) (h t hdst)
  ·rw [hDj];simp
  ·rw [show decide (i<j)=false by simp;omega]
   rcases Q9e htm hjl (hall i e' hi') hgt with h | ⟨_,h⟩
   ·exact (hDj' i h).symm
   ·exact absurd (heo▸ht) (h t hdst)
 have seeO:e.act=true→∀ l∈e.ls,Z9 (fun i=>decide (i<j)) 0 es ob0 l=Z9 D 0 es ob0 l:=fun hact l hl=>by
  refine X3 rfl (fun i e' hi' ha' hW=>?_)
  rw [Nat.zero_add]
  rcases Nat.lt_trichotomy i j with hlt | rfl | hgt
  ·rw [decide_eq_true hlt]
   rcases E.tr hact i e' hi' hlt ha' with h | ⟨h,_,_⟩
   ·exact (hanc i h).symm
   ·exact absurd hl (h l hW)
  ·rw [hDj];simp
  ·rw [show decide (i<j)=false by simp;omega]
   rcases (hok i e' hi').tr ha' j e he hgt hact with h | ⟨_,_,h⟩
   ·exact (hDj' i h).symm
   ·exact absurd hl (h l hW)
 have hwant:=Q9l hrel (ops:=ops) (o:=e.o) E.guard seeS
 rw [heo] at hwant
 have once:∀ {i:Nat} {e':En} {t:Nat},es[i]?=some e'→e'.o.dst=some t→e.o.dst=some t→i=j:=fun hi' h1 h2=>Qbm hnd (hall _ _ hi') (hall _ _ he) h1 h2
 have upD:∀ i,D i=true→Q0n D j i=true:=fun i h=>by unfold Q0n;split<;>first | rfl | exact h
 have neD:∀ i,i≠j→D i=Q0n D j i:=fun i h=>by unfold Q0n;rw [if_neg h]
 have atD:Q0n D j j=true:=by unfold Q0n;rw [if_pos rfl]
 have closed':∀ k,Q0n D j k=true→∀ i,Jw (Q21 ops.toList []) i k=true→Q0n D j i=true:=fun k hk i h=>by
  by_cases hkj:k=j
  ·subst hkj;exact upD i (hanc i h)
  ·rw [← neD k hkj] at hk;exact upD i (hi.closed k hk i h)
 have newS:∀ t,Zc (Q0n D j) 0 es sl0 t=if e.o.dst=some t then e.v else Zc D 0 es sl0 t:=fun t=>by
  by_cases hdt:e.o.dst=some t
  ·rw [if_pos hdt]
   refine Q91 he hdt (by rw [Nat.zero_add];exact atD) (fun k e' hk hdk hlt=>?_)
   have:=once hk hdk hdt
   omega
  ·rw [if_neg hdt]
   refine J3 rfl (fun i e' hi' hdi=>?_)
   rw [Nat.zero_add]
   refine (neD i (fun h=>?_)).symm
   subst h
   rw [he] at hi'
   have:=Option.some.inj hi'
   subst this
   exact hdt hdi
 cases hact:e.act with
 | false=>
  rw [hwant,hact,if_neg (by decide)]
  refine hK _ _ ⟨?_,?_,?_,closed'⟩
  ·refine ⟨S1,β1,hS1,?_⟩
   have h1:=hrel.skipF (dst:=o.dst) (fun d hd=>hdd o (List.mem_of_getElem? hjl) d hd)
   have e1:Zc (Q0n D j) 0 es sl0=fun t=>if o.dst=some t then SV.skip else Zc D 0 es sl0 t:=by
    funext t
    rw [newS t,heo]
    unfold En.v
    rw [hact]
   have e2:Z9 (Q0n D j) 0 es ob0=Z9 D 0 es ob0:=by
    funext l
    refine X3 rfl (fun i e' hi' ha' _=>?_)
    rw [Nat.zero_add]
    refine (neD i (fun h=>?_)).symm
    subst h
    rw [he] at hi'
    have:=Option.some.inj hi'
    subst this
    rw [hact] at ha';cases ha'
   rw [e1,e2]
   exact h1
  ·intro t l hl
   rw [newS t] at hl
   split at hl
   ·unfold En.v at hl;rw [hact] at hl;simp [Qf] at hl
   ·exact (hi.fs t l hl).mono upD
  ·intro l x hx
   have e2:Z9 (Q0n D j) 0 es ob0 l=Z9 D 0 es ob0 l:=X3 rfl (fun i e' hi' ha' _=>by
    rw [Nat.zero_add]
    refine (neD i (fun h=>?_)).symm
    subst h
    rw [he] at hi'
    have:=Option.some.inj hi'
    subst this
    rw [hact] at ha';cases ha')
   rw [e2] at hx
   exact ⟨(hi.fo l x hx).1.mono upD,fun m hm=>((hi.fo l x hx).2 m hm).mono upD⟩
 | true=>
  rw [hwant,hact,if_pos rfl]
  refine .inl ?_
  have notMine:∀ l,Q55 ops.toList es D l→l.1≠o.dst.getD 999999999:=by
   rintro l (⟨h1,h2⟩ | ⟨k,e',hk,hke,hd⟩) heq
   ·cases hd:o.dst with
    | none=>rw [hd] at heq;exact h1 heq
    | some d=>
     rw [hd] at heq
     have heq:l.1=d:=heq
     exact h2 (List.mem_flatMap.2 ⟨o,List.mem_of_getElem? hjl,by simp [Zf,hd,heq]⟩)
   ·cases hdo:o.dst with
    | none=>
     rw [hdo] at heq
     have heq:l.1=999999999:=heq
     exact h9 (List.mem_flatMap.2 ⟨e'.o,List.mem_of_getElem? (hall k e' hke),by simp [Zf,hd,heq]⟩)
    | some d=>
     rw [hdo] at heq
     have heq:l.1=d:=heq
     have:=once hke hd (by rw [heo,hdo,heq])
     subst this
     rw [hk] at hDj;cases hDj
  have newO:∀ l,Z9 (Q0n D j) 0 es ob0 l=if l∈e.ls∨o.dst=some l.1 then Q0 e.s.objs l else Z9 D 0 es ob0 l:=fun l=>by
   by_cases hW:l∈e.W
   ·have hin:=(E.refs hact).2.2 l hW
    rw [heo] at hin
    rw [if_pos hin]
    refine Q8z he hact hW (by rw [Nat.zero_add];exact atD) (fun k e' hk ha' hWk hlt=>?_)
    rw [Nat.zero_add]
    rcases (hok k e' hk).tr ha' j e he hlt hact with h | ⟨_,h,_⟩
    ·rw [← neD k (by omega)];exact hDj' k h
    ·exact absurd hWk (h l hW)
   ·have e1:Z9 (Q0n D j) 0 es ob0 l=Z9 D 0 es ob0 l:=X3 rfl (fun i e' hi' ha' hWi=>by
     rw [Nat.zero_add]
     refine (neD i (fun h=>?_)).symm
     subst h
     rw [he] at hi'
     have:=Option.some.inj hi'
     subst this
     exact hW hWi)
    rw [e1]
    have hk:=E.keep hact l hW
    rw [E.ob hact l] at hk
    by_cases hl:l∈e.ls
    ·rw [if_pos (.inl hl),hk,if_pos hl,seeO hact l hl]
    ·rw [if_neg hl] at hk
     by_cases hd:o.dst=some l.1
     ·rw [if_pos (.inr hd),hk]
      cases hx:Z9 D 0 es ob0 l with
      | none=>rfl
      | some x=>exact absurd (by rw [hd];rfl) (notMine l (hi.fo l x hx).1)
     ·rw [if_neg (fun h=>h.elim hl hd)]
  have newS':∀ t,Zc (Q0n D j) 0 es sl0 t=if o.dst=some t then Q9 e.s.slots t else Zc D 0 es sl0 t:=fun t=>by
   rw [newS t,heo]
   by_cases hdt:o.dst=some t
   ·rw [if_pos hdt,if_pos hdt]
    unfold En.v
    rw [hact,heo,hdt]
   ·rw [if_neg hdt,if_neg hdt]
  have famRef:∀ l,(l∈e.ls∨e.o.dst=some l.1)→Q55 ops.toList es (Q0n D j) l:=fun l hl=>by
   rcases hl with hl | hl
   ·rcases E.ls hact l hl with ⟨t,ht,h⟩ | ⟨m,x,hm,hx,h⟩
    ·rw [seeS t ht] at h;exact (hi.fs t l h).mono upD
    ·rw [seeO hact m hm] at hx;exact ((hi.fo m x hx).2 l h).mono upD
   ·exact .inr ⟨j,e,atD,he,hl⟩
  have hfr:=Qd7 (sub:=e.sub) (s:=e.s) (ls:=e.ls) (o:=o) hrel (fun t=>?_) (fun l=>?_) (fun t l hl=>notMine l (hi.fs t l hl)) (fun l x hx=>⟨notMine l (hi.fo l x hx).1,fun m hm=>notMine m ((hi.fo l x hx).2 m hm)⟩)
   (by rw [← heo];exact E.loc hact) (fun l x hx=>by rw [← heo];exact ((E.refs hact).2.1 l x hx).1) Q K (fun x w' S' β' hS' h'=>hK _ _ ⟨⟨S',β',fun k hk=>hS' k (hS1 k hk),?_⟩,?_,?_,closed'⟩)
  ·exact hfr
  ·rcases E.sl hact t with h | ⟨ht,h⟩
   ·exact .inl h
   ·exact .inr (by rw [h,seeS t ht])
  ·rw [E.ob hact l]
   by_cases hl:l∈e.ls
   ·rw [if_pos hl,if_pos hl,seeO hact l hl]
   ·rw [if_neg hl,if_neg hl]
  ·have e1:Zc (Q0n D j) 0 es sl0=fun t=>if o.dst=some t then Q9 e.s.slots t else Zc D 0 es sl0 t:=funext newS'
   have e2:Z9 (Q0n D j) 0 es ob0=fun l=>if l∈e.ls∨o.dst=some l.1 then Q0 e.s.objs l else Z9 D 0 es ob0 l:=funext newO
   rw [e1,e2]
   exact h'
  ·intro t l hl
   rw [newS t] at hl
   split at hl
   ·rcases (E.refs hact).1 l hl with (h | ⟨t',ht',h⟩) | ⟨m,x,hm,hx,h⟩
    ·exact famRef l h
    ·rw [seeS t' ht'] at h;exact (hi.fs t' l h).mono upD
    ·rw [seeO hact m hm] at hx;exact ((hi.fo m x hx).2 l h).mono upD
   ·exact (hi.fs t l hl).mono upD
  ·intro l x' hx'
   rw [newO l] at hx'
   split at hx'
   ·have:=(E.refs hact).2.1 l x' hx'
    exact ⟨famRef l this.1,fun m hm=>by
     rcases this.2 m hm with h | ⟨q,y,hq,hy,h⟩
     ·exact famRef m h
     ·rw [seeO hact q hq] at hy;exact ((hi.fo q y hy).2 m h).mono upD⟩
   ·exact ⟨(hi.fo l x' hx').1.mono upD,fun m hm=>((hi.fo l x' hx').2 m hm).mono upD⟩
end
end Go.PE
set_option linter.unusedVariables false
set_option linter.unusedSimpArgs false
namespace Go.PE
theorem Q9g {p p':Nat→Bool} (h:∀ i,p' i=true→p i=true):∀ (l:List Nat),(l.filter p').length≤(l.filter p).length
 | []=>Nat.le_refl _
 | x::r=>by
  have ih:=Q9g h r
  rw [List.filter_cons,List.filter_cons]
  cases hp':p' x with
  | true=>rw [h x hp'];simpa using ih
  | false=>
   simp only [Bool.false_eq_true,if_false]
   split
   ·simp only [List.length_cons];omega
   ·exact ih
theorem Q8p {p p':Nat→Bool} (h:∀ i,p' i=true→p i=true) {j:Nat} (hj:p j=true) (hj':p' j=false):∀ (l:List Nat),j∈l→(l.filter p').length<(l.filter p).length
 | [],hm=>by cases hm
 | x::r,hm=>by
  rw [List.filter_cons,List.filter_cons]
  rcases List.mem_cons.1 hm with rfl | hm
  ·rw [hj,hj']
   have:=Q9g h r
   simp only [Bool.false_eq_true,if_false,if_true,List.length_cons]
   omega
  ·have ih:=Q8p h hj hj' r hm
   cases hp':p' x with
   | true=>rw [h x hp'];simpa using ih
   | false=>
    simp only [Bool.false_eq_true,if_false]
    split
    ·simp only [List.length_cons];omega
    ·exact ih
theorem Qa6 {xs:Array Bool} {i:Nat} (h:i<xs.size) (d d':Bool):xs.getD i d=xs.getD i d':=by
 simp only [Array.getD_eq_getD_getElem?,Array.getElem?_eq_getElem h,Option.getD_some]
theorem Qfj {ops:Array Oper} (he:Qaj ops.toList=true) {listed:Array Bool} (hs:listed.size=ops.size) (hr:Region.ready .any ops listed=[]):∀ i,i<ops.size→listed.getD i false=true:=by
 intro i
 induction i using Nat.strongRecOn with
 | _ i ih=>
  intro hi
  cases hl:listed.getD i false with
  | true=>rfl
  | false=>
   have hm:i∈Region.ready .any ops listed:=by
    rw [mem_ready]
    refine ⟨by rw [Qa6 (by omega) true false];exact hl,ops[i],Array.getElem?_eq_getElem hi,fun e hm hb=>?_⟩
    have hx:(ops[i],i)∈ops.toList.zipIdx:=List.mem_zipIdx_iff_getElem?.2 (by rw [Array.getElem?_toList];exact Array.getElem?_eq_getElem hi)
    have h1:=List.all_eq_true.1 (List.all_eq_true.1 he (ops[i],i) hx) e (Array.mem_toList_iff.2 hm)
    simp only [hb,Bool.not_true,Bool.false_or] at h1
    have hlt:=Q2.1 h1
    exact ih e.on hlt (by omega)
   rw [hr] at hm;cases hm
section
variable {P:Program} {tab:Tab} {N:NN} {w0:World} {F:FF} {S:Nat→Prop} {β:Lab→Value} {st:St} {a:Act} {w:World}
theorem Qfn {ops:Array Oper} {es:List En} {sl0:Nat→SV} {ob0:Lab→Option Ob} (hes:es.map (·.o)=ops.toList) (hok:∀ j e,es[j]?=some e→Qhr P tab N (Q21 ops.toList []) ops.toList es sl0 ob0 j e)
  (htm:Q5f (Q21 ops.toList []) ops.toList=true) (hnd:(ops.toList.flatMap Zf).Nodup) (h9:999999999 ∉ ops.toList.flatMap Zf) (hdd:∀ o∈ops.toList,∀ d,o.dst=some d→okD N d) (hedge:Qaj ops.toList=true)
  {Q:Exit→Act→World→Prop} (hQ:∀ a w,(∃ S' β',(∀ k,S k→S' k)∧Q9y P tab.ty N w0 F S' β' (Zc (fun _=>true) 0 es sl0) (Z9 (fun _=>true) 0 es ob0) a w)→Q .normal a w) :
  ∀ (fuel:Nat) (listed:Array Bool) (a:Act) (w:World),listed.size=ops.size→Qhs P tab N w0 F S ops.toList es sl0 ob0 (fun i=>listed.getD i false) a w →
   ((List.range ops.size).filter (fun i=>!(listed.getD i false))).length≤fuel→wpAny P .any ops Q fuel listed a w:=by
 have hlen:es.length=ops.size:=by rw [← Array.length_toList,← hes,List.length_map]
 have fin:∀ (listed:Array Bool) (a:Act) (w:World),(∀ i,i<ops.size→listed.getD i false=true)→Qhs P tab N w0 F S ops.toList es sl0 ob0 (fun i=>listed.getD i false) a w→Q .normal a w:=by
  intro listed a w hall hi
  obtain ⟨S',β',h1,h2⟩:=hi.rel
  refine hQ a w ⟨S',β',h1,?_⟩
  have e1:Zc (fun i=>listed.getD i false) 0 es sl0=Zc (fun _=>true) 0 es sl0:=by
   funext t
   refine J3 rfl (fun j e hj _=>?_)
   have:j<es.length:=(List.getElem?_eq_some_iff.1 hj).1
   rw [Nat.zero_add];exact hall j (by omega)
  have e2:Z9 (fun i=>listed.getD i false) 0 es ob0=Z9 (fun _=>true) 0 es ob0:=by
   funext l
   refine X3 rfl (fun j e hj _ _=>?_)
   have:j<es.length:=(List.getElem?_eq_some_iff.1 hj).1
   rw [Nat.zero_add];exact hall j (by omega)
  rw [← e1,← e2]
  exact h2
 intro fuel
 induction fuel with
 | zero=>
  intro listed a w hs hi hc
  have hnil:(List.range ops.size).filter (fun i=>!(listed.getD i false))=[]:=List.eq_nil_of_length_eq_zero (Nat.le_zero.1 hc)
  have hall:∀ i,i<ops.size→listed.getD i false=true:=fun i hlt=>by
   cases hl:listed.getD i false with
   | true=>rfl
   | false=>
    have:i∈(List.range ops.size).filter (fun i=>!(listed.getD i false)):=List.mem_filter.2 ⟨List.mem_range.2 hlt,by rw [hl];rfl⟩
    rw [hnil] at this;cases this
  refine ⟨?_,fin listed a w hall hi⟩
  cases hr:Region.ready .any ops listed with
  | nil=>rfl
  | cons i r=>
   have hm:i∈Region.ready .any ops listed:=by rw [hr];exact List.mem_cons_self ..
   rw [mem_ready] at hm
   obtain ⟨h1,o,ho,_⟩:=hm
   have hlt:i<ops.size:=(Array.getElem?_eq_some_iff.1 ho).1
   have h2:=hall i hlt
   rw [Qa6 (by omega) false true,h1] at h2
   cases h2
 | succ fuel ih=>
  intro listed a w hs hi hc
  refine ⟨fun hr=>fin listed a w (Qfj hedge hs hr) hi,fun j hj=>?_⟩
  rw [mem_ready] at hj
  obtain ⟨h1,o,ho,hedges⟩:=hj
  have hlt:j<ops.size:=(Array.getElem?_eq_some_iff.1 ho).1
  have hDj:listed.getD j false=false:=by rw [Qa6 (by omega) false true];exact h1
  have hjl:ops.toList[j]?=some o:=by rw [Array.getElem?_toList];exact ho
  have key:=Qew hes hok htm hnd h9 hdd hi ho hDj (fun i h=>by
   obtain ⟨e,hm,hb,h⟩:=Q9z hjl h
   have hon:=hedges e (Array.mem_toList_iff.1 hm) hb
   rcases h with rfl | h
   ·exact hon
   ·exact hi.closed e.on hon i h) Q (wpAny P .any ops Q fuel (listed.setIfInBounds j true)) (fun a' w' hi'=>by
   have e1:Q0n (fun i=>listed.getD i false) j=fun i=>(listed.setIfInBounds j true).getD i false:=by
    funext i
    unfold Q0n
    simp only [Array.getD_eq_getD_getElem?,Array.getElem?_setIfInBounds]
    by_cases hij:i=j
    ·subst hij;rw [if_pos rfl,if_pos rfl,if_pos (by omega)];rfl
    ·rw [if_neg hij,if_neg (fun h=>hij h.symm)]
   rw [e1] at hi'
   refine ih _ a' w' (by rw [Array.size_setIfInBounds];exact hs) hi' ?_
   have hl:=Q8p (p:=fun i=>!(listed.getD i false)) (p':=fun i=>!((listed.setIfInBounds j true).getD i false)) (j:=j) (fun i h=>by
    have:=congrFun e1 i
    rw [← this] at h
    unfold Q0n at h
    by_cases hij:i=j
    ·rw [if_pos hij] at h;cases h
    ·rw [if_neg hij] at h;exact h) (by rw [hDj];rfl) (by
    have:=congrFun e1 j
    rw [← this]
    unfold Q0n;rw [if_pos rfl];rfl) (List.range ops.size) (List.mem_range.2 hlt)
   omega)
  unfold wpOp
  rw [ho]
  exact key
theorem Q7o {Γ:Ctx} (hm:P.follows .mixedOrders=true) (hΓ:J8 tab.ty P Γ) (hTab:Qc P tab) (N:NN):Q79 P Γ tab N:=by
 intro w0 F S β st a w id ops R k res Q hd h he hQ
 refine wp_region_any hm ?_
 unfold Qdz at he
 cases hq:(Q5f (Q21 ops.toList []) ops.toList&&Qdt st ops.toList) with
 | false=>rw [hq] at he;cases he
 | true=>
  rw [hq] at he
  simp only [cond_true] at he
  rw [Bool.and_eq_true] at hq
  obtain ⟨htm,hdr⟩:=hq
  unfold Qdt at hdr
  simp only [Bool.and_eq_true,Bool.not_eq_true',List.all_eq_true] at hdr
  obtain ⟨⟨⟨q1,q2⟩,q3⟩,q4⟩:=hdr
  have h9:999999999 ∉ ops.toList.flatMap Zf:=by rw [← Bool.not_eq_true,Q20] at q2;exact q2
  have hw:Rel P tab.ty N w0 F S β st a { w with drawn:=w.drawn+1 }:=h.grow' (Fr.drew _ w)
  obtain ⟨es,fin,g1,g2,g3⟩:=Qbg hΓ hTab hd he
  obtain ⟨k1,k2,k3⟩:=g3 [] (Q9 st.slots) (Q0 st.objs) rfl (fun _=>rfl) (fun _=>rfl) (fun n e hn=>by simp at hn)
  simp only [List.nil_append] at k1 k2 k3
  have none_:∀ i,(Array.replicate ops.size false).getD i false=false:=fun i=>by
   rw [Array.getD_eq_getD_getElem?,Array.getElem?_replicate];split<;>rfl
  have accN:∀ (es:List En) (i:Nat) (f:Nat→SV),Zc (fun i=>(Array.replicate ops.size false).getD i false) i es f=f:=by
   intro es
   induction es with
   | nil=>intro i f;rfl
   | cons y q ih=>intro i f;rw [Zc,ih,if_neg (by rw [none_];decide)]
  have accM:∀ (es:List En) (i:Nat) (f:Lab→Option Ob),Z9 (fun i=>(Array.replicate ops.size false).getD i false) i es f=f:=by
   intro es
   induction es with
   | nil=>intro i f;rfl
   | cons y q ih=>intro i f;rw [Z9,ih,if_neg (by rw [none_];decide)]
  have fam:∀ l:Lab,(∀ d∈(999999999::ops.toList.flatMap Zf),l.1≠d)→Q55 ops.toList es (fun i=>(Array.replicate ops.size false).getD i false) l:=fun l hl=>
   .inl ⟨hl _ (List.mem_cons_self ..),fun hm=>hl _ (List.mem_cons_of_mem _ hm) rfl⟩
  refine Qfn (w0:=w0) (F:=F) (S:=S) g1 (fun j e hj=>by have:=k1 j e hj;rw [Nat.zero_add] at this;exact this) htm (Q4v q1) h9 hd q4 (fun a' w' hrel=>?_) ops.size _ a _ (by simp) ⟨⟨S,β,fun _ x=>x,?_⟩,fun t l hl=>?_,fun l x hx=>?_,fun j hj=>?_⟩ ?_
  ·obtain ⟨S',β',h1,h2⟩:=hrel
   have e1:Zc (fun _=>true) 0 es (Q9 st.slots)=Q9 fin.slots:=by funext t;exact (k2 t).symm
   have e2:Z9 (fun _=>true) 0 es (Q0 st.objs)=Q0 fin.objs:=by funext t;exact (k3 t).symm
   rw [e1,e2] at h2
   exact hQ a' w' S' β' fin h1 h2 g2
  ·rw [accN,accM];exact hw
  ·rw [accN] at hl
   exact fam l (fun d hd=>(Q1n (q3 d hd)).1 t l hl)
  ·rw [accM] at hx
   exact ⟨fam l (fun d hd=>((Q1n (q3 d hd)).2 l x hx).1),fun m hm=>fam m (fun d hd=>((Q1n (q3 d hd)).2 l x hx).2 m hm)⟩
  ·rw [none_] at hj;cases hj
  ·exact Nat.le_trans (List.length_filter_le _ _) (by simp)
theorem Q83 (c c':Nat):∀ {ps:List PK} {x:PDs ps} (i:Nat),Jk ps=true→Zk c i ps x=Zk c' i ps x
 | [],x,i,_=>rfl
 | p::r,x,i,h=>by
  have hr:Jk r=true:=by cases p<;>first | exact h | cases h
  have ih:=Q83 c c' (ps:=r) (x:=x.2) (i+1) hr
  cases p<;>first | (cases h;done) | (simp only [Zk];rw [ih])
theorem Qh2 {Γ:Ctx} {fi:Fi} {n:Nat} {ps:List PK} {rs:List RK} {fn:Func} {x:PDs ps} (h:Jk ps=true) (c:Nat):Qdf Γ tab { fi with cap:=c } n ps rs fn x=Qdf Γ tab fi n ps rs fn x:=by
 unfold Qdf
 cases fn.body with
 | none=>rfl
 | some b=>
  simp only
  rw [Q83 c fi.cap 0 h]
theorem Qgb {Γ:Ctx} (hm:P.follows .mixedOrders=true) (hΓ:J8 tab.ty P Γ) (hTab:Qc P tab) {f:FuncId} {fn:Func} (hf:P.funcs[f]?=some fn) (hnm:(fn.name=="runtime.NumGoroutine")=false) (hnb:fn.body.isNone=false) {ps:List PK} {rs:List RK} {fi:Fi} {n:Nat}
  {G:PDs ps→Option (RDs rs × ODs ps)} (hG:∀ c x r,c≤maxLen→G x=some r→Qdf Γ tab { fi with cap:=c } n ps rs fn x=some r):Q4j tab.ty P f ⟨ps,rs,G⟩:=
 Qh5 hΓ hTab (fun N=>Q7o hm hΓ hTab N) hf hnm hnb hG
theorem Qjd {Γ:Ctx} (hm:P.follows .mixedOrders=true) (hΓ:J8 tab.ty P Γ) (hTab:Qc P tab) {f:FuncId} {fn:Func} (hf:P.funcs[f]?=some fn) (hnm:(fn.name=="runtime.NumGoroutine")=false) (hnb:fn.body.isNone=false) {ps:List PK} {rs:List RK} {fi:Fi} {n:Nat}
  {G:PDs ps→Option (RDs rs × ODs ps)} (hG:∀ x r,G x=some r→Qdf Γ tab fi n ps rs fn x=some r) (hno:Jk ps=true:=by rfl):Q4j tab.ty P f ⟨ps,rs,G⟩:=
 Qgb hm hΓ hTab hf hnm hnb (fun c x r _ h=>by rw [Qh2 hno];exact hG x r h)
end
end Go.PE
set_option linter.unusedVariables false
set_option linter.unusedSimpArgs false
namespace Go.PE
def Qeu:List (Nat × Nat)→List (Nat × Nat)→Bool
 | [],[]=>true
 | a::r,b::q=>Nat.beq a.1 b.1&&Nat.beq a.2 b.2&&Qeu r q
 | _,_=>false
theorem Qbi:∀ {a b:List (Nat × Nat)},Qeu a b=true→a=b
 | [],[],_=>rfl
 | a::r,b::q,h=>by
  simp only [Qeu,Bool.and_eq_true] at h
  rw [Qbi h.2]
  obtain ⟨a1,a2⟩:=a
  obtain ⟨b1,b2⟩:=b
  have e1:a1=b1:=Nat.eq_of_beq_eq_true h.1.1
  have e2:a2=b2:=Nat.eq_of_beq_eq_true h.1.2
  rw [e1,e2]
 | [],_::_,h=>by cases h
 | _::_,[],h=>by cases h
def Qep (P:Program) (T:TypeId) (d:TD):Bool:=
 match d,P.underlying T with
 | .int k,some (.int k')=>Nat.beq (Qp k) (Qp k')
 | .bool,some .bool=>true
 | .str,some .string=>true
 | .ifc,some (.interface _)=>true
 | .slc e,some (.slice e')=>Nat.beq e e'
 | .stc fs,some (.struct gs)=>Qeu (gs.toList.map fun g=>(g.type,g.offset)) fs
 | .ptr e,some (.pointer e')=>Nat.beq e e'
 | .arr n e,some (.array n' e')=>Nat.beq n n'&&Nat.beq e e'
 | .fnc,_=>true
 | .ovl _,_=>true
 | .mth _ _ _,_=>true
 | .elt _ _ _ _ _,_=>false
 | _,_=>false
def Q6x:Value→Value→Bool
 | .int k n,.int k' n'=>Nat.beq (Qp k) (Qp k')&&decide (n=n')
 | .bool b,.bool b'=>b==b'
 | .string s,.string s'=>decide (s.data.toList=s'.data.toList)
 | .nilIface,.nilIface=>true
 | .slice none 0 0,.slice none 0 0=>true
 | _,_=>false
theorem Qca {u v:Value} (h:Q6x u v=true):u=v:=by
 unfold Q6x at h
 split at h
 ·simp only [Bool.and_eq_true,decide_eq_true_eq] at h;rw [Js (Nat.eq_of_beq_eq_true h.1),h.2]
 ·rw [eq_of_beq h]
 ·rename_i s s'
  have:=of_decide_eq_true h
  obtain ⟨⟨x⟩⟩:=s
  obtain ⟨⟨y⟩⟩:=s'
  have:x=y:=this
  rw [this]
 ·rfl
 ·rfl
 ·cases h
def zeroCells:List Value→List Value→Bool
 | [],[]=>true
 | a::r,b::q=>Q6x a b&&zeroCells r q
 | _,_=>false
theorem Q26:∀ {a b:List Value},zeroCells a b=true→a=b
 | [],[],_=>rfl
 | a::r,b::q,h=>by
  simp only [zeroCells,Bool.and_eq_true] at h
  rw [Qca h.1,Q26 h.2]
 | [],_::_,h=>by cases h
 | _::_,[],h=>by cases h
def Qir:Value→Bool
 | .agg _=>true
 | _=>false
def Qhq:TypeDesc→Bool
 | .struct _=>true
 | .array _ _=>true
 | _=>false
def Qgc (P:Program) (T:TypeId) (t:Ty):Bool:=
 match P.info? T,P.underlying T with
 | some i,some d=>match i.zero with
  | some z=>Nat.beq i.size t.cells&&zeroCells z.cells.toList (Zb t)&&(bif t.isAgg then Qir z&&Qhq d else notAgg d)&&Nat.ble i.bytes 131072
  | none=>false
 | _,_=>false
def Qcs (P:Program) (τ:Tab) (T:TypeId) (d:TD):Bool:=
 match d with
 | .arr n eT=>match τ.ty eT with
  | some e=>bif Nat.beq e.cells 1 then (match P.info? T with
   | some i=>(match i.zero with
    | some (.agg z)=>zeroCells z.toList (List.replicate n ((Zb e).getD 0 undef))
    | _=>false)
   | none=>false) else true
  | none=>true
 | _=>true
def Qe1 (P:Program) (d:TD):Bool:=
 match d with
 | .stc fs=>fs.all fun f=>(P.info? f.1).isSome
 | _=>true
def Qe0 (τ:Tab) (d:TD):Bool:=
 match d with
 | .slc eT=>match τ.ty eT with
  | some e=>Nat.blt 0 e.cells
  | none=>true
 | _=>true
def Qj3:Ty→Bool
 | .int .u8=>true
 | _=>false
def Qby:Value→Bool
 | .int .u8 n=>decide (n=0)
 | _=>false
def Qgu (P:Program) (T:TypeId) (t:Option Ty):Bool:=
 match t with
 | some t=>bif Qj3 t then (match P.info? T with
  | some i=>Nat.beq i.size 1&&Nat.beq i.bytes 1&&(match i.zero with | some z=>Qby z | none=>false)
  | none=>false) else true
 | none=>true
def Qg9 (P:Program) (τ:Tab) (T:TypeId) (d:TD):Bool:=
 match d with
 | .stc fs=>bif Q1l τ 0 fs then !(P.stoodInHeld T)&&!(P.eqGuardType P.depth T)&&(P.fieldsOf T).toList.all fun f=>f.name != "_" else true
 | _=>true
def Qa9 (P:Program) (fn:Func):Bool:=
 !(fn.name=="runtime.NumGoroutine")&&fn.body.isNone&&(Extern.findNext fn).isNone&&(Q3n fn fn.name).isNone&&decide (fn.origin="slices.overlaps") &&
  (match fn.params.toList,fn.resultTypes.toList with
   | [t1,t2],[_]=>Nat.beq t1 t2&&(match P.underlying t1 with | some (.slice e)=>(P.info? e).isSome | _=>false)
   | _,_=>false)
def Qdw (P:Program) (d:TD):Bool:=
 match d with
 | .ovl g=>(match P.funcs[g]? with | some fn=>Qa9 P fn | none=>false)
 | _=>true
theorem Qdc {P:Program} {g:Nat} {fn:Func} (hf:P.funcs[g]?=some fn) (h:Qa9 P fn=true):Qi5 P g:=by
 unfold Qa9 at h
 simp only [Bool.and_eq_true] at h
 obtain ⟨⟨⟨⟨⟨h1,h2⟩,h3⟩,h4⟩,h5⟩,h6⟩:=h
 split at h6
 case h_2=>cases h6
 case h_1 t1 t2 t3 e1 e2=>
 simp only [Bool.and_eq_true] at h6
 obtain ⟨h6,h7⟩:=h6
 have e3:=Nat.eq_of_beq_eq_true h6
 subst e3
 split at h7
 case h_2=>cases h7
 case h_1 e hu=>
 obtain ⟨i,hi⟩:=Option.isSome_iff_exists.1 h7
 exact ⟨fn,t1,t3,e,i,hf,by simpa using h1,h2,Option.isNone_iff_eq_none.1 h3,h4,of_decide_eq_true h5,by apply Array.ext';simpa using e1,by apply Array.ext';simpa using e2,hu,hi⟩
def Qd8 (P:Program) (d:TD):Bool:=
 match d with
 | .mth T m g=>(match P.info? T,P.underlying T with
  | some i,some (.struct _)=>(match i.methods.find? (·.name==m) with
   | some mm=>mm.path.toList.isEmpty&&(match mm.func with | some (f,false)=>Nat.beq f g | _=>false)
   | none=>false)
  | _,_=>false)
 | _=>true
def Qic (P:Program) (τ:Tab):Bool:=τ.all fun r=>
 Qep P r.1 r.2.1&&(match r.2.2 with | some t=>Qgc P r.1 t | none=>true)&&Qcs P τ r.1 r.2.1&&Qe1 P r.2.1&&Qe0 τ r.2.1&&Qgu P r.1 r.2.2&&Qg9 P τ r.1 r.2.1&&Qdw P r.2.1&&Qd8 P r.2.1
theorem Qg7 {τ:Tab} {T:Nat} {v:TD × Option Ty} (h:Q4s τ T=some v):(T,v)∈τ:=by
 induction τ with
 | nil=>cases h
 | cons p r ih=>
  obtain ⟨u,x⟩:=p
  simp only [Q4s] at h
  cases hb:Nat.beq u T with
  | true=>
   rw [hb] at h
   have:=Option.some.inj h
   subst this
   rw [Nat.eq_of_beq_eq_true hb]
   exact List.mem_cons_self ..
  | false=>rw [hb] at h;exact List.mem_cons_of_mem _ (ih h)
theorem Qj9 {P:Program} {τ:Tab} (h:Qic P τ=true):Qc P τ:=by
 have all:∀ T d ty,Q4s τ T=some (d,ty)→Qep P T d=true∧(∀ t,ty=some t→Qgc P T t=true)∧Qcs P τ T d=true∧Qe1 P d=true∧Qe0 τ d=true∧Qgu P T ty=true∧Qg9 P τ T d=true∧Qdw P d=true∧Qd8 P d=true:=by
  intro T d ty hm
  have:=List.all_eq_true.1 h _ (Qg7 hm)
  simp only [Bool.and_eq_true] at this
  obtain ⟨⟨⟨⟨⟨⟨⟨⟨h1,h2⟩,h3⟩,h4⟩,h5⟩,h6⟩,h7⟩,h8⟩,h9⟩:=this
  exact ⟨h1,fun t ht=>by rw [ht] at h2;exact h2,h3,h4,h5,h6,h7,h8,h9⟩
 have atd:∀ T d,τ.td T=some d→∃ ty,Q4s τ T=some (d,ty):=by
  intro T d hd
  unfold Tab.td at hd
  cases hg:Q4s τ T with
  | none=>rw [hg] at hd;cases hd
  | some v=>obtain ⟨d',ty⟩:=v;rw [hg] at hd;have:=Option.some.inj hd;subst this;exact ⟨ty,rfl⟩
 have aty:∀ T t,τ.ty T=some t→∃ d,Q4s τ T=some (d,some t):=by
  intro T t ht
  unfold Tab.ty at ht
  cases hg:Q4s τ T with
  | none=>rw [hg] at ht;cases ht
  | some v=>obtain ⟨d,ty⟩:=v;rw [hg] at ht;have ht:ty=some t:=ht;subst ht;exact ⟨d,rfl⟩
 refine ⟨fun T d hd=>?_,fun T t ht=>?_,fun T n eT e hd hte h1=>?_,fun T fs hd f hf=>?_,fun K g hd=>?_,fun K f W k c sz hd=>?_,fun K T m g hd=>?_,fun T eT e hd hte=>?_,fun eT ht=>?_,fun T fs hd he=>?_⟩
 ·obtain ⟨ty,hg⟩:=atd T d hd
  have:=(all T d ty hg).1
  unfold Qep at this
  split at this<;>first | (cases this;done) | skip
  all_goals rename_i hu
  ·have e:=Js (Nat.eq_of_beq_eq_true this);subst e;exact hu
  ·exact hu
  ·exact hu
  ·exact ⟨_,hu⟩
  ·have e:=Nat.eq_of_beq_eq_true this;subst e;exact hu
  ·exact ⟨_,hu,Qbi this⟩
  ·have e:=Nat.eq_of_beq_eq_true this;subst e;exact hu
  ·simp only [Bool.and_eq_true] at this
   have e:=Nat.eq_of_beq_eq_true this.1;have e':=Nat.eq_of_beq_eq_true this.2;subst e;subst e';exact hu
  ·trivial
  ·trivial
  ·trivial
 ·obtain ⟨d,hg⟩:=aty T t ht
  have:=(all T d _ hg).2.1 t rfl
  unfold Qgc at this
  split at this
  case h_2=>cases this
  case h_1 i dd hi hu=>
  split at this
  case h_2=>cases this
  case h_1 z hz=>
  simp only [Bool.and_eq_true] at this
  obtain ⟨⟨⟨c1,c2⟩,c3⟩,c4⟩:=this
  refine ⟨⟨i,z,hi,Nat.eq_of_beq_eq_true c1,hz,Q26 c2,fun ha=>?_,Q2.1 c4⟩,fun ha=>?_,fun ha=>?_⟩
  ·rw [ha] at c3
   simp only [cond_true,Bool.and_eq_true] at c3
   cases z<;>first | exact ⟨_,rfl⟩ | (cases c3.1;done)
  ·rw [ha] at c3
   simp only [cond_true,Bool.and_eq_true] at c3
   cases dd<;>first | exact .inl ⟨_,hu⟩ | exact .inr ⟨_,_,hu⟩ | (cases c3.2;done)
  ·rw [ha] at c3
   exact ⟨dd,hu,c3⟩
 ·obtain ⟨ty,hg⟩:=atd T _ hd
  have:=(all T _ ty hg).2.2.1
  simp only [Qcs,hte] at this
  rw [Z7.2 h1] at this
  simp only [cond_true] at this
  split at this
  case h_2=>cases this
  case h_1 i hi=>
  split at this
  case h_2=>cases this
  case h_1 z hz=>exact ⟨i,z,hi,hz,Q26 this⟩
 ·obtain ⟨ty,hg⟩:=atd T _ hd
  have:=(all T _ ty hg).2.2.2.1
  simp only [Qe1,List.all_eq_true] at this
  exact Option.isSome_iff_exists.1 (this f hf)
 ·obtain ⟨ty,hg⟩:=atd _ _ hd
  have:=(all _ _ ty hg).2.2.2.2.2.2.2.1
  have h2:=this
  unfold Qdw at h2
  simp only at h2
  split at h2
  case h_2=>cases h2
  case h_1 fn hfn=>exact Qdc hfn h2
 ·obtain ⟨ty,hg⟩:=atd _ _ hd
  have:=(all _ _ ty hg).1
  simp [Qep] at this
 ·obtain ⟨ty,hg⟩:=atd _ _ hd
  have:=(all _ _ ty hg).2.2.2.2.2.2.2.2
  have h2:=this
  unfold Qd8 at h2
  simp only at h2
  split at h2
  case h_2=>cases h2
  case h_1 i fs hi hu=>
  split at h2
  case h_2=>cases h2
  case h_1 mm hm=>
  simp only [Bool.and_eq_true] at h2
  obtain ⟨h3,h4⟩:=h2
  split at h4
  case h_2=>cases h4
  case h_1 f hf=>
  have e:=Nat.eq_of_beq_eq_true h4
  subst e
  exact ⟨i,mm,fs,hi,hm,List.isEmpty_iff.1 h3,hf,hu⟩
 ·obtain ⟨ty,hg⟩:=atd T _ hd
  have:=(all T _ ty hg).2.2.2.2.1
  simp only [Qe0,hte] at this
  exact Q2.1 this
 ·obtain ⟨d,hg⟩:=aty eT _ ht
  have:=(all eT d _ hg).2.2.2.2.2.1
  simp only [Qgu,Qj3,cond_true] at this
  split at this
  case h_2=>cases this
  case h_1 i hi=>
  simp only [Bool.and_eq_true] at this
  refine ⟨i,hi,Nat.eq_of_beq_eq_true this.1.1,Nat.eq_of_beq_eq_true this.1.2,?_⟩
  have h2:=this.2
  split at h2
  case h_2=>cases h2
  case h_1 z hz=>
  rw [hz]
  unfold Qby at h2
  split at h2
  ·rw [of_decide_eq_true h2]
  ·cases h2
 ·obtain ⟨ty,hg⟩:=atd T _ hd
  have:=(all T _ ty hg).2.2.2.2.2.2.1
  simp only [Qg9,he,cond_true,Bool.and_eq_true,Bool.not_eq_true',List.all_eq_true] at this
  exact ⟨this.1.1,this.1.2,fun f hf=>by have:=this.2 f hf;simpa using this⟩
theorem Q7n {τ:Tab} {K:Nat} {d:TD} (hK:Q4s τ K=none):Tab.ty ((K,d,none)::τ)=τ.ty:=by
 funext T
 unfold Tab.ty
 simp only [Q4s]
 cases hb:Nat.beq K T with
 | true=>rw [← Nat.eq_of_beq_eq_true hb,hK];rfl
 | false=>rfl
theorem Q7z {τ:Tab} {K:Nat} {d:TD} (T:Nat):Tab.td ((K,d,none)::τ) T=bif Nat.beq K T then some d else τ.td T:=by
 unfold Tab.td
 simp only [Q4s]
 cases Nat.beq K T<;>rfl
theorem Q5y {τ:Tab} {K f:Nat} {W:TypeId} {k:IntKind} {c:Int} {sz:Nat} (hK:Q4s τ K=none):∀ (i:Nat) (fs:List (TypeId × Nat)),Q1l ((K,.elt f W k c sz,none)::τ) i fs=true→Q1l τ i fs=true
 | _,[],_=>rfl
 | i,x::r,h=>by
  simp only [Q1l,Bool.and_eq_true] at h ⊢
  obtain ⟨⟨h1,h2⟩,h3⟩:=h
  refine ⟨⟨h1,?_⟩,Q5y hK (i+1) r h3⟩
  rw [Q7n hK,Q7z] at h2
  cases hb:Nat.beq K x.1 with
  | true=>rw [hb] at h2;cases h2
  | false=>rw [hb] at h2;exact h2
theorem Qj0 {P:Program} {τ:Tab} (h:Qc P τ) {f:Nat} {W:TypeId} {k:IntKind} {c:Int} {sz:Nat} (hK:Q4s τ (3000000000+f)=none) (he:Qi7 P f W k c sz) :
  Qc P ((3000000000+f,.elt f W k c sz,none)::τ):=by
 have hty:=Q7n (d:=.elt f W k c sz) hK
 have htd:∀ T d,Tab.td ((3000000000+f,.elt f W k c sz,none)::τ) T=some d→d=.elt f W k c sz∨τ.td T=some d:=fun T d hd=>by
  rw [Q7z] at hd
  cases hb:Nat.beq (3000000000+f) T with
  | true=>rw [hb] at hd;exact .inl (Option.some.inj hd).symm
  | false=>rw [hb] at hd;exact .inr hd
 refine ⟨fun T d hd=>?_,fun T t ht=>?_,fun T n eT e hd hte h1=>?_,fun T fs hd g hg=>?_,fun K g hd=>?_,fun K f' W' k' c' sz' hd=>?_,fun K T m g hd=>?_,fun T eT e hd hte=>?_,fun eT ht=>?_,fun T fs hd hq=>?_⟩
 ·rcases htd T d hd with rfl | hd
  ·trivial
  ·exact h.td T d hd
 ·rw [hty] at ht;exact h.ty T t ht
 ·rw [hty] at hte
  rcases htd _ _ hd with e1 | hd
  ·cases e1
  ·exact h.arrz T n eT e hd hte h1
 ·rcases htd _ _ hd with e1 | hd
  ·cases e1
  ·exact h.fld T fs hd g hg
 ·rcases htd _ _ hd with e1 | hd
  ·cases e1
  ·exact h.ovl K g hd
 ·rcases htd _ _ hd with e1 | hd
  ·cases e1;exact he
  ·exact h.elt K _ _ _ _ _ hd
 ·rcases htd _ _ hd with e1 | hd
  ·cases e1
  ·exact h.mth K T m g hd
 ·rw [hty] at hte
  rcases htd _ _ hd with e1 | hd
  ·cases e1
  ·exact h.pos T eT e hd hte
 ·rw [hty] at ht;exact h.u8 eT ht
 ·rcases htd _ _ hd with e1 | hd
  ·cases e1
  ·exact h.eqs T fs hd (Q5y hK 0 fs hq)
end Go.PE
set_option linter.unusedVariables false
namespace Go.PE
noncomputable def Qfs (f:Func):Code:=match f.body with | some c=>c | none=>.skip
def Q4h:List Nat→Code→Code
 | [],c=>c
 | d::p,.seq a b=>bif Nat.beq d 0 then Q4h p a else Q4h p b
 | d::p,.cond _ a b=>bif Nat.beq d 0 then Q4h p a else Q4h p b
 | _::p,.block _ b=>Q4h p b
 | _::p,.loop b=>Q4h p b
 | _,_=>.skip
def Qgo:Code→Code
 | .loop b=>b
 | _=>.skip
noncomputable def Qcz {R:Type} (Γ:Ctx) (τ:Tab) (fi:Fi) (n:Nat):List Nat→Code→List (Nat × List Nat)→(EX→St→Option R)→EX→St→Option R
 | [],_,_,K=>K
 | d::p,.seq a b,ls,K=>bif Nat.beq d 0 then Qcz Γ τ fi n p a ls (fun e s=>match e with
   | .normal=>Xb Γ τ fi n b s K
   | e=>K e s) else Qcz Γ τ fi n p b ls K
 | d::p,.cond _ a b,ls,K=>bif Nat.beq d 0 then Qcz Γ τ fi n p a ls K else Qcz Γ τ fi n p b ls K
 | _::p,.block id b,ls,K=>Qcz Γ τ fi n p b ls (fun e s=>match e with
   | .exit j=>bif Nat.beq j id then K .normal s else K (.exit j) s
   | e=>K e s)
 | _::p,.loop b,(m,ks)::ls,K=>Qcz Γ τ fi n p b ls (fun e s=>match e with
   | .normal=>(Qf1 τ fi ks s).bind fun s'=>Q7t (Xb Γ τ fi n b) (Qf1 τ fi ks) m s' K
   | e=>K e s)
 | _,_,_,K=>K
noncomputable def Qjh (τ:Tab) (ps:List PK) (rs:List RK) (fn:Func):EX→St→Option (RDs rs × ODs ps):=fun e s=>match e with
 | .normal=>Q46 τ ps rs fn s
 | .ret=>Q46 τ ps rs fn s
 | .exit _=>none
noncomputable def Qjl (Γ:Ctx) (τ:Tab) (fi:Fi) (n:Nat) (ps:List PK) (rs:List RK) (fn:Func) (p:List Nat) (ls:List (Nat × List Nat)) (ks:List Nat) (m:Nat) (s:St):Option (RDs rs × ODs ps):=
 Q7t (Xb Γ τ fi n (Qgo (Q4h p (Qfs fn)))) (Qf1 τ fi ks) m s (Qcz Γ τ fi n p (Qfs fn) ls (Qjh τ ps rs fn))
abbrev g3 {A B C D E:Type} (x:A × B × C × D × E):D:=x.2.2.2.1
abbrev h3 {A B C D:Type} (x:A × B × C × D):D:=x.2.2.2
abbrev g4 {A B C D E F:Type} (x:A × B × C × D × E × F):E:=x.2.2.2.2.1
abbrev h4 {A B C D E:Type} (x:A × B × C × D × E):E:=x.2.2.2.2
abbrev g5 {A B C D E F G:Type} (x:A × B × C × D × E × F × G):F:=x.2.2.2.2.2.1
abbrev h5 {A B C D E F:Type} (x:A × B × C × D × E × F):F:=x.2.2.2.2.2
abbrev g6 {A B C D E F G H:Type} (x:A × B × C × D × E × F × G × H):G:=x.2.2.2.2.2.2.1
abbrev h6 {A B C D E F G:Type} (x:A × B × C × D × E × F × G):G:=x.2.2.2.2.2.2
abbrev g7 {A B C D E F G H I:Type} (x:A × B × C × D × E × F × G × H × I):H:=x.2.2.2.2.2.2.2.1
abbrev h7 {A B C D E F G H:Type} (x:A × B × C × D × E × F × G × H):H:=x.2.2.2.2.2.2.2
abbrev g8 {A B C D E F G H I J:Type} (x:A × B × C × D × E × F × G × H × I × J):I:=x.2.2.2.2.2.2.2.2.1
abbrev h8 {A B C D E F G H I:Type} (x:A × B × C × D × E × F × G × H × I):I:=x.2.2.2.2.2.2.2.2
abbrev g9 {A B C D E F G H I J K:Type} (x:A × B × C × D × E × F × G × H × I × J × K):J:=x.2.2.2.2.2.2.2.2.2.1
abbrev h9 {A B C D E F G H I J:Type} (x:A × B × C × D × E × F × G × H × I × J):J:=x.2.2.2.2.2.2.2.2.2
abbrev g10 {A B C D E F G H I J K L:Type} (x:A × B × C × D × E × F × G × H × I × J × K × L):K:=x.2.2.2.2.2.2.2.2.2.2.1
abbrev h10 {A B C D E F G H I J K:Type} (x:A × B × C × D × E × F × G × H × I × J × K):K:=x.2.2.2.2.2.2.2.2.2.2
abbrev g11 {A B C D E F G H I J K L M:Type} (x:A × B × C × D × E × F × G × H × I × J × K × L × M):L:=x.2.2.2.2.2.2.2.2.2.2.2.1
abbrev h11 {A B C D E F G H I J K L:Type} (x:A × B × C × D × E × F × G × H × I × J × K × L):L:=x.2.2.2.2.2.2.2.2.2.2.2
abbrev g12 {A B C D E F G H I J K L M N:Type} (x:A × B × C × D × E × F × G × H × I × J × K × L × M × N):M:=x.2.2.2.2.2.2.2.2.2.2.2.2.1
abbrev h12 {A B C D E F G H I J K L M:Type} (x:A × B × C × D × E × F × G × H × I × J × K × L × M):M:=x.2.2.2.2.2.2.2.2.2.2.2.2
abbrev g13 {A B C D E F G H I J K L M N O:Type} (x:A × B × C × D × E × F × G × H × I × J × K × L × M × N × O):N:=x.2.2.2.2.2.2.2.2.2.2.2.2.2.1
abbrev h13 {A B C D E F G H I J K L M N:Type} (x:A × B × C × D × E × F × G × H × I × J × K × L × M × N):N:=x.2.2.2.2.2.2.2.2.2.2.2.2.2
abbrev g14 {A B C D E F G H I J K L M N O P:Type} (x:A × B × C × D × E × F × G × H × I × J × K × L × M × N × O × P):O:=x.2.2.2.2.2.2.2.2.2.2.2.2.2.2.1
abbrev h14 {A B C D E F G H I J K L M N O:Type} (x:A × B × C × D × E × F × G × H × I × J × K × L × M × N × O):O:=x.2.2.2.2.2.2.2.2.2.2.2.2.2.2
abbrev u0 {A B Z:Type} (x:A × B) (v:Z):Z × B:=(v,x.2)
abbrev u1 {A B C Z:Type} (x:A × B × C) (v:Z):A × Z × C:=(x.1,v,x.2.2)
abbrev e1 {A B Z:Type} (x:A × B) (v:Z):A × Z:=(x.1,v)
abbrev u2 {A B C D Z:Type} (x:A × B × C × D) (v:Z):A × B × Z × D:=(x.1,x.2.1,v,x.2.2.2)
abbrev e2 {A B C Z:Type} (x:A × B × C) (v:Z):A × B × Z:=(x.1,x.2.1,v)
abbrev u3 {A B C D E Z:Type} (x:A × B × C × D × E) (v:Z):A × B × C × Z × E:=(x.1,x.2.1,x.2.2.1,v,x.2.2.2.2)
abbrev e3 {A B C D Z:Type} (x:A × B × C × D) (v:Z):A × B × C × Z:=(x.1,x.2.1,x.2.2.1,v)
abbrev u4 {A B C D E F Z:Type} (x:A × B × C × D × E × F) (v:Z):A × B × C × D × Z × F:=(x.1,x.2.1,x.2.2.1,x.2.2.2.1,v,x.2.2.2.2.2)
abbrev e4 {A B C D E Z:Type} (x:A × B × C × D × E) (v:Z):A × B × C × D × Z:=(x.1,x.2.1,x.2.2.1,x.2.2.2.1,v)
abbrev u5 {A B C D E F G Z:Type} (x:A × B × C × D × E × F × G) (v:Z):A × B × C × D × E × Z × G:=(x.1,x.2.1,x.2.2.1,x.2.2.2.1,x.2.2.2.2.1,v,x.2.2.2.2.2.2)
abbrev e5 {A B C D E F Z:Type} (x:A × B × C × D × E × F) (v:Z):A × B × C × D × E × Z:=(x.1,x.2.1,x.2.2.1,x.2.2.2.1,x.2.2.2.2.1,v)
abbrev u6 {A B C D E F G H Z:Type} (x:A × B × C × D × E × F × G × H) (v:Z):A × B × C × D × E × F × Z × H:=(x.1,x.2.1,x.2.2.1,x.2.2.2.1,x.2.2.2.2.1,x.2.2.2.2.2.1,v,x.2.2.2.2.2.2.2)
abbrev e6 {A B C D E F G Z:Type} (x:A × B × C × D × E × F × G) (v:Z):A × B × C × D × E × F × Z:=(x.1,x.2.1,x.2.2.1,x.2.2.2.1,x.2.2.2.2.1,x.2.2.2.2.2.1,v)
abbrev u7 {A B C D E F G H I Z:Type} (x:A × B × C × D × E × F × G × H × I) (v:Z):A × B × C × D × E × F × G × Z × I:=(x.1,x.2.1,x.2.2.1,x.2.2.2.1,x.2.2.2.2.1,x.2.2.2.2.2.1,x.2.2.2.2.2.2.1,v,x.2.2.2.2.2.2.2.2)
abbrev e7 {A B C D E F G H Z:Type} (x:A × B × C × D × E × F × G × H) (v:Z):A × B × C × D × E × F × G × Z:=(x.1,x.2.1,x.2.2.1,x.2.2.2.1,x.2.2.2.2.1,x.2.2.2.2.2.1,x.2.2.2.2.2.2.1,v)
abbrev u8 {A B C D E F G H I J Z:Type} (x:A × B × C × D × E × F × G × H × I × J) (v:Z):A × B × C × D × E × F × G × H × Z × J:=(x.1,x.2.1,x.2.2.1,x.2.2.2.1,x.2.2.2.2.1,x.2.2.2.2.2.1,x.2.2.2.2.2.2.1,x.2.2.2.2.2.2.2.1,v,x.2.2.2.2.2.2.2.2.2)
abbrev e8 {A B C D E F G H I Z:Type} (x:A × B × C × D × E × F × G × H × I) (v:Z):A × B × C × D × E × F × G × H × Z:=(x.1,x.2.1,x.2.2.1,x.2.2.2.1,x.2.2.2.2.1,x.2.2.2.2.2.1,x.2.2.2.2.2.2.1,x.2.2.2.2.2.2.2.1,v)
abbrev u9 {A B C D E F G H I J K Z:Type} (x:A × B × C × D × E × F × G × H × I × J × K) (v:Z):A × B × C × D × E × F × G × H × I × Z × K:=(x.1,x.2.1,x.2.2.1,x.2.2.2.1,x.2.2.2.2.1,x.2.2.2.2.2.1,x.2.2.2.2.2.2.1,x.2.2.2.2.2.2.2.1,x.2.2.2.2.2.2.2.2.1,v,x.2.2.2.2.2.2.2.2.2.2)
abbrev e9 {A B C D E F G H I J Z:Type} (x:A × B × C × D × E × F × G × H × I × J) (v:Z):A × B × C × D × E × F × G × H × I × Z:=(x.1,x.2.1,x.2.2.1,x.2.2.2.1,x.2.2.2.2.1,x.2.2.2.2.2.1,x.2.2.2.2.2.2.1,x.2.2.2.2.2.2.2.1,x.2.2.2.2.2.2.2.2.1,v)
abbrev u10 {A B C D E F G H I J K L Z:Type} (x:A × B × C × D × E × F × G × H × I × J × K × L) (v:Z):A × B × C × D × E × F × G × H × I × J × Z × L:=(x.1,x.2.1,x.2.2.1,x.2.2.2.1,x.2.2.2.2.1,x.2.2.2.2.2.1,x.2.2.2.2.2.2.1,x.2.2.2.2.2.2.2.1,x.2.2.2.2.2.2.2.2.1,x.2.2.2.2.2.2.2.2.2.1,v,x.2.2.2.2.2.2.2.2.2.2.2)
abbrev e10 {A B C D E F G H I J K Z:Type} (x:A × B × C × D × E × F × G × H × I × J × K) (v:Z):A × B × C × D × E × F × G × H × I × J × Z:=(x.1,x.2.1,x.2.2.1,x.2.2.2.1,x.2.2.2.2.1,x.2.2.2.2.2.1,x.2.2.2.2.2.2.1,x.2.2.2.2.2.2.2.1,x.2.2.2.2.2.2.2.2.1,x.2.2.2.2.2.2.2.2.2.1,v)
abbrev u11 {A B C D E F G H I J K L M Z:Type} (x:A × B × C × D × E × F × G × H × I × J × K × L × M) (v:Z):A × B × C × D × E × F × G × H × I × J × K × Z × M:=(x.1,x.2.1,x.2.2.1,x.2.2.2.1,x.2.2.2.2.1,x.2.2.2.2.2.1,x.2.2.2.2.2.2.1,x.2.2.2.2.2.2.2.1,x.2.2.2.2.2.2.2.2.1,x.2.2.2.2.2.2.2.2.2.1,x.2.2.2.2.2.2.2.2.2.2.1,v,x.2.2.2.2.2.2.2.2.2.2.2.2)
abbrev e11 {A B C D E F G H I J K L Z:Type} (x:A × B × C × D × E × F × G × H × I × J × K × L) (v:Z):A × B × C × D × E × F × G × H × I × J × K × Z:=(x.1,x.2.1,x.2.2.1,x.2.2.2.1,x.2.2.2.2.1,x.2.2.2.2.2.1,x.2.2.2.2.2.2.1,x.2.2.2.2.2.2.2.1,x.2.2.2.2.2.2.2.2.1,x.2.2.2.2.2.2.2.2.2.1,x.2.2.2.2.2.2.2.2.2.2.1,v)
abbrev u12 {A B C D E F G H I J K L M N Z:Type} (x:A × B × C × D × E × F × G × H × I × J × K × L × M × N) (v:Z):A × B × C × D × E × F × G × H × I × J × K × L × Z × N:=(x.1,x.2.1,x.2.2.1,x.2.2.2.1,x.2.2.2.2.1,x.2.2.2.2.2.1,x.2.2.2.2.2.2.1,x.2.2.2.2.2.2.2.1,x.2.2.2.2.2.2.2.2.1,x.2.2.2.2.2.2.2.2.2.1,x.2.2.2.2.2.2.2.2.2.2.1,x.2.2.2.2.2.2.2.2.2.2.2.1,v,x.2.2.2.2.2.2.2.2.2.2.2.2.2)
abbrev e12 {A B C D E F G H I J K L M Z:Type} (x:A × B × C × D × E × F × G × H × I × J × K × L × M) (v:Z):A × B × C × D × E × F × G × H × I × J × K × L × Z:=(x.1,x.2.1,x.2.2.1,x.2.2.2.1,x.2.2.2.2.1,x.2.2.2.2.2.1,x.2.2.2.2.2.2.1,x.2.2.2.2.2.2.2.1,x.2.2.2.2.2.2.2.2.1,x.2.2.2.2.2.2.2.2.2.1,x.2.2.2.2.2.2.2.2.2.2.1,x.2.2.2.2.2.2.2.2.2.2.2.1,v)
abbrev u13 {A B C D E F G H I J K L M N O Z:Type} (x:A × B × C × D × E × F × G × H × I × J × K × L × M × N × O) (v:Z):A × B × C × D × E × F × G × H × I × J × K × L × M × Z × O:=(x.1,x.2.1,x.2.2.1,x.2.2.2.1,x.2.2.2.2.1,x.2.2.2.2.2.1,x.2.2.2.2.2.2.1,x.2.2.2.2.2.2.2.1,x.2.2.2.2.2.2.2.2.1,x.2.2.2.2.2.2.2.2.2.1,x.2.2.2.2.2.2.2.2.2.2.1,x.2.2.2.2.2.2.2.2.2.2.2.1,x.2.2.2.2.2.2.2.2.2.2.2.2.1,v,x.2.2.2.2.2.2.2.2.2.2.2.2.2.2)
abbrev e13 {A B C D E F G H I J K L M N Z:Type} (x:A × B × C × D × E × F × G × H × I × J × K × L × M × N) (v:Z):A × B × C × D × E × F × G × H × I × J × K × L × M × Z:=(x.1,x.2.1,x.2.2.1,x.2.2.2.1,x.2.2.2.2.1,x.2.2.2.2.2.1,x.2.2.2.2.2.2.1,x.2.2.2.2.2.2.2.1,x.2.2.2.2.2.2.2.2.1,x.2.2.2.2.2.2.2.2.2.1,x.2.2.2.2.2.2.2.2.2.2.1,x.2.2.2.2.2.2.2.2.2.2.2.1,x.2.2.2.2.2.2.2.2.2.2.2.2.1,v)
abbrev u14 {A B C D E F G H I J K L M N O P Z:Type} (x:A × B × C × D × E × F × G × H × I × J × K × L × M × N × O × P) (v:Z):A × B × C × D × E × F × G × H × I × J × K × L × M × N × Z × P:=(x.1,x.2.1,x.2.2.1,x.2.2.2.1,x.2.2.2.2.1,x.2.2.2.2.2.1,x.2.2.2.2.2.2.1,x.2.2.2.2.2.2.2.1,x.2.2.2.2.2.2.2.2.1,x.2.2.2.2.2.2.2.2.2.1,x.2.2.2.2.2.2.2.2.2.2.1,x.2.2.2.2.2.2.2.2.2.2.2.1,x.2.2.2.2.2.2.2.2.2.2.2.2.1,x.2.2.2.2.2.2.2.2.2.2.2.2.2.1,v,x.2.2.2.2.2.2.2.2.2.2.2.2.2.2.2)
abbrev e14 {A B C D E F G H I J K L M N O Z:Type} (x:A × B × C × D × E × F × G × H × I × J × K × L × M × N × O) (v:Z):A × B × C × D × E × F × G × H × I × J × K × L × M × N × Z:=(x.1,x.2.1,x.2.2.1,x.2.2.2.1,x.2.2.2.2.1,x.2.2.2.2.2.1,x.2.2.2.2.2.2.1,x.2.2.2.2.2.2.2.1,x.2.2.2.2.2.2.2.2.1,x.2.2.2.2.2.2.2.2.2.1,x.2.2.2.2.2.2.2.2.2.2.1,x.2.2.2.2.2.2.2.2.2.2.2.1,x.2.2.2.2.2.2.2.2.2.2.2.2.1,x.2.2.2.2.2.2.2.2.2.2.2.2.2.1,v)
abbrev nF (n:Nat):List Bool:=List.replicate n false
abbrev V1 (v:LV):SV:=SV.cv (CV.one v)
abbrev Vp (t:Ty) (x:t.den):SV:=SV.cv (CV.one (LV.pure t x))
def fiB (ps:List PK) (fi:Fi):Fi:={ fi with keep:=Q2a 0 ps++fi.keep }
def iter {A:Type} (z:A) (F:A→A):Nat→A
 | 0=>z
 | m+1=>F (iter z F m)
def Qj7 {A:Type} (z:A) (F:Nat→A→A):Nat→A
 | 0=>z
 | m+1=>F m (Qj7 z F m)
theorem Qiz {A:Type} (z:A) (F:A→A) (m:Nat):iter z F (m+1)=F (iter z F m):=rfl
def Qan {R:Type} [DecidableEq R] (a b:Option R):Option R:=if a=b then a else none
theorem Qit {R:Type} [DecidableEq R]:(Q38:Option R→Option R→Option R)=Qan:=by
 funext a b
 unfold Qan
 split
 ·rename_i h;exact Qfe h
 ·rename_i h
  unfold Q38
  split
  ·contradiction
  ·rfl
theorem Qhu {R:Type} [DecidableEq R] (a:Option R):Qan a a=a:=if_pos rfl
theorem Qju {τ:TypeId→Option Ty} {P:Program}:J8 τ P []:=fun f e h=>by cases h
theorem Qjr {τ:TypeId→Option Ty} {P:Program} {f:FuncId} {fn:Func} (hf:P.funcs[f]?=some fn) (hnm:(fn.name=="runtime.NumGoroutine")=false) (hnb:fn.body.isNone=false):Q4j τ P f Qjc:=
 ⟨⟨fn,hf,hnm,hnb⟩,fun _ _ _ _ _ _ _ _ _ _ h=>by cases h⟩
theorem Qjq {τ:TypeId→Option Ty} {P:Program} {n:Nat} {e:Ent} {Γ:Ctx} (h:Q4j τ P n e) (hΓ:J8 τ P Γ):J8 τ P ((n,e)::Γ):=by
 intro f e' hf
 simp only [Q8k] at hf
 cases hb:Nat.beq n f with
 | true=>
  rw [hb] at hf
  have h1:=Option.some.inj hf
  subst h1
  have h2:=Nat.eq_of_beq_eq_true hb
  subst h2
  exact h
 | false=>rw [hb] at hf;exact hΓ f e' hf
end Go.PE
set_option linter.unusedVariables false
set_option linter.unusedSimpArgs false
namespace Go.PE
open Go.RowKit
def Q6k:(t:Ty)→t.den→Prop
 | .int k,n=>(Lit.int k n).wf=true
 | .bool,_=>True
 | .str,(s:ByteArray)=>s.size≤maxLen
 | .ifc,_=>True
 | .sl _ e,(xs:List e.den)=>xs.length≤maxLen∧∀ x∈xs,Q6k e x
 | .pair a b,x=>Q6k a x.1∧Q6k b x.2
 | .unit,_=>True
def Qhe:(ps:List PK)→PDs ps→Prop
 | [],_=>True
 | .val t::r,x=>Q6k t x.1∧Qhe r x.2
 | _::r,x=>Qhe r x.2
def Q8a (τ:Tab) (T:TypeId) (t:Ty):Bool:=match τ.ty T with | some t'=>Ty.beq t' t | none=>false
theorem Qah {τ:Tab} {T:TypeId} {t:Ty} (h:Q8a τ T t=true):τ.ty T=some t:=by
 unfold Q8a at h
 split at h
 ·rename_i e;rw [e,Ty.eq_of_beq h]
 ·cases h
def Q1h (τ:Tab):Nat→TypeId→Ty→Bool
 | 0,_,_=>false
 | n+1,T,t=>
  match τ.td T,t with
  | some (.int k),.int k'=>Nat.beq (Qp k) (Qp k')
  | some .bool,.bool=>true
  | some .str,.str=>true
  | some (.slc e),.sl e' te=>Nat.beq e e'&&Q8a τ e te&&Q1h τ n e te
  | some (.stc fs),t=>t.isAgg&&rfs (Q1h τ n) (Q8a τ) fs t 0
  | some (.arr k e),t=>(match τ.ty e with | some te=>t.isAgg&&rfs (Q1h τ n) (Q8a τ) ((List.range k).map fun i=>(e,i*te.cells)) t 0 | none=>false)
  | _,_=>false
where rfs (g h:TypeId→Ty→Bool):List (TypeId × Nat)→Ty→Nat→Bool
 | [],.unit,_=>true
 | [f],.pair a .unit,o=>Nat.beq f.2 o&&g f.1 a&&h f.1 a
 | [f],t,o=>Nat.beq f.2 o&&g f.1 t&&h f.1 t
 | f::r,.pair a b,o=>Nat.beq f.2 o&&g f.1 a&&h f.1 a&&rfs g h r b (o+a.cells)
 | _,_,_=>false
section
variable {P:Program} {tab:Tab} {H:Type} {enc:TypeId × Value→H} {w:World} {base:Nat} {spare:Nat→Bool} {held:Bool}
theorem Qar {A B:Type} {f:A→Option B}:∀ {l:List A} {r:List B},l.mapM f=some r→∀ x∈l,∃ y,f x=some y:=by
 intro l
 induction l with
 | nil=>intro r _ x hx;cases hx
 | cons a q ih=>
  intro r h x hx
  simp only [List.mapM_cons,Option.bind_eq_bind,Option.pure_def,Option.bind_eq_some_iff] at h
  obtain ⟨y,hy,z,hz,_⟩:=h
  rcases List.mem_cons.1 hx with rfl | hx
  ·exact ⟨y,hy⟩
  ·exact ih hz x hx
theorem Jo (hT:Qc P tab) {T:TypeId} {t:Ty} (h:tab.ty T=some t):P.cellsOf T=t.cells:=by
 obtain ⟨i,z,h1,h2,_⟩:=(hT.ty T t h).info
 simp [Program.cellsOf,h1,h2]
theorem Q94 {α:Type} {xs:List α} {i:Nat} {d x:α} (h:xs[i]?=some x):List.getD xs i d=x:=by
 rw [List.getD_eq_getElem?_getD,h];rfl
theorem Qbj {α:Type} {p:Nat→α→Prop}:∀ (n:Nat),(∀ i,i<n→∃ x,p i x)→∃ l:List α,l.length=n∧∀ i x,l[i]?=some x→p i x:=by
 intro n
 induction n with
 | zero=>intro _;exact ⟨[],rfl,fun i x h=>by simp at h⟩
 | succ n ih=>
  intro h
  obtain ⟨l,hl,hp⟩:=ih fun i hi=>h i (by omega)
  obtain ⟨x,hx⟩:=h n (by omega)
  refine ⟨l++[x],by simp [hl],fun i y hy=>?_⟩
  by_cases hi:i<l.length
  ·rw [List.getElem?_append_left hi] at hy;exact hp i y hy
  ·rw [List.getElem?_append_right (by omega)] at hy
   have:i - l.length=0:=by
    have:=(List.getElem?_eq_some_iff.1 hy).1
    simp at this;omega
   rw [this] at hy
   have e:i=n:=by omega
   simp at hy
   subst hy;subst e;exact hx
theorem Qee (hT:Qc P tab) {n m:Nat} (ih:∀ T t cs x,Q1h tab n T t=true→tab.ty T=some t→DataW.trod enc P w base spare held m T cs=some x→∃ y:t.den,Rep tab.ty (fun k=>k<w.heap.size) w t y cs∧Q6k t y)
  (cs:List Value):∀ (fs:List (TypeId × Nat)) (t:Ty) (o:Nat),Q1h.rfs (Q1h tab n) (Q8a tab) fs t o=true →
  (∀ f∈fs,∃ x,DataW.trod enc P w base spare held m f.1 ((cs.drop f.2).take (P.cellsOf f.1))=some x)→cs.length=o+t.cells →
  ∃ y:t.den,Rep tab.ty (fun k=>k<w.heap.size) w t y (cs.drop o)∧Q6k t y:=by
 have one:∀ (f:TypeId × Nat) (t:Ty) (o:Nat),(Nat.beq f.2 o&&Q1h tab n f.1 t&&Q8a tab f.1 t)=true →
   (∃ x,DataW.trod enc P w base spare held m f.1 ((cs.drop f.2).take (P.cellsOf f.1))=some x)→∃ y:t.den,Rep tab.ty (fun k=>k<w.heap.size) w t y ((cs.drop o).take t.cells)∧Q6k t y:=by
  intro f t o h hx
  simp only [Bool.and_eq_true] at h
  obtain ⟨⟨h1,h2⟩,h3⟩:=h
  obtain ⟨x,hx⟩:=hx
  have ht:=Qah h3
  rw [Jo hT ht,Nat.eq_of_beq_eq_true h1] at hx
  exact ih _ _ _ _ h2 ht hx
 intro fs
 induction fs with
 | nil=>
  intro t o h _ hl
  cases t with
  | unit=>
   refine ⟨(),?_,trivial⟩
   have:cs.drop o=[]:=List.drop_eq_nil_of_le (by simp [hl,Ty.cells])
   rw [this];rfl
  | _=>simp [Q1h.rfs] at h
 | cons f r ihr=>
  intro t o h hx hl
  have last:∀ t,r=[]→cs.length=o+t.cells→(Nat.beq f.2 o&&Q1h tab n f.1 t&&Q8a tab f.1 t)=true→∃ y:t.den,Rep tab.ty (fun k=>k<w.heap.size) w t y (cs.drop o)∧Q6k t y:=by
   intro t hr hl h
   obtain ⟨y,h1,h2⟩:=one f t o h (hx f (List.mem_cons_self ..))
   refine ⟨y,?_,h2⟩
   rwa [List.take_of_length_le (by rw [List.length_drop];omega)] at h1
  have more:∀ a b,cs.length=o+(a.cells+b.cells)→(Nat.beq f.2 o&&Q1h tab n f.1 a&&Q8a tab f.1 a&&Q1h.rfs (Q1h tab n) (Q8a tab) r b (o+a.cells))=true →
    ∃ y:(Ty.pair a b).den,Rep tab.ty (fun k=>k<w.heap.size) w (.pair a b) y (cs.drop o)∧Q6k (.pair a b) y:=by
   intro a b hl h
   rw [Bool.and_eq_true] at h
   obtain ⟨y,h1,h2⟩:=one f a o h.1 (hx f (List.mem_cons_self ..))
   obtain ⟨z,h3,h4⟩:=ihr b (o+a.cells) h.2 (fun g hg=>hx g (List.mem_cons_of_mem _ hg)) (by omega)
   refine ⟨(y,z),⟨_,_,?_,h1,h3⟩,h2,h4⟩
   rw [← List.drop_drop]
   exact (List.take_append_drop _ _).symm
  cases r with
  | nil=>
   cases t with
   | pair a b=>
    cases b with
    | unit=>
     simp only [Q1h.rfs] at h
     simp only [Ty.cells,Nat.add_zero] at hl
     obtain ⟨y,h1,h2⟩:=last a rfl hl h
     refine ⟨(y,()),⟨_,[],?_,h1,rfl⟩,h2,trivial⟩
     simp
    | _=>exact last _ rfl hl (by simpa only [Q1h.rfs] using h)
   | _=>exact last _ rfl hl (by simpa only [Q1h.rfs] using h)
  | cons g r'=>
   cases t with
   | pair a b=>
    simp only [Q1h.rfs] at h
    exact more a b (by simpa [Ty.cells] using hl) h
   | _=>simp [Q1h.rfs] at h
theorem Qfw (hT:Qc P tab):∀ (n:Nat) (T:TypeId) (t:Ty) (m:Nat) (cs:List Value) (x:DataW H × List MemPlace),Q1h tab n T t=true→tab.ty T=some t →
  DataW.trod enc P w base spare held m T cs=some x→∃ y:t.den,Rep tab.ty (fun k=>k<w.heap.size) w t y cs∧Q6k t y:=by
 intro n
 induction n with
 | zero=>intro T t m cs x h;cases h
 | succ n ih=>
  intro T t m cs x h ht hx
  cases m with
  | zero=>simp [DataW.trod] at hx
  | succ m=>
  unfold Q1h at h
  split at h
  ·rename_i k k' htd
   have hu:P.underlying T=some (.int k):=hT.td T _ htd
   obtain rfl:=Js (Nat.eq_of_beq_eq_true h)
   unfold DataW.trod at hx
   rw [hu] at hx
   split at hx<;>simp_all
   obtain ⟨⟨e,hw⟩,_⟩:=hx
   subst_vars
   exact ⟨_,rfl,hw⟩
  ·rename_i htd
   have hu:P.underlying T=some .bool:=hT.td T _ htd
   unfold DataW.trod at hx
   rw [hu] at hx
   split at hx<;>simp_all
   exact ⟨_,rfl,trivial⟩
  ·rename_i htd
   have hu:P.underlying T=some .string:=hT.td T _ htd
   unfold DataW.trod at hx
   rw [hu] at hx
   split at hx<;>simp_all
   exact ⟨_,rfl,hx.1⟩
  ·rename_i e e' te htd
   have hu:P.underlying T=some (.slice e):=hT.td T _ htd
   simp only [Bool.and_eq_true] at h
   obtain ⟨⟨h1,h2⟩,h3⟩:=h
   obtain rfl:=Nat.eq_of_beq_eq_true h1
   have hte:=Qah h2
   ·have hpos:=hT.pos T e te htd hte
    have hc:=Jo hT hte
    rcases DataW.trod_slice hu hx with ⟨rfl,_⟩ | ⟨a,len,cap,elems,rest,q,_,rfl,_,hb,hl,hm,hlen,hel,_,_⟩
    ·exact ⟨[],⟨none,0,rfl,Nat.le_refl _,by unfold maxLen;decide,fun h0=>absurd h0 (by simp)⟩,by simp [maxLen],fun x hx=>by cases hx⟩
    ·have each:∀ i,i<len→∃ y:te.den,(∃ ce,(w.cells? base (a.add (i*te.cells)) te.cells)=some ce∧Rep tab.ty (fun k=>k<w.heap.size) w te y ce)∧Q6k te y:=by
      intro i hi
      have:=hel i hi
      rw [List.getElem?_eq_getElem (by omega),Option.bind_eq_some_iff] at this
      obtain ⟨ce,hce,hz⟩:=this
      obtain ⟨y,hy,hwf⟩:=ih e te q ce _ h3 hte hz
      exact ⟨y,⟨ce,by rw [← hc];exact hce,hy⟩,hwf⟩
     obtain ⟨xs,hxl,hxs⟩:=Qbj len each
     have cellsr:∀ (b:Addr) (k:Nat) (ce:List Value),w.cells? base b k=some ce→ce.length=k∧∀ j,j<k→w.cell? (b.add j)=some (ce.getD j undef):=by
      intro b k ce hce
      unfold World.cells? at hce
      split at hce
      ·have hlen:∀ (l:List Nat) (r:List Value),l.mapM (fun i=>w.cell? (b.add i))=some r→r.length=l.length∧∀ j,j<l.length→w.cell? (b.add (l.getD j 0))=some (r.getD j undef):=by
        intro l
        induction l with
        | nil=>intro r hr;simp at hr;subst hr;exact ⟨rfl,fun j hj=>by simp at hj⟩
        | cons p l ih2=>
         intro r hr
         simp only [List.mapM_cons,Option.bind_eq_bind,Option.pure_def,Option.bind_eq_some_iff] at hr
         obtain ⟨y,hy,z,hz,e⟩:=hr
         have e:=Option.some.inj e
         subst e
         obtain ⟨i1,i2⟩:=ih2 z hz
         refine ⟨by simp [i1],fun j hj=>?_⟩
         cases j with
         | zero=>simpa using hy
         | succ j=>simpa using i2 j (by simpa using hj)
       obtain ⟨l1,l2⟩:=hlen _ _ hce
       simp at l1
       refine ⟨l1,fun j hj=>?_⟩
       have:=l2 j (by simpa using hj)
       rwa [Q94 (x:=j) (by simp [hj])] at this
      ·cases hce
     refine ⟨xs,⟨some a,cap,by rw [hxl],by omega,hm,fun h0=>?_⟩,by rw [hxl];exact Nat.le_trans hl hm,fun x hx=>?_⟩
     ·have h00:0<len:=by omega
      obtain ⟨y0,⟨ce0,hce0,_⟩,_⟩:=each 0 h00
      have hz:=(cellsr _ _ _ hce0).2 0 hpos
      have ea:(a.add (0*te.cells)).add 0=a:=by simp [Addr.add]
      rw [ea] at hz
      obtain ⟨b,o,s⟩:=a
      have hs:s=none:=by
       unfold World.cell? at hz
       split at hz
       ·split at hz
        ·cases hz
        ·rename_i hsn;simpa using hsn
       ·cases hz
      subst hs
      have hbl:b<w.heap.size:=by
       unfold World.cell? at hz
       split at hz
       ·rename_i hh;exact (Array.getElem?_eq_some_iff.1 hh).1
       ·cases hz
      refine ⟨b,o,rfl,hbl,hbl,fun i hi=>?_⟩
      have hi':i<len:=by rw [← hxl];exact hi
      have hgi:xs[i]?=some (xs[i]'hi):=List.getElem?_eq_getElem hi
      obtain ⟨⟨ce,hce,hr⟩,_⟩:=hxs i _ hgi
      obtain ⟨c1,c2⟩:=cellsr _ _ _ hce
      refine ⟨ce,c1,fun j hj=>?_,?_⟩
      ·have:=c2 j (by omega)
       rwa [Zo,Zo] at this
      ·rw [Q94 hgi];exact hr
     ·obtain ⟨i,hi⟩:=List.getElem?_of_mem hx
      exact (hxs i x hi).2
  ·rename_i fs htd
   obtain ⟨gs,hu,hgs⟩:∃ gs:Array Field,P.underlying T=some (.struct gs)∧(gs.toList.map fun g=>(g.type,g.offset))=fs:=hT.td T _ htd
   rw [Bool.and_eq_true] at h
   unfold DataW.trod at hx
   rw [hu] at hx
   simp only at hx
   split at hx
   ·rename_i hlen
    rw [Option.map_eq_some_iff] at hx
    obtain ⟨r,hr,_⟩:=hx
    have hall:=Qar hr
    rw [Jo hT ht] at hlen
    have:=Qee hT (fun T t cs x h1 h2 h3=>ih T t m cs x h1 h2 h3) cs fs _ 0 h.2 (fun f hf=>by
     rw [← hgs] at hf
     obtain ⟨g,hg,rfl⟩:=List.mem_map.1 hf
     exact hall g hg) (by rw [hlen];omega)
    simpa using this
   ·cases hx
  ·rename_i k e htd
   have hu:P.underlying T=some (.array k e):=hT.td T _ htd
   split at h
   ·rename_i te hte
    rw [Bool.and_eq_true] at h
    unfold DataW.trod at hx
    rw [hu] at hx
    simp only at hx
    split at hx
    ·rename_i hlen
     rw [Option.map_eq_some_iff] at hx
     obtain ⟨r,hr,_⟩:=hx
     have hall:=Qar hr
     rw [Jo hT ht] at hlen
     rw [Jo hT hte] at hall
     have:=Qee hT (fun T t cs x h1 h2 h3=>ih T t m cs x h1 h2 h3) cs _ _ 0 h.2 (fun f hf=>by
      obtain ⟨i,hi,rfl⟩:=List.mem_map.1 hf
      rw [Jo hT hte]
      exact hall i hi) (by rw [hlen];omega)
     simpa using this
    ·cases hx
   ·cases h
  ·cases h
theorem Qez (hT:Qc P tab) {n:Nat} {T:TypeId} {t:Ty} {v:Value} {d:DataW H} {ps:List MemPlace} {r:Reach} {b0:Nat} (h:Q1h tab n T t=true) (ht:tab.ty T=some t)
  (hok:Value.okWide P w r b0 T v) (hx:DataW.Trod enc P w base spare held T v d ps):∃ y:t.den,Q0e tab.ty (fun k=>k<w.heap.size) w t y v∧Q6k t y:=by
 obtain ⟨m,hm⟩:=hx
 obtain ⟨y,hy,hwf⟩:=Qfw hT n T t m _ _ h ht hm
 refine ⟨y,?_,hwf⟩
 cases ha:t.isAgg with
 | true=>
  refine .inl ⟨ha,?_⟩
  have:∃ cs,v=.agg cs:=by
   unfold Value.okWide at hok
   rcases (hT.ty T t ht).agg ha with ⟨fs,hu⟩ | ⟨n,e,hu⟩
   ·rw [hu] at hok;obtain ⟨cs,h,_⟩:=hok;exact ⟨cs,h⟩
   ·rw [hu] at hok;obtain ⟨cs,h,_⟩:=hok;exact ⟨cs,h⟩
  obtain ⟨cs,rfl⟩:=this
  exact ⟨cs.toList,by simp,hy⟩
 | false=>
  refine .inr ⟨ha,?_⟩
  have:∀ cs,v≠.agg cs:=by
   intro cs hv
   subst hv
   obtain ⟨d,hu,hd⟩:=(hT.ty T t ht).one ha
   unfold Value.okWide at hok
   rw [hu] at hok
   cases d<;>simp_all [Cell.okWide,Cell.ok,notAgg]
  have e:v.cells.toList=[v]:=by
   cases v<;>first | rfl | exact absurd rfl (this _)
  rw [e] at hy
  exact hy
def Q8c (τ:Tab):List TypeId→List PK→Bool
 | [],[]=>true
 | T::r,.val t::q=>Q1h τ 9 T t&&Q8a τ T t&&Q8c τ r q
 | _,_=>false
theorem Qfq (hT:Qc P tab) {r:Reach} {b0:Nat}:∀ (ts:List TypeId) (ks:List PK) (vs:List Value) (ds:List (DataW H)) (ps:List MemPlace),Q8c tab ts ks=true →
  (∀ (j:Nat) T v,ts[j]?=some T→vs[j]?=some v→Value.okWide P w r b0 T v)→DataW.TrodAll enc P w base spare held ts vs ds ps →
  ∃ x:PDs ks,X5 tab.ty P (fun k=>k<w.heap.size) w ks x vs []∧Qhe ks x:=by
 intro ts
 induction ts with
 | nil=>
  intro ks vs ds ps hf _ h
  cases ks with
  | cons _ _=>simp [Q8c] at hf
  | nil=>
   cases vs with
   | nil=>exact ⟨(),⟨rfl,rfl⟩,trivial⟩
   | cons _ _=>cases ds<;>simp [DataW.TrodAll] at h
 | cons T r' ih=>
  intro ks vs ds ps hf hok h
  cases vs with
  | nil=>cases ds<;>simp [DataW.TrodAll] at h
  | cons v vs=>
   cases ds with
   | nil=>simp [DataW.TrodAll] at h
   | cons d ds=>
    obtain ⟨p,q,h1,h2,_⟩:=h
    cases ks with
    | nil=>simp [Q8c] at hf
    | cons k ks=>
     cases k with
     | val t=>
      simp only [Q8c,Bool.and_eq_true] at hf
      obtain ⟨⟨f1,f2⟩,f3⟩:=hf
      have ht:=Qah f2
      ·obtain ⟨y,hy,hwf⟩:=Qez hT f1 ht (hok 0 T v rfl rfl) h1
       obtain ⟨z,hz,hwz⟩:=ih ks vs ds q f3 (fun j T v a b=>hok (j+1) T v a b) h2
       exact ⟨(y,z),⟨v,vs,[],[],rfl,rfl,⟨hy,rfl⟩,hz⟩,hwf,hwz⟩
     | _=>simp [Q8c] at hf
theorem Fr.lower {w w':World} {X:Nat→Prop} (h:Fr X w w') (hX:∀ k,¬ X k):Below w.heap.size w w':=
 ⟨h.1,h.2.1,h.2.2.1,h.2.2.2.1,fun k hk=>h.2.2.2.2 k hk (hX k)⟩
def Qhm (P:Program) (ts:List TypeId):Bool:=ts.all fun T=>P.readableRec T&&decide (T<P.types.size)
theorem Qij (hl:laidOutB P=true) {W W':World} (hb:Below W.heap.size W W'):∀ (ts:List TypeId) (vs:List Value) (ds:List (DataW H)) (ps:List MemPlace),Qhm P ts=true →
  (∀ p∈ps,p.block<W.heap.size)→DataW.TrodAll enc P W 0 (fun _=>true) true ts vs ds ps→DataW.TrodAll enc P W' 0 (fun b=>decide (b<W.heap.size)) true ts vs ds ps:=by
 intro ts
 induction ts with
 | nil=>intro vs ds ps _ _ h;cases vs<;>cases ds<;>exact h
 | cons T r ih=>
  intro vs ds ps hr hlt h
  cases vs with
  | nil=>cases ds<;>exact h
  | cons v vs=>
   cases ds with
   | nil=>exact h
   | cons d ds=>
    obtain ⟨p,q,h1,h2,rfl⟩:=h
    simp only [Qhm,List.all_cons,Bool.and_eq_true,decide_eq_true_eq] at hr
    exact ⟨p,q,Below.trod hl hr.1.1 hr.1.2 h1 hb (fun x hx=>hlt x (List.mem_append_left _ hx)),
     ih vs ds q (by simpa [Qhm] using hr.2) (fun x hx=>hlt x (List.mem_append_right _ hx)) h2,rfl⟩
theorem Qdx {w w':World} {may:MemPlace→Prop} (h:Below w.heap.size w w'):w.keptBut w' may:=by
 refine ⟨h.os,h.output,fun i hi=>?_⟩
 rw [h.block i hi]
 split
 ·rename_i e1 e2
  rw [e1] at e2
  cases e2
  exact ⟨rfl,rfl,rfl,fun _ _=>rfl⟩
 ·rename_i e1 e2
  rw [e1] at e2
  cases e2
  exact Or.inr ⟨rfl,rfl⟩
 ·rfl
theorem Qix (hT:Qc P tab) (hl:laidOutB P=true) {f:FuncId} {fn:Func} {ks:List PK} {TB:TypeId} {Q2m X2 handsOn:Bool} {s:ChangeSpec}
  {G:PDs ks→Option (RDs [⟨.bool,[false],none⟩] × ODs ks)} (good:Q4j tab.ty P f ⟨ks,[⟨.bool,[false],none⟩],G⟩) (hfit:Q8c tab fn.params.toList ks=true) (hrd:Qhm P fn.params.toList=true)
  (hsz:fn.resultTypes=#[TB]) (hTB:P.underlying TB=some .bool) (hvars:s.vars=[])
  (hs:∀ ds:List (DataW H),ds.length=fn.params.toList.length→(s.fn H ds).results=[.lit (.bool true)]∧(s.fn H ds).args=ds∧(s.fn H ds).vars=[])
  (hG:∀ x,Qhe ks x→∃ o,G x=some ((true,()),o))
  {W:World} {b0:Nat} {args:Array Value} {ds gs:List (DataW H)} {before:List MemPlace}
  (hok:∀ (j:Nat) t v,fn.params[j]?=some t→args[j]?=some v→Value.okWide P W .any b0 t v)
  (hW:DataW.Whole enc P fn.params.toList s.vars Q2m W args.toList ds gs before) :
  Calls P f args W fun e W'=>∃ v,e=.returned v∧s.post enc P fn Q2m X2 handsOn false W args v W':=by
 have hW':=hW
 obtain ⟨p,q,hA,hV,rfl,hfz,hnd⟩:=hW
 rw [hvars] at hV
 obtain ⟨rfl,rfl⟩:=Go.ChangeShapes.trodVars_none hV
 obtain ⟨x,hx,hwf⟩:=Qfq hT fn.params.toList ks args.toList ds p hfit (fun j t v a b=>hok j t v (by simpa using a) (by simpa using b)) hA
 obtain ⟨o,ho⟩:=hG x hwf
 have hc:=good.2 W (fun k=>k<W.heap.size) x args.toList [] ((true,()),o) (fun _ h=>h) hx List.nodup_nil (fun k hk=>by cases hk) ho
 rw [show args.toList.toArray=args from by simp] at hc
 refine hc.mono fun e W'=>?_
 rintro ⟨vs,S',B1,B2,he,hres,_,_,_,_,_,hfr⟩
 have hb:=hfr.lower (fun k hk=>by cases hk)
 obtain ⟨v,vr,C1,C2,rfl,_,hr,hr2,_⟩:=hres
 subst hr2
 obtain ⟨cs,_,hcs,hown⟩:=hr
 have hcs:=hcs rfl
 subst hcs
 obtain ⟨c,cr,D1,D2,e1,_,hleaf,e2,_⟩:=hown
 subst e2
 cases e1
 obtain ⟨hrep,_⟩:=hleaf
 have hv:v=.bool true:=by
  have:([v]:List Value)=[.bool true]:=hrep
  exact List.head_eq_of_cons_eq this
 subst hv
 have hlen:ds.length=fn.params.toList.length:=by
  have:∀ (ts:List TypeId) (vs:List Value) (ds:List (DataW H)) (ps:List MemPlace),DataW.TrodAll enc P W 0 (fun _=>true) true ts vs ds ps→ds.length=ts.length:=by
   intro ts
   induction ts with
   | nil=>intro vs ds ps h;cases vs<;>cases ds<;>first | rfl | (simp [DataW.TrodAll] at h)
   | cons T r ih=>
    intro vs ds ps h
    cases vs with
    | nil=>cases ds<;>simp [DataW.TrodAll] at h
    | cons v vs=>
     cases ds with
     | nil=>simp [DataW.TrodAll] at h
     | cons d ds=>obtain ⟨p,q,_,h2,_⟩:=h;simp [ih vs ds q h2]
  exact this _ _ _ _ hA
 obtain ⟨s1,s2,s3⟩:=hs ds hlen
 have hlt:∀ y∈p,y.block<W.heap.size:=fun y hy=>hW'.lt y (by simpa using hy)
 refine ⟨_,he,ds,[],p++[],[],p,[],hW',?_,?_,?_,Qdx hb,fun h=>by cases h⟩
 ·rw [hsz,List.append_nil,s1]
  show DataW.TrodAll _ _ _ _ _ _ [TB] [Value.bool true] _ _
  refine ⟨[],[],⟨1,?_⟩,rfl,rfl⟩
  show DataW.trod enc P W' _ _ _ 1 TB [Value.bool true]=_
  unfold DataW.trod
  rw [hTB]
 ·rw [List.append_nil,s2]
  exact Qij hl hb _ _ _ _ hrd hlt hA
 ·rw [List.append_nil,s3,hvars]
  rfl
end
end Go.PE
set_option linter.unusedVariables false
set_option linter.unusedSimpArgs false
namespace Go.PE
section
variable {P:Program} {tab:Tab} {N:NN} {w0:World} {F:FF} {S:Nat→Prop} {β:Lab→Value} {st:St} {a:Act} {w:World}
abbrev Q0q (iT:TypeId):Ty:=.pair (.sl iT (.int .i64)) (.int .i64)
def Xs (τ:TypeId→Option Ty) (iT:TypeId) (w:World):List (List Int × Int)→List Value→List Nat→Prop
 | [],cs,B=>cs=[]∧B=[]
 | x::r,cs,B=>∃ c cr B1 B2,cs=c::Value.int .i64 x.2::cr∧B=B1++B2∧Q0w τ (fun _=>False) w iT (.int .i64) x.1 c B1∧Xs τ iT w r cr B2
def Qiq (P:Program) (τ:TypeId→Option Ty) (f eT iT:Nat):Prop:=
 Qcu P f∧∀ (w:World) (S:Nat→Prop) (xs:List (List Int × Int)) (v:Value),(∀ k,S k→k<w.heap.size)→Rep τ S w (.sl eT (Q0q iT)) xs [v]→xs.length≤1073741824→(∀ x∈xs,x.1.length≤1073741824) →
  Calls P f #[v] w fun e w'=>∃ v' cells B,e=.returned v'∧w'.ownsRow 0 eT 2 v' xs.length cells∧Xs τ iT w' xs cells B∧((blk v').toList++B).Nodup∧(∀ j∈(blk v').toList++B,w.heap.size≤j∧j<w'.heap.size)∧Fr (fun _=>False) w w'
theorem Q6z {τ:TypeId→Option Ty} {S':Nat→Prop} {eT:TypeId} {e:Ty} {xs:List e.den} {c:Value} {B:List Nat} (h:Q0w τ S w eT e xs c B) (hS:∀ k,S k→S' k) (hB:∀ j∈B,S' j) (hlt:∀ j∈B,j<w.heap.size) :
  Rep τ S' w (.sl eT e) xs [c]:=by
 obtain ⟨h0,⟨cells,hr,hc⟩,rfl⟩:=h
 rcases hr.2 with ⟨rfl,hn⟩ | ⟨g,cap,cur,rfl,_,hh,h1,h2,h3,h4⟩
 ·exact ⟨none,0,by rw [hn],by omega,by simp [maxLen],fun hp=>by omega⟩
 ·refine ⟨some ⟨g,0,none⟩,cap,rfl,h1,h2,fun hp=>⟨g,0,rfl,hB g (by simp [blk]),hlt g (by simp [blk]),fun i hi=>?_⟩⟩
  have hel:=hc.elem i hi
  refine ⟨_,hel.length,?_,hel.mono hS⟩
  have hcl:cells.length=xs.length*e.cells:=hc.length
  have hb:i*e.cells+e.cells≤xs.length*e.cells:=by
   have:=Nat.mul_le_mul_right e.cells (show i+1≤xs.length from hi)
   rwa [Nat.add_mul,Nat.one_mul] at this
  intro j hj
  have hj:j<e.cells:=by rw [hel.length] at hj;exact hj
  have e1:cur.toList[i*e.cells+j]?=cells[i*e.cells+j]?:=by rw [← h4,List.getElem?_take,if_pos (by omega)]
  have e2:((cells.drop (i*e.cells)).take e.cells)[j]?=cells[i*e.cells+j]?:=by rw [List.getElem?_take,if_pos hj,List.getElem?_drop]
  have e3:i*e.cells+j<cur.size:=by
   have:=Nat.mul_le_mul_right e.cells h1
   omega
  rw [List.getD_eq_getElem?_getD,e2,← e1,Array.getElem?_toList]
  simp [World.cell?,hh,e3]
theorem Xs.rows {τ:TypeId→Option Ty} {iT:TypeId} {S':Nat→Prop}:∀ {xs:List (List Int × Int)} {cs:List Value} {B:List Nat},Xs τ iT w xs cs B→(∀ j∈B,S' j)→(∀ j∈B,j<w.heap.size)→Q1 τ S' w (Q0q iT) xs cs
 | [],cs,B,h,_,_=>h.1
 | x::r,cs,B,h,hS,hl=>by
  obtain ⟨c,cr,B1,B2,rfl,rfl,h1,h2⟩:=h
  have hr:=Q6z (S':=S') h1 (fun _ h=>h.elim) (fun j hj=>hS j (List.mem_append.2 (.inl hj))) (fun j hj=>hl j (List.mem_append.2 (.inl hj)))
  exact ⟨[c,Value.int .i64 x.2],cr,rfl,⟨[c],[Value.int .i64 x.2],rfl,hr,rfl⟩,Xs.rows h2 (fun j hj=>hS j (List.mem_append.2 (.inr hj))) (fun j hj=>hl j (List.mem_append.2 (.inr hj)))⟩
theorem Xs.length {τ:TypeId→Option Ty} {iT:TypeId}:∀ {xs:List (List Int × Int)} {cs:List Value} {B:List Nat},Xs τ iT w xs cs B→cs.length=xs.length*2
 | [],cs,B,h=>by obtain ⟨rfl,_⟩:=h;rfl
 | x::r,cs,B,h=>by
  obtain ⟨c,cr,B1,B2,rfl,rfl,_,h2⟩:=h
  rw [List.length_cons,List.length_cons,h2.length,List.length_cons,Nat.add_mul]
theorem Q5x {τ:TypeId→Option Ty} {w w':World} {iT:TypeId} {xs:List Int} {c:Value} {B:List Nat} (h:Q0w τ (fun _=>False) w iT (.int .i64) xs c B) (hk:∀ j∈B,w'.heap[j]?=w.heap[j]?):Q0w τ (fun _=>False) w' iT (.int .i64) xs c B:=by
 obtain ⟨h0,⟨cells,hr,hc⟩,rfl⟩:=h
 have key:∀ {xs:List Int} {cs:List Value},Q1 τ (fun _=>False) w (.int .i64) xs cs→Q1 τ (fun _=>False) w' (.int .i64) xs cs:=by
  intro xs
  induction xs with
  | nil=>intro cs h;exact h
  | cons x r ih=>intro cs h;obtain ⟨c,cr,hc,h1,h2⟩:=h;exact ⟨c,cr,hc,h1,ih h2⟩
 refine ⟨h0,⟨cells,⟨hr.1,?_⟩,key hc⟩,rfl⟩
 rcases hr.2 with hn | ⟨g,cap,cur,rfl,hg,hh',rest⟩
 ·exact .inl hn
 ·exact .inr ⟨g,cap,cur,rfl,hg,(hk g (by simp [blk])).trans hh',rest⟩
theorem Xs.move {τ:TypeId→Option Ty} {iT:TypeId} {w w':World}:∀ {xs:List (List Int × Int)} {cs:List Value} {B:List Nat},Xs τ iT w xs cs B→(∀ j∈B,w'.heap[j]?=w.heap[j]?)→Xs τ iT w' xs cs B
 | [],cs,B,h,_=>h
 | x::r,cs,B,h,hk=>by
  obtain ⟨c,cr,B1,B2,rfl,rfl,h1,h2⟩:=h
  exact ⟨c,cr,B1,B2,rfl,rfl,Q5x h1 (fun j hj=>hk j (List.mem_append.2 (.inl hj))),Xs.move h2 (fun j hj=>hk j (List.mem_append.2 (.inr hj)))⟩
theorem Xs.split {τ:TypeId→Option Ty} {iT:TypeId}:∀ {xs:List (List Int × Int)} {cs:List Value} {B:List Nat} (p:Nat) (hp:p<xs.length),Xs τ iT w xs cs B →
  ∃ cs1 c cs2 B1 Bp B2,cs=cs1++c::Value.int .i64 xs[p].2::cs2∧B=B1++(Bp++B2)∧Xs τ iT w (xs.take p) cs1 B1∧Q0w τ (fun _=>False) w iT (.int .i64) xs[p].1 c Bp∧Xs τ iT w (xs.drop (p+1)) cs2 B2
 | [],cs,B,p,hp,h=>by simp at hp
 | x::r,cs,B,0,hp,h=>by
  obtain ⟨c,cr,B1,B2,rfl,rfl,h1,h2⟩:=h
  exact ⟨[],c,cr,[],B1,B2,rfl,rfl,⟨rfl,rfl⟩,h1,h2⟩
 | x::r,cs,B,p+1,hp,h=>by
  obtain ⟨c,cr,B1,B2,rfl,rfl,h1,h2⟩:=h
  obtain ⟨cs1,c',cs2,B3,Bp,B4,rfl,rfl,g1,g2,g3⟩:=Xs.split p (by simpa using hp) h2
  refine ⟨c::Value.int .i64 x.2::cs1,c',cs2,B1++B3,Bp,B4,rfl,by simp [List.append_assoc],⟨c,cs1,B1,B3,rfl,rfl,h1,g1⟩,g2,g3⟩
theorem Q8.cat {τ:TypeId→Option Ty} {e:Ty} {ys1 ys2:List (Option e.den)} {cs1 cs2:List Value} (h1:Q8 τ S w e ys1 cs1) (h2:Q8 τ S w e ys2 cs2) (hl:cs1.length=ys1.length*e.cells):Q8 τ S w e (ys1++ys2) (cs1++cs2):=by
 intro i x hi
 rcases Nat.lt_or_ge i ys1.length with hlt | hge
 ·rw [List.getElem?_append_left hlt] at hi
  have:=h1 i x hi
  have hb:i*e.cells+e.cells≤cs1.length:=by
   rw [hl];have:=Nat.mul_le_mul_right e.cells (show i+1≤ys1.length from hlt);rwa [Nat.add_mul,Nat.one_mul] at this
  rw [List.drop_append,List.take_append,show e.cells - (List.drop (i*e.cells) cs1).length=0 by rw [List.length_drop];omega,List.take_zero,List.append_nil]
  exact this
 ·rw [List.getElem?_append_right hge] at hi
  have:=h2 _ x hi
  have hm:ys1.length*e.cells≤i*e.cells:=Nat.mul_le_mul_right _ hge
  rw [List.drop_append,List.drop_eq_nil_of_le (by omega),List.nil_append,hl,← Nat.sub_mul]
  exact this
theorem Q8.none1 {τ:TypeId→Option Ty} {e:Ty} (cs:List Value):Q8 τ S w e [none] cs:=by
 intro i x hi
 cases i with
 | zero=>exact absurd (Option.some.inj hi) (by simp)
 | succ i=>simp at hi
theorem Q8.more {τ:TypeId→Option Ty} {e:Ty} {ys:List (Option e.den)} {l:List Value} {m:Nat} (h:Q8 τ S w e ys (l.take m)) (hm:ys.length*e.cells≤m):Q8 τ S w e ys l:=by
 intro i x hi
 have:=h i x hi
 have hlt:i<ys.length:=(List.getElem?_eq_some_iff.1 hi).1
 have hb:i*e.cells+e.cells≤m:=by
  have:=Nat.mul_le_mul_right e.cells (show i+1≤ys.length from hlt);rw [Nat.add_mul,Nat.one_mul] at this;omega
 rw [List.drop_take,List.take_take,show min e.cells (m - i*e.cells)=e.cells by omega] at this
 exact this
theorem Qgs {α:Type} (l:List α) (p:Nat) (hp:p<l.length):(l.map some).set p none=(l.take p).map some++([none]++(l.drop (p+1)).map some):=by
 rw [List.set_eq_take_append_cons_drop,if_pos (by rw [List.length_map];exact hp),List.map_take,List.map_drop]
 rfl
theorem Xs.hole {τ:TypeId→Option Ty} {iT:TypeId} {S':Nat→Prop} {xs:List (List Int × Int)} {cs1 cs2:List Value} {c:Value} {B1 B2:List Nat} {p:Nat} (hp:p<xs.length) (h1:Xs τ iT w (xs.take p) cs1 B1) (h2:Xs τ iT w (xs.drop (p+1)) cs2 B2)
  (hS:∀ j∈B1++B2,S' j) (hl:∀ j∈B1++B2,j<w.heap.size) (u:Value):Q8 τ S' w (Q0q iT) ((xs.map some).set p none) (cs1++c::u::cs2):=by
 rw [Qgs xs p hp]
 have r1:=h1.rows (S':=S') (fun j hj=>hS j (List.mem_append.2 (.inl hj))) (fun j hj=>hl j (List.mem_append.2 (.inl hj)))
 have r2:=h2.rows (S':=S') (fun j hj=>hS j (List.mem_append.2 (.inr hj))) (fun j hj=>hl j (List.mem_append.2 (.inr hj)))
 have m1:=Q8.of_row r1 (cs:=cs1) (List.take_of_length_le (Nat.le_refl _)) 0
 have m2:=Q8.of_row r2 (cs:=cs2) (List.take_of_length_le (Nat.le_refl _)) 0
 rw [List.replicate_zero,List.append_nil] at m1 m2
 have l1:=h1.length
 refine Q8.cat (e:=Q0q iT) m1 (Q8.cat (e:=Q0q iT) (ys1:=[none]) (cs1:=[c,u]) (Q8.none1 _) m2 rfl) ?_
 refine l1.trans ?_
 show (List.take p xs).length*2=(List.map some (List.take p xs):List (Option (List Int × Int))).length*2
 rw [List.length_map]
theorem Q3k {ops:Array Oper} {Q:Exit→Act→World→Prop} {o:Oper} {r:List Oper} {x:Operand} (ho:o.op=.move x∨o.op=.assign x) (hg:o.guard=none) (h:wpList P ops Q r (a.put o.dst (a.eval x)) w):wpList P ops Q (o::r) a w:=by
 refine wpList_plain hg fun K hK=>?_
 unfold Oper.wp execOp
 rcases ho with ho | ho<;>(simp only [ho];exact hK _ _ h)
theorem Q4p {ops:Array Oper} {Q:Exit→Act→World→Prop} {o:Oper} {r:List Oper} {x:Value} (ho:(execOp a.eval o).run P w=.ok (.value x) w) (hg:o.guard=none) (h:wpList P ops Q r (a.put o.dst x) w):wpList P ops Q (o::r) a w:=by
 refine wpList_plain hg fun K hK=>?_
 unfold Oper.wp
 rw [ho]
 exact hK _ _ h
theorem Qf3 {ops:Array Oper} {Q:Exit→Act→World→Prop} {o:Oper} {r:List Oper} {f:FuncId} {x:Operand} {T:TypeId} (ho:o.op=.call { callee:=.value (.func f),args:=#[x],argTypes:=#[T] }) (hg:o.guard=none) (hok:Qcu P f)
  {R:Value→World→Prop} (hc:Calls P f #[a.eval x] w fun ex w'=>∃ v,ex=.returned v∧R v w') (h:∀ v w',R v w'→wpList P ops Q r (a.put o.dst v) w'):wpList P ops Q (o::r) a w:=by
 refine wpList_plain hg fun K hK=>?_
 refine Q58 ho (g:=f) (cap:=#[]) rfl hok Q K ?_
 refine Calls.mono (R:=fun ex w'=>∃ v,ex=.returned v∧R v w') (by simpa using hc) ?_
 rintro ex w' ⟨v,rfl,hv⟩
 exact ⟨v,rfl,hK _ _ (h v w' hv)⟩
def Qiu:List Code→Code→Code
 | [],c=>c
 | b::r,c=>.seq b (Qiu r c)
noncomputable def Qae {R:Type} (Γ:Ctx) (τ:Tab) (fi:Fi) (n:Nat):List Code→St→(EX→St→Option R)→Option R
 | [],st,k=>k .normal st
 | b::r,st,k=>Xb Γ τ fi n b st fun e s=>match e with
  | .normal=>Qae Γ τ fi n r s k
  | e=>k e s
theorem Q62 {n0:Nat} (hn0:n0≤N.1) {Γ:Ctx} (hΓ:J8 tab.ty P Γ) (hTab:Qc P tab) (hD:Q79 P Γ tab N) {fi:Fi} {n:Nat} {R:Type} {res:R}:∀ {bs:List Code} {c:Code} {st:St} {S:Nat→Prop} {β:Lab→Value} {a:Act} {w:World} {k:EX→St→Option R} {Q:Exit→Act→World→Prop},
  bs.all (X6 n0 (N.2.map (·.1)))=true→Rel P tab.ty N w0 F S β st a w→Qae Γ tab fi n bs st k=some res →
  (∀ e a' w' S' β' s,e≠.normal→(∀ k,S k→S' k)→Rel P tab.ty N w0 F S' β' s a' w'→k e s=some res→Q (Q9s e) a' w') →
  (∀ a' w' S' β' s,(∀ k,S k→S' k)→Rel P tab.ty N w0 F S' β' s a' w'→k .normal s=some res→c.wp P Q a' w')→(Qiu bs c).wp P Q a w
 | [],c,st,S,β,a,w,k,Q,hd,h,he,hQ,hN=>hN a w S β st (fun _ x=>x) h he
 | b::r,c,st,S,β,a,w,k,Q,hd,h,he,hQ,hN=>by
  simp only [List.all_cons,Bool.and_eq_true] at hd
  refine wp_seq (Q0i hn0 hΓ hTab hD hd.1 h he (fun e a' w' S' β' s hS h' hk=>?_))
  cases e with
  | normal=>
   exact Q62 hn0 hΓ hTab hD hd.2 h' hk (fun e a'' w'' S'' β'' s' g0 g1 g2 g3=>hQ e a'' w'' S'' β'' s' g0 (fun k hk=>g1 k (hS k hk)) g2 g3) (fun a'' w'' S'' β'' s' g1 g2 g3=>hN a'' w'' S'' β'' s' (fun k hk=>g1 k (hS k hk)) g2 g3)
  | exit id=>exact hQ (.exit id) a' w' S' β' s (by intro h;cases h) hS h' hk
  | ret=>exact hQ .ret a' w' S' β' s (by intro h;cases h) hS h' hk
def Qhl (β:Lab→Value) (st:St):List Nat:=st.objs.flatMap fun p=>(blk (β p.1)).toList
theorem Rel.rebase (h:Rel P tab.ty N w0 F S β st a w) {N':NN} (hN:N'.1=N.1) (hp:∀ p∈N'.2,a.tmps.getD p.1 undef=p.2):Rel P tab.ty N' w (fun k=>k∈Qhl β st,S) S β st a w:=
 ⟨h.sb,h.slots,h.objs,fun l x hl b hb=>⟨(h.excl l x hl b hb).1,.inr (by
   obtain ⟨p,hp',_⟩:=Qce hl
   exact List.mem_flatMap.2 ⟨(l,x),Zn hl,by simp [hb]⟩),(h.excl l x hl b hb).2.2⟩,h.dist,Fr.refl _ w,h.size.trans hN.symm,h.nodef,fun k hk=>.inl hk,hp⟩
theorem Q44.conv {w1 w':World} {S SB:Nat→Prop} {B:List Nat} {vals:List Value} {ps:List PK} {rs:List RK} {r:RDs rs × ODs ps} {ex:Ending} (h:Q44 tab w1 SB vals B r ex w') (hB:∀ k∈B,w.heap.size≤k) (h1:∀ k,S k→SB k)
  (h2:∀ k,SB k→S k∨w.heap.size≤k) (hf:Fr (fun _=>False) w w1):Q44 tab w S vals [] r ex w':=by
 obtain ⟨vs,S',B1,B2,e1,e2,e3,e4,e5,e6,e7,e8⟩:=h
 refine ⟨vs,S',B1,B2,e1,e2,e3,e4,fun k hk=>?_,fun k hk=>e6 k (h1 k hk),fun k hk=>?_,?_⟩
 ·obtain ⟨g1,g2,g3⟩:=e5 k hk
  exact ⟨g1,g2,.inl (g3.elim (fun h=>Nat.le_trans hf.size h) (hB k))⟩
 ·obtain ⟨g1,g2⟩:=e7 k hk
  refine ⟨g1,?_⟩
  rcases g2 with g2 | g2 | g2
  ·exact (h2 k g2).elim .inl (fun h=>.inr (.inl h))
  ·exact .inr (.inl (Nat.le_trans hf.size g2))
  ·exact .inr (.inl (hB k g2))
 ·refine (hf.mono (fun _ h=>h.elim)).trans' e8 (fun k hk hkB=>?_)
  exact absurd (hB k hkB) (by omega)
def Xn (s:St):List Nat→List (Nat × SV)
 | []=>[]
 | t::r=>match Q9 s.slots t with
  | .cv (.one (.pure (.int k) n))=>(t,.cv (.one (.pure (.int k) n)))::Xn s r
  | _=>Xn s r
def Z5 (s:St):Option Nat→Option (Nat × TypeId × IntKind × Int)
 | none=>none
 | some t=>match Q9 s.slots t with
  | .cv (.one (.ptr l 0))=>(match Q0 s.objs l with
   | some (.box T [.pure (.int k) n])=>some (t,T,k,n)
   | _=>none)
  | _=>none
theorem Q54 (s:St):∀ (ks:List Nat) (t:Nat),Q9 (Xn s ks) t=.dead∨(t∈ks∧∃ k n,Q9 s.slots t=.cv (.one (.pure (.int k) n))∧Q9 (Xn s ks) t=.cv (.one (.pure (.int k) n)))
 | [],t=>.inl rfl
 | u::r,t=>by
  have ih:=Q54 s r t
  have next:Q9 (Xn s r) t=.dead∨(t∈u::r∧∃ k n,Q9 s.slots t=.cv (.one (.pure (.int k) n))∧Q9 (Xn s r) t=.cv (.one (.pure (.int k) n))):=
   ih.imp id (fun ⟨h1,h2⟩=>⟨List.mem_cons_of_mem _ h1,h2⟩)
  unfold Xn
  split
  ·rename_i k n hs
   rw [Qk]
   by_cases e:u=t
   ·subst e
    rw [if_pos rfl]
    exact .inr ⟨List.mem_cons_self ..,k,n,hs,rfl⟩
   ·rw [if_neg e];exact next
  ·exact next
end
end Go.PE
set_option linter.unusedVariables false
set_option linter.unusedSimpArgs false
namespace Go.PE
section
variable {P:Program} {tab:Tab} {N:NN} {w0:World} {F:FF} {S:Nat→Prop} {β:Lab→Value} {st:St} {a:Act} {w:World}
structure Q1b where
 eT:TypeId
 iT:TypeId
 Tcs:TypeId
 Tsl:TypeId
 tD:Ty
 cs:Nat
 ix:Nat
 tA:Nat
 tB:Nat
 q1:Nat
 q2:Nat
 q3:Nat
 q4:Nat
 q5:Nat
 ks:List Nat
 bx:Option Nat
 ft:FuncId
 id6:Nat
def Qa7 (z:Option (Nat × TypeId × IntKind × Int)):List (Nat × SV) × List (Lab × Ob):=match z with
 | some (t,T,k,n)=>([(t,.cv (.one (.ptr (900003,0) 0)))],[((900003,0),.box T [.pure (.int k) n])])
 | none=>([],[])
def stC (c:Q1b) (d:c.tD.den) (s:St) (xs:List (List Int × Int)) (p:Nat):St:=
 {slots:=(c.cs,.cv (.one (.ref (900001,0))))::(c.q5,.cv (.one (.ref (900002,0))))::(0,.cv (.one (.pure c.tD d)))::((Qa7 (Z5 s c.bx)).1++Xn s c.ks),
  objs:=((900001,0),.mem c.eT (Q0q c.iT) ((xs.map some).set p none) xs.length false)::((900002,0),.row c.iT (.int .i64) ((xs.getD p ([],0)).1))::(Qa7 (Z5 s c.bx)).2 }
def Q41 (z:Option (Nat × TypeId × IntKind × Int)) (a:Act):Value:=match z with
 | some (t,_)=>a.tmps.getD t undef
 | none=>undef
theorem Qhy {c:Q1b} {w w1 w2:World} {S S2:Nat→Prop} {N2:NN} {F2:FF} {β2:Lab→Value} {s2:St} {a2:Act} {d:c.tD.den} {vd v1:Value} {xs:List (List Int × Int)} {cells:List Value} {Bs:List Nat} {p:Nat}
  (hS:∀ k,S k→k<w.heap.size) (hd:Rep tab.ty S w c.tD d [vd]) (hs2:Rel P tab.ty N2 w1 F2 S2 β2 s2 a2 w2) (fw1:Fr (fun _=>False) w w1) (hF2:∀ k,F2.1 k→w.heap.size≤k∧k ∉ (blk v1).toList++Bs)
  (hown:w1.ownsRow 0 c.eT 2 v1 xs.length cells) (htw:Xs tab.ty c.iT w1 xs cells Bs) (hnd:((blk v1).toList++Bs).Nodup) (hbd:∀ j∈(blk v1).toList++Bs,w.heap.size≤j∧j<w1.heap.size) (hp:p<xs.length) :
  ∃ (g cp:Nat) (cur:Array Value) (hd':Value) (β3:Lab→Value) (S3:Nat→Prop) (BC:List Nat),v1=.slice (some ⟨g,0,none⟩) xs.length cp∧w2.heap[g]?=some (.cells cur c.eT (0,0))∧cur[p*2]?=some hd' ∧
   (∀ k∈BC,w.heap.size≤k)∧(∀ k,S k→S3 k)∧(∀ k,S3 k→S k∨w.heap.size≤k)∧Fr (fun _=>False) w w2 ∧
   ∀ (a3:Act) (N3:NN),a3.defers=[]→a3.tmps.size=N3.1→N3.2=[]→a3.tmps.getD c.cs undef=v1→a3.tmps.getD c.q5 undef=hd'→a3.tmps.getD 0 undef=vd→(∀ t∈c.ks,a3.tmps.getD t undef=a2.tmps.getD t undef) →
    (∀ z,Z5 s2 c.bx=some z→a3.tmps.getD z.1 undef=a2.tmps.getD z.1 undef) →
    Rel P tab.ty N3 w2 (fun k=>k∈BC,S3) S3 β3 (stC c d s2 xs p) a3 w2:=by
 obtain ⟨g,cap,cur,hv1,hh1,hn1,hcm,hcs,htk⟩:∃ g cap cur,v1=.slice (some ⟨g,0,none⟩) xs.length cap∧w1.heap[g]?=some (.cells cur c.eT (0,0))∧xs.length≤cap∧cap≤maxLen∧cur.size=cap*2∧cur.toList.take (xs.length*2)=cells:=by
  rcases hown.2 with ⟨_,h0⟩ | ⟨g,cap,cur,e,_,h1,h2,h3,h4,h5⟩
  ·omega
  ·exact ⟨g,cap,cur,e,h1,h2,h3,h4,h5⟩
 subst hv1
 have hgm:g∈(blk (Value.slice (some ⟨g,0,none⟩) xs.length cap)).toList++Bs:=List.mem_append.2 (.inl (by simp [blk]))
 have fr2:∀ k∈(blk (Value.slice (some ⟨g,0,none⟩) xs.length cap)).toList++Bs,w2.heap[k]?=w1.heap[k]?:=fun k hk=>hs2.fr.block (hbd k hk).2 (fun hx=>(hF2 k hx).2 hk)
 have hsz12:w1.heap.size≤w2.heap.size:=hs2.fr.size
 obtain ⟨cs1,hd',cs2,B1,Bp,B2,hcells,hBs,t1,t2,t3⟩:=htw.split p hp
 have htp:cs1.length=p*2:=by rw [t1.length,List.length_take,Nat.min_eq_left (by omega)]
 have fww2:Fr (fun _=>False) w w2:=fw1.trans' hs2.fr (fun k hk hx=>absurd (hF2 k hx).1 (by omega))
 have hsub1:∀ j∈B1,j∈Bs:=fun j hj=>by rw [hBs];simp [hj]
 have hsubp:∀ j∈Bp,j∈Bs:=fun j hj=>by rw [hBs];simp [hj]
 have hsub2:∀ j∈B2,j∈Bs:=fun j hj=>by rw [hBs];simp [hj]
 have inB:∀ j∈Bs,j∈(blk (Value.slice (some ⟨g,0,none⟩) xs.length cap)).toList++Bs:=fun j hj=>List.mem_append.2 (.inr hj)
 have hnd':([g]++Bs).Nodup:=hnd
 have hgB:g ∉ Bs:=by simp at hnd';exact hnd'.1
 have hndB:(B1++(Bp++B2)).Nodup:=by rw [← hBs];simp at hnd';exact hnd'.2
 have hp12:∀ j∈Bp,j ∉ B1++B2:=fun j hj hj'=>by
  rw [List.nodup_append] at hndB
  obtain ⟨_,h2,h3⟩:=hndB
  rw [List.nodup_append] at h2
  rcases List.mem_append.1 hj' with h | h
  ·exact h3 j h j (List.mem_append.2 (.inl hj)) rfl
  ·exact h2.2.2 j hj j h rfl
 have t1':=t1.move (w':=w2) (fun j hj=>fr2 j (inB j (hsub1 j hj)))
 have t2':=Q5x (w':=w2) t2 (fun j hj=>fr2 j (inB j (hsubp j hj)))
 have t3':=t3.move (w':=w2) (fun j hj=>fr2 j (inB j (hsub2 j hj)))
 obtain ⟨g0,⟨icells,iown,irc⟩,hBp⟩:=t2'
 subst hBp
 obtain ⟨S3,hS3⟩:∃ S3:Nat→Prop,S3=fun q=>S q∨q∈B1++B2:=⟨_,rfl⟩
 have hS3S:∀ k,S k→S3 k:=fun k hk=>by rw [hS3];exact .inl hk
 have hS3b:∀ j∈B1++B2,S3 j:=fun j hj=>by rw [hS3];exact .inr hj
 have b12:∀ j∈B1++B2,j∈Bs:=fun j hj=>(List.mem_append.1 hj).elim (hsub1 j) (hsub2 j)
 have hS3w:∀ k,S3 k→S k∨w.heap.size≤k:=fun k hk=>by
  rw [hS3] at hk
  exact hk.imp id (fun h=>(hbd k (inB k (b12 k h))).1)
 have hS3lt:∀ k,S3 k→k<w2.heap.size:=fun k hk=>by
  rw [hS3] at hk
  rcases hk with h | h
  ·have:=hS k h;have:=fww2.size;omega
  ·have:=(hbd k (inB k (b12 k h))).2;omega
 have hgS3:¬ S3 g:=fun hk=>by
  rw [hS3] at hk
  rcases hk with h | h
  ·have:=hS g h;have:=(hbd g hgm).1;omega
  ·exact hgB (b12 g h)
 have hpS3:∀ k,blk hd'=some k→¬ S3 k:=fun k hb hk=>by
  have hkp:k∈(blk hd').toList:=by simp [hb]
  rw [hS3] at hk
  rcases hk with h | h
  ·have:=hS k h;have:=(hbd k (inB k (hsubp k hkp))).1;omega
  ·exact hp12 k hkp h
 have hgetD:xs.getD p ([],0)=xs[p]:=by rw [List.getD_eq_getElem?_getD,List.getElem?_eq_getElem hp];rfl
 have hcurp:cur[p*2]?=some hd':=by
  have e1:cells[p*2]?=some hd':=by rw [hcells,List.getElem?_append_right (by omega),htp,Nat.sub_self];rfl
  rw [← Array.getElem?_toList]
  rw [← htk,List.getElem?_take,if_pos (by omega)] at e1
  exact e1
 have hh2:w2.heap[g]?=some (.cells cur c.eT (0,0)):=(fr2 g hgm).trans hh1
 have hmem:Q8 tab.ty S3 w2 (Q0q c.iT) ((xs.map some).set p none) cur.toList:=by
  have h1:=Xs.hole (w:=w2) (S':=S3) (c:=hd') hp t1' t3' hS3b (fun j hj=>by have:=(hbd j (inB j (b12 j hj))).2;omega) (Value.int .i64 xs[p].2)
  rw [← hcells,← htk] at h1
  refine Q8.more (e:=Q0q c.iT) h1 ?_
  show ((xs.map some).set p none).length*2≤_
  rw [List.length_set,List.length_map]
  exact Nat.le_refl _
 obtain ⟨bl,hbl⟩:∃ bl:List Nat,bl=(match Z5 s2 c.bx with | some z=>(blk (a2.tmps.getD z.1 undef)).toList | none=>[]):=⟨_,rfl⟩
 have hbox:∀ t T k n,Z5 s2 c.bx=some (t,T,k,n)→∃ b T' ,a2.tmps.getD t undef=.pointer (some ⟨b,0,none⟩)∧w2.heap[b]?=some (.cells #[.int k n] T' (0,0))∧b<w2.heap.size∧w.heap.size≤b∧b≠g∧blk hd'≠some b∧¬ S3 b:=by
  intro t T k n hz
  unfold Z5 at hz
  split at hz
  ·cases hz
  ·rename_i t' hbx'
   split at hz
   ·rename_i l hsl
    split at hz
    ·rename_i T2 k2 n2 hol
     have hz:=Option.some.inj hz
     simp only [Prod.mk.injEq] at hz
     obtain ⟨rfl,rfl,rfl,rfl⟩:=hz
     have hslot:=hs2.slots t'
     rw [hsl] at hslot
     obtain ⟨b,hb1,hb2⟩:=hslot
     obtain ⟨b',T',cs,hβ,hh,c0,cr,hcl,hc0,hcr⟩:=hs2.objs l _ hol
     rw [hβ] at hb1
     simp only [Value.pointer.injEq,Option.some.injEq,Addr.mk.injEq] at hb1
     obtain ⟨rfl,_⟩:=hb1
     have hcr:cr=[]:=hcr
     subst hcr
     have hc0:[c0]=[Value.int k n]:=hc0
     have hcsl:cs=#[Value.int k n]:=by apply Array.ext';rw [hcl,hc0]
     subst hcsl
     obtain ⟨e1,e2,e3⟩:=hs2.excl l _ hol b' (by rw [hβ];rfl)
     have hnot:b' ∉ (blk (Value.slice (some ⟨g,0,none⟩) xs.length cap)).toList++Bs:=fun hm=>by
      rcases e2 with e2 | e2
      ·have:=(hbd b' hm).2;omega
      ·exact (hF2 b' e2).2 hm
     have hge:w.heap.size≤b':=by
      rcases e2 with e2 | e2
      ·exact Nat.le_trans fw1.size e2
      ·exact (hF2 b' e2).1
     refine ⟨b',T',hb2,hh,e3,hge,fun e=>hnot (by rw [e];exact hgm),fun e=>hnot (inB b' (hsubp b' (by simp [e]))),fun h3=>?_⟩
     rw [hS3] at h3
     rcases h3 with h | h
     ·have:=hS b' h;omega
     ·exact hnot (inB b' (b12 b' h))
    ·cases hz
   ·cases hz
 refine ⟨g,cap,cur,hd',fun l=>if l=(900001,0) then .slice (some ⟨g,0,none⟩) xs.length cap else if l=(900002,0) then hd' else Q41 (Z5 s2 c.bx) a2,S3,g::((blk hd').toList++bl),rfl,hh2,hcurp,?_,hS3S,hS3w,fww2,?_⟩
 ·intro k hk
  rcases List.mem_cons.1 hk with rfl | hk
  ·exact (hbd _ hgm).1
  ·rcases List.mem_append.1 hk with hk | hk
   ·exact (hbd k (inB k (hsubp k hk))).1
   ·rw [hbl] at hk
    cases hz:Z5 s2 c.bx with
    | none=>rw [hz] at hk;cases hk
    | some z=>
     obtain ⟨t,T,k',n⟩:=z
     rw [hz] at hk
     obtain ⟨b,T',e1,_,_,e4,_⟩:=hbox t T k' n hz
     simp only [e1,blk,Option.toList,List.mem_singleton] at hk
     subst hk;exact e4
 ·intro a3 N3 hdf hsz hN32 hcs3 hq53 h03 hks3 hbx3
  have hob:∀ l ob,Q0 (stC c d s2 xs p).objs l=some ob→(l=(900001,0)∧ob=.mem c.eT (Q0q c.iT) ((xs.map some).set p none) xs.length false)∨(l=(900002,0)∧ob=.row c.iT (.int .i64) (xs[p].1)) ∨
    (∃ t T k n,Z5 s2 c.bx=some (t,T,k,n)∧l=(900003,0)∧ob=.box T [.pure (.int k) n]):=by
   intro l ob hl
   simp only [stC] at hl
   rw [Q3] at hl
   split at hl
   ·rename_i e;exact .inl ⟨e.symm,(Option.some.inj hl).symm⟩
   ·rw [Q3] at hl
    split at hl
    ·rename_i e;exact .inr (.inl ⟨e.symm,by rw [← hgetD];exact (Option.some.inj hl).symm⟩)
    ·cases hz:Z5 s2 c.bx with
     | none=>rw [hz] at hl;cases hl
     | some z=>
      obtain ⟨t,T,k,n⟩:=z
      rw [hz] at hl
      simp only [Qa7] at hl
      rw [Q3] at hl
      split at hl
      ·rename_i e;exact .inr (.inr ⟨t,T,k,n,rfl,e.symm,(Option.some.inj hl).symm⟩)
      ·cases hl
  have hbv:∀ t T k n,Z5 s2 c.bx=some (t,T,k,n)→Q41 (Z5 s2 c.bx) a2=a2.tmps.getD t undef:=fun t T k n hz=>by rw [hz];rfl
  refine ⟨hS3lt,fun t=>?_,fun l ob hl=>?_,fun l ob hl b hb=>?_,fun l l' ob ob' hl hl' hne b hb hb'=>?_,Fr.refl _ _,hsz,hdf,fun k hk=>.inl hk,fun q hq=>by rw [hN32] at hq;cases hq⟩
  ·show Qe P tab.ty S3 _ w2 (Q9 ((c.cs,_)::(c.q5,_)::(0,_)::((Qa7 (Z5 s2 c.bx)).1++Xn s2 c.ks)) t) _
   rw [Qk]
   split
   ·rename_i e;subst e;exact ⟨by rw [hcs3];rfl,_,_,_,hcs3⟩
   ·rw [Qk]
    split
    ·rename_i e;subst e
     obtain ⟨A2,n2,c2,e2⟩:=Zz iown
     exact ⟨by rw [hq53];rfl,A2,n2,c2,by rw [hq53];exact e2⟩
    ·rw [Qk]
     split
     ·rename_i e;subst e
      show Rep tab.ty S3 w2 c.tD d [a3.tmps.getD 0 undef]
      rw [h03]
      exact Rep.frame hS3S fww2.size (fun k hk hlt=>fww2.block hlt (fun x=>x)) hd
     ·have ints:Qe P tab.ty S3 (fun l=>if l=(900001,0) then Value.slice (some ⟨g,0,none⟩) xs.length cap else if l=(900002,0) then hd' else Q41 (Z5 s2 c.bx) a2) w2 (Q9 (Xn s2 c.ks) t) (a3.tmps.getD t undef):=by
       rcases Q54 s2 c.ks t with e | ⟨hm,k,n,e1,e2⟩
       ·rw [e];trivial
       ·rw [e2,hks3 t hm]
        have:=hs2.slots t
        rw [e1] at this
        exact this
      cases hz:Z5 s2 c.bx with
      | none=>rw [hz] at ints;exact ints
      | some z=>
       obtain ⟨t',T,k,n⟩:=z
       show Qe P tab.ty S3 _ w2 (Q9 ((t',_)::Xn s2 c.ks) t) _
       rw [Qk]
       split
       ·rename_i e;subst e
        obtain ⟨b,T',e1,_⟩:=hbox t' T k n hz
        refine ⟨b,?_,?_⟩
        ·show Q41 (some (t',T,k,n)) a2=_
         exact e1
        ·rw [hbx3 _ hz];exact e1
       ·rw [hz] at ints;exact ints
  ·rcases hob l ob hl with ⟨rfl,rfl⟩ | ⟨rfl,rfl⟩ | ⟨t,T,k,n,hz,rfl,rfl⟩
   ·refine ⟨Nat.zero_lt_succ _,some ⟨g,0,none⟩,cap,rfl,?_,hn1,hcm,(fun h=>by cases h),.inr ⟨g,cur,rfl,hh2,hcs,hmem⟩⟩
    show ((xs.map some).set p none).length≤cap
    rw [List.length_set,List.length_map];exact hn1
   ·exact ⟨g0,icells,iown,irc.frame (fun _ h=>h.elim) (Nat.le_refl _) (fun _ _ _=>rfl)⟩
   ·obtain ⟨b,T',e1,e2,_⟩:=hbox t T k n hz
    refine ⟨b,T',#[.int k n],?_,e2,_,[],rfl,(rfl:[Value.int k n]=[Value.int k n]),rfl⟩
    show Q41 (Z5 s2 c.bx) a2=_
    rw [hbv t T k n hz];exact e1
  ·rcases hob l ob hl with ⟨rfl,rfl⟩ | ⟨rfl,rfl⟩ | ⟨t,T,k,n,hz,rfl,rfl⟩
   ·have hb:g=b:=Option.some.inj hb
    subst hb
    exact ⟨hgS3,.inr (List.mem_cons_self ..),by have:=(hbd g hgm).2;omega⟩
   ·have hb:blk hd'=some b:=hb
    have hbp:b∈(blk hd').toList:=by simp [hb]
    exact ⟨hpS3 b hb,.inr (by simp [hb]),by have:=(hbd b (inB b (hsubp b hbp))).2;omega⟩
   ·obtain ⟨b',T',e1,e2,e3,e4,e5,e6,e7⟩:=hbox t T k n hz
    have hb:blk (Q41 (Z5 s2 c.bx) a2)=some b:=hb
    rw [hbv t T k n hz,e1] at hb
    have hb:b'=b:=Option.some.inj hb
    subst hb
    refine ⟨e7,.inr ?_,e3⟩
    rw [hbl,hz]
    simp [e1,blk]
  ·rcases hob l ob hl with ⟨rfl,rfl⟩ | ⟨rfl,rfl⟩ | ⟨t,T,k,n,hz,rfl,rfl⟩<;>rcases hob l' ob' hl' with ⟨rfl,rfl⟩ | ⟨rfl,rfl⟩ | ⟨t',T',k',n',hz',rfl,rfl⟩
   ·exact hne rfl
   ·have h1:g=b:=Option.some.inj hb
    have h2:blk hd'=some b:=hb'
    exact hgB (hsubp g (by rw [← h1] at h2;simp [h2]))
   ·have h1:g=b:=Option.some.inj hb
    obtain ⟨b',T2,e1,e2,e3,e4,e5,e6,e7⟩:=hbox t' T' k' n' hz'
    have h2:blk (Q41 (Z5 s2 c.bx) a2)=some b:=hb'
    rw [hbv t' T' k' n' hz',e1] at h2
    have h2:b'=b:=Option.some.inj h2
    exact e5 (h2.trans h1.symm)
   ·have h1:g=b:=Option.some.inj hb'
    have h2:blk hd'=some b:=hb
    exact hgB (hsubp g (by rw [← h1] at h2;simp [h2]))
   ·exact hne rfl
   ·have h1:blk hd'=some b:=hb
    obtain ⟨b',T2,e1,e2,e3,e4,e5,e6,e7⟩:=hbox t' T' k' n' hz'
    have h2:blk (Q41 (Z5 s2 c.bx) a2)=some b:=hb'
    rw [hbv t' T' k' n' hz',e1] at h2
    have h2:b'=b:=Option.some.inj h2
    exact e6 (by rw [h2];exact h1)
   ·have h1:g=b:=Option.some.inj hb'
    obtain ⟨b',T2,e1,e2,e3,e4,e5,e6,e7⟩:=hbox t T k n hz
    have h2:blk (Q41 (Z5 s2 c.bx) a2)=some b:=hb
    rw [hbv t T k n hz,e1] at h2
    have h2:b'=b:=Option.some.inj h2
    exact e5 (h2.trans h1.symm)
   ·have h1:blk hd'=some b:=hb'
    obtain ⟨b',T2,e1,e2,e3,e4,e5,e6,e7⟩:=hbox t T k n hz
    have h2:blk (Q41 (Z5 s2 c.bx) a2)=some b:=hb
    rw [hbv t T k n hz,e1] at h2
    have h2:b'=b:=Option.some.inj h2
    exact e6 (by rw [h2];exact h1)
   ·exact hne rfl
end
end Go.PE
set_option linter.unusedVariables false
set_option linter.unusedSimpArgs false
namespace Go.PE
section
variable {P:Program} {tab:Tab} {N:NN} {w0:World} {F:FF} {S:Nat→Prop} {β:Lab→Value} {st:St} {a:Act} {w:World}
def stB (c:Q1b) (s:St) (xs:List (List Int × Int)):St:=
 {slots:=(c.cs,.cv (.one (.pure (.sl c.eT (Q0q c.iT)) xs)))::(c.tB,.dead)::(c.tA,.dead)::s.slots,objs:=s.objs }
def Qft (xs:List (List Int × Int)):Bool:=Nat.ble xs.length 1073741824&&xs.all fun y=>Nat.ble y.1.length 1073741824
def Qcq (i:Int) (xs:List (List Int × Int)):Bool:=decide (0≤i)&&decide (i<(xs.length:Int))
noncomputable def Qe8 (Γ:Ctx) (τ:Tab) (fi:Fi) (n:Nat) (c:Q1b) (ops6:Array Oper) (tail:Code) (ps:List PK) (rs:List RK) (fn:Func) (d:c.tD.den) (xs:List (List Int × Int)) (s2:St):Option (RDs rs × ODs ps):=
 match Q9 s2.slots c.ix with
 | .cv (.one (.pure (.int .i64) i))=>bif Qcq i xs then
   Q1a Γ τ ops6.toList (ops6.toList.drop 5) [] (stC c d s2 xs (Int.toNat i)) fun s=>Xb Γ τ fi n tail { s with slots:=trim (Qdl fi c.id6) s.slots } fun e3 s3=>match e3 with
    | .normal=>Q46 τ ps rs fn s3
    | .ret=>Q46 τ ps rs fn s3
    | .exit _=>none
  else none
 | _=>none
noncomputable def Qfo (Γ:Ctx) (τ:Tab) (fi:Fi) (n:Nat) (c:Q1b) (r0:Code) (Bs:List Code) (ops6:Array Oper) (tail:Code) (ps:List PK) (rs:List RK) (fn:Func) (d:c.tD.den) (x:PDs ps):Option (RDs rs × ODs ps):=
 Xb Γ τ fi n r0 { slots:=Zl 0 ps x,objs:=Zk 0 0 ps x } fun e sA=>match e with
 | .normal=>(match Q9 sA.slots c.cs with
  | .cv (.one (.pure t xs'))=>(Zi t (.sl c.eT (Q0q c.iT)) xs').bind fun xs=>
    bif Qft xs then Qae Γ τ fi n Bs (stB c sA xs) fun e2 s2=>match e2 with
     | .ret=>Q46 τ ps rs fn s2
     | .normal=>Qe8 Γ τ fi n c ops6 tail ps rs fn d xs s2
     | .exit _=>none
    else none
  | _=>none)
 | _=>none
def Q2s:List PK→Bool
 | []=>true
 | .val _::r=>Q2s r
 | _=>false
theorem Qcl {τ:TypeId→Option Ty}:∀ {ps:List PK} {x:PDs ps} {vals:List Value} {B:List Nat},Q2s ps=true→X5 τ P S w ps x vals B→B=[]
 | [],x,vals,B,_,h=>h.2
 | p::r,x,vals,B,hv,h=>by
  obtain ⟨v,vr,B1,B2,rfl,rfl,h1,h2⟩:=h
  cases p<;>try (cases hv;done)
  obtain ⟨_,rfl⟩:=h1
  rw [Qcl (ps:=r) hv h2];rfl
theorem Q3c {a:Act}:∀ {ps:List PK} {vals:List Value} (i:Nat),Q2s ps=true→Q5p a i ps vals
 | [],vals,i,_=>trivial
 | p::r,vals,i,hv=>by
  cases p<;>try (cases hv;done)
  exact Q3c (ps:=r) (i+1) hv
theorem Q40:∀ {ps:List PK},Q2s ps=true→Jk ps=true
 | [],_=>rfl
 | p::r,hv=>by
  cases p<;>try (cases hv;done)
  exact Q40 (ps:=r) hv
theorem Qao {ps:List PK} (h:Q2s ps=true):Qc0 ps=true:=by
 cases ps with
 | nil=>rfl
 | cons p r=>cases p<;>first | (cases h;done) | exact Q40 h
theorem Q3p (c:Nat):∀ {ps:List PK} {x:PDs ps} (i:Nat),Q2s ps=true→Zk c i ps x=[]
 | [],x,i,_=>rfl
 | p::r,x,i,hv=>by
  cases p<;>try (cases hv;done)
  exact Q3p c (ps:=r) (x:=x.2) (i+1) hv
theorem Qch {o:List (Lab × Ob)} {p:Lab × Ob} (h:p∈o):∃ b,Q0 o p.1=some b:=by
 induction o with
 | nil=>cases h
 | cons q r ih=>
  obtain ⟨l,b⟩:=q
  rw [Q3]
  by_cases e:l=p.1
  ·rw [if_pos e];exact ⟨b,rfl⟩
  ·rw [if_neg e]
   rcases List.mem_cons.1 h with h | h
   ·subst h;exact absurd rfl e
   ·exact ih h
theorem Q16 {d t:Nat} {v:Value} (hd:d<a.tmps.size):(a.put (some d) v).tmps.getD t undef=if d=t then v else a.tmps.getD t undef:=Q30 hd
theorem Q03 {d:Option Nat} {v:Value}:(a.put d v).tmps.size=a.tmps.size:=by
 cases d<;>simp [Act.put]
theorem Q0p {d:Option Nat} {v:Value}:(a.put d v).defers=a.defers:=by cases d<;>rfl
structure Qhp (c:Q1b) (o1 o2 o3 p1 p2 p3 p4 p5:Oper):Prop where
 a1:o1.op=.move (.tmp c.cs)∧o1.dst=some c.tA∧o1.guard=none
 a2:o2.op=.call { callee:=.value (.func c.ft),args:=#[.tmp c.tA],argTypes:=#[c.Tcs] }∧o2.dst=some c.tB∧o2.guard=none
 a3:o3.op=.assign (.tmp c.tB)∧o3.dst=some c.cs∧o3.guard=none
 b1:p1.op=.move (.tmp c.cs)∧p1.dst=some c.q1∧p1.guard=none
 b2:p2.op=.move (.tmp c.ix)∧p2.dst=some c.q2∧p2.guard=none
 b3:p3.op=.indexAddr c.Tcs (.tmp c.q1) (.tmp c.q2)∧p3.dst=some c.q3∧p3.guard=none
 b4:p4.op=.fieldAddr c.eT (.tmp c.q3) 0∧p4.dst=some c.q4∧p4.guard=none
 b5:p5.op=.load c.Tsl (.tmp c.q4)∧p5.dst=some c.q5∧p5.guard=none
def Qeb (tab:Tab) (c:Q1b) (nt:Nat) (r0:Code) (Bs:List Code) (rest:List Oper) (tail:Code):Bool:=
 X6 nt [0] r0&&Bs.all (X6 nt [0,c.cs])&&rest.all (fun o=>match o.dst with | some d=>Nat.blt d nt | none=>true)&&X6 nt [] tail &&
 [c.cs,c.tA,c.tB,c.q1,c.q2,c.q3,c.q4,c.q5].all (fun t=>Nat.blt t nt&&Nat.blt 0 t)&&Q34 [c.cs,c.tA,c.tB]&&Q34 [c.q1,c.q2,c.q3,c.q4,c.q5] &&
 Q5m [c.q1,c.q2,c.q3,c.q4,c.q5] (c.cs::c.ix::(c.bx.toList++c.ks))&&!c.tD.isAgg &&
 (match tab.td c.Tcs with | some (.slc e)=>Nat.beq e c.eT | _=>false)&&(match tab.ty c.eT with | some t=>Ty.beq t (Q0q c.iT) | none=>false) &&
 (match Q3s tab c.eT 0 with | some f=>Nat.beq f.1 c.Tsl&&Nat.beq f.2 0 | none=>false)&&(match tab.ty c.Tsl with | some t=>Ty.beq t (.sl c.iT (.int .i64)) | none=>false)
theorem Q3f:∀ {l:List Nat},Q34 l=true→l.Nodup
 | [],_=>List.nodup_nil
 | t::r,h=>by
  simp only [Q34,Bool.and_eq_true,Bool.not_eq_true'] at h
  exact List.nodup_cons.2 ⟨(fun hm=>by rw [Q20.2 hm] at h;cases h.1),Q3f h.2⟩
theorem Qbh {l r:List Nat} (h:Q5m l r=true):∀ t∈l,t ∉ r:=fun t ht hr=>by
 have:=List.all_eq_true.1 h t ht
 rw [Q20.2 hr] at this;cases this
theorem Qiy {Γ:Ctx} (hm:P.follows .mixedOrders=true) (hΓ:J8 tab.ty P Γ) (hTab:Qc P tab) {c:Q1b} (htw:Qiq P tab.ty c.ft c.eT c.iT) {f:FuncId} {fn:Func} (hf:P.funcs[f]?=some fn) (hnm:(fn.name=="runtime.NumGoroutine")=false)
  {r0 tail:Code} {Bs:List Code} {id1:Nat} {ops1 ops6:Array Oper} {o1 o2 o3 p1 p2 p3 p4 p5:Oper} {rest:List Oper}
  (hb:fn.body=some (.seq r0 (.seq (.region id1 ops1 false) (Qiu Bs (.seq (.region c.id6 ops6 false) tail))))) (hops1:ops1.toList=[o1,o2,o3]) (hops6:ops6.toList=p1::p2::p3::p4::p5::rest)
  (ho:Qhp c o1 o2 o3 p1 p2 p3 p4 p5) (hc:Qeb tab c fn.ntmps r0 Bs rest tail=true) {pr:List PK} {rs:List RK} {fi:Fi} {n:Nat} (hv:Q2s pr=true)
  {G:PDs (.val c.tD::pr)→Option (RDs rs × ODs (.val c.tD::pr))} (hG:∀ x r,G x=some r→Qfo Γ tab fi n c r0 Bs ops6 tail (.val c.tD::pr) rs fn x.1 x=some r):Q4j tab.ty P f ⟨.val c.tD::pr,rs,G⟩:=by
 have hD:∀ N,Q79 P Γ tab N:=fun N=>Q7o hm hΓ hTab N
 have hav:Q2s (.val c.tD::pr)=true:=hv
 refine ⟨⟨fn,hf,hnm,by rw [hb];rfl⟩,fun w S x vals B r hlt hargs hnd hB hg=>?_⟩
 have hB0:=Qcl hav hargs
 subst hB0
 have he:=hG x r hg
 unfold Qfo at he
 unfold Qeb at hc
 simp only [Bool.and_eq_true,Bool.not_eq_true'] at hc
 obtain ⟨⟨⟨⟨⟨⟨⟨⟨⟨⟨⟨⟨k1,k2⟩,k3⟩,k4⟩,k5⟩,k6⟩,k7⟩,k8⟩,k9⟩,k10⟩,k11⟩,k12⟩,k13⟩:=hc
 have k5':∀ t∈[c.cs,c.tA,c.tB,c.q1,c.q2,c.q3,c.q4,c.q5],t<fn.ntmps∧0<t:=fun t ht=>by
  have:=List.all_eq_true.1 k5 t ht
  simp only [Bool.and_eq_true] at this
  exact ⟨Q2.1 this.1,Q2.1 this.2⟩
 have k6:=Q3f k6
 have k7:=Q3f k7
 have k8:=Qbh k8
 obtain ⟨lcs,pcs⟩:=k5' c.cs (by simp)
 obtain ⟨lA,pA⟩:=k5' c.tA (by simp)
 obtain ⟨lB,pB⟩:=k5' c.tB (by simp)
 obtain ⟨l1,z1⟩:=k5' c.q1 (by simp)
 obtain ⟨l2,z2⟩:=k5' c.q2 (by simp)
 obtain ⟨l3,z3⟩:=k5' c.q3 (by simp)
 obtain ⟨l4,z4⟩:=k5' c.q4 (by simp)
 obtain ⟨l5,z5⟩:=k5' c.q5 (by simp)
 have htd:tab.td c.Tcs=some (.slc c.eT):=by
  split at k10
  ·rename_i e he;rw [he,Nat.eq_of_beq_eq_true k10]
  ·cases k10
 have hte:tab.ty c.eT=some (Q0q c.iT):=by
  split at k11
  ·rename_i t he;rw [he,Ty.eq_of_beq k11]
  ·cases k11
 have hfo:Q3s tab c.eT 0=some (c.Tsl,0):=by
  split at k12
  ·rename_i q he
   simp only [Bool.and_eq_true] at k12
   obtain ⟨q1,q2⟩:=q
   rw [he]
   have e1:=Nat.eq_of_beq_eq_true k12.1
   have e2:=Nat.eq_of_beq_eq_true k12.2
   simp only at e1 e2
   rw [e1,e2]
  ·cases k12
 have hts:tab.ty c.Tsl=some (.sl c.iT (.int .i64)):=by
  split at k13
  ·rename_i t he;rw [he,Ty.eq_of_beq k13]
  ·cases k13
 refine calls_of_wp hf hb ?_
 obtain ⟨vd,vr,B1,B2,rfl,hBB,⟨hvd,rfl⟩,hrest⟩:=id hargs
 have hrd:Rep tab.ty S w c.tD x.1 [vd]:=by
  rcases hvd with ⟨h,_⟩ | ⟨_,h⟩
  ·rw [k9] at h;cases h
  ·exact h
 obtain ⟨sz,hsz⟩:∃ sz,sz=((vd::vr).toArray++Array.replicate (fn.ntmps - (vd::vr).toArray.size) undef).size:=⟨_,rfl⟩
 have hszn:fn.ntmps≤sz:=by rw [hsz];simp;omega
 have htm:∀ t,((vd::vr).toArray++Array.replicate (fn.ntmps - (vd::vr).toArray.size) undef).getD t undef=(vd::vr).getD t undef:=by
  intro t
  rw [Array.getD_eq_getD_getElem?,List.getD_eq_getElem?_getD,Array.getElem?_append]
  split
  ·simp
  ·rename_i hge
   rw [List.getElem?_eq_none (by simpa using hge)]
   rw [Array.getElem?_replicate]
   split<;>rfl
 obtain ⟨β0,h0⟩:=Q9a (P:=P) (tab:=tab) (N:=(sz,[(0,vd)])) hlt hargs hnd hB (Qao hav) (by rw [Q3p _ 0 hav];rfl)
  {tmps:=(vd::vr).toArray++Array.replicate (fn.ntmps - (vd::vr).toArray.size) undef,defers:=[] } rfl (fun t _=>htm t) hsz.symm (fun p hp=>by
   have:=List.mem_singleton.1 hp;subst this;rw [htm];rfl)
 have hob0:Zk (Q2o (.val c.tD::pr) (vd::vr)) 0 (.val c.tD::pr) x=Zk 0 0 (.val c.tD::pr) x:=by rw [Q3p _ 0 hav,Q3p _ 0 hav]
 rw [hob0] at h0
 refine wp_seq (Q0i (n0:=fn.ntmps) (N:=(sz,[(0,vd)])) hszn hΓ hTab (hD _) k1 h0 he (fun e a1 w1 S1 β1 sA hS1 hA hk=>?_))
 cases e with
 | exit j=>cases hk
 | ret=>cases hk
 | normal=>
 simp only at hk
 have hvdA:a1.tmps.getD 0 undef=vd:=hA.par (0,vd) (by simp)
 have hcsl:=hA.slots c.cs
 split at hk
 case h_2=>cases hk
 case h_1 t xs' hsl=>
 obtain ⟨xs,hcx,hk⟩:=Option.bind_eq_some_iff.1 hk
 obtain ⟨e1,e2⟩:=Z1 hcx
 subst e1
 have e2:xs'=xs:=e2
 subst e2
 rw [hsl] at hcsl
 have hcsl:Rep tab.ty S1 w1 (.sl c.eT (Q0q c.iT)) xs' [a1.tmps.getD c.cs undef]:=hcsl
 obtain ⟨xs,hxs⟩:∃ xs:List (List Int × Int),xs=xs':=⟨xs',rfl⟩
 subst hxs
 cases hbig:Qft xs with
 | false=>rw [hbig] at hk;cases hk
 | true=>
 rw [hbig] at hk
 simp only [cond_true] at hk
 simp only [Qft,Bool.and_eq_true,List.all_eq_true] at hbig
 have hsz1:a1.tmps.size=sz:=hA.size
 show (Code.seq (Code.region id1 ops1 false) _).wp P _ a1 w1
 refine wp_seq (wp_region_list ?_)
 rw [hops1]
 refine Q3k (.inl ho.a1.1) ho.a1.2.2 ?_
 rw [ho.a1.2.1]
 have hlA:c.tA<a1.tmps.size:=by omega
 have hlB:c.tB<a1.tmps.size:=by omega
 have hlC:c.cs<a1.tmps.size:=by omega
 refine Qf3 ho.a2.1 ho.a2.2.2 htw.1 (R:=fun v' w'=>∃ cells B,w'.ownsRow 0 c.eT 2 v' xs.length cells∧Xs tab.ty c.iT w' xs cells B∧((blk v').toList++B).Nodup∧(∀ j∈(blk v').toList++B,w1.heap.size≤j∧j<w'.heap.size)∧Fr (fun _=>False) w1 w') ?_ ?_
 ·have e3:(a1.put (some c.tA) (a1.eval (.tmp c.cs))).eval (.tmp c.tA)=a1.tmps.getD c.cs undef:=by
   show (a1.put (some c.tA) _).tmps.getD c.tA undef=_
   rw [Q16 hlA,if_pos rfl];rfl
  rw [e3]
  refine (htw.2 w1 S1 xs _ hA.sb hcsl (Q2.1 hbig.1) (fun y hy=>Q2.1 (hbig.2 y hy))).mono ?_
  rintro ex w' ⟨v',cells,B,rfl,g1,g2,g3,g4,g5⟩
  exact ⟨v',rfl,cells,B,g1,g2,g3,g4,g5⟩
 rintro v1 w2 ⟨cells,Bt,hown,htc,hnd2,hbd,hfr2⟩
 refine Q3k (.inr ho.a3.1) ho.a3.2.2 ?_
 rw [ho.a2.2.1,ho.a3.2.1]
 have hnA:c.cs≠c.tA∧c.cs≠c.tB∧c.tA≠c.tB:=by
  simp at k6;exact ⟨k6.1.1,k6.1.2,k6.2⟩
 obtain ⟨aB,haB⟩:∃ aB:Act,aB=((a1.put (some c.tA) (a1.eval (.tmp c.cs))).put (some c.tB) v1).put (some c.cs) (((a1.put (some c.tA) (a1.eval (.tmp c.cs))).put (some c.tB) v1).eval (.tmp c.tB)):=⟨_,rfl⟩
 have hev:((a1.put (some c.tA) (a1.eval (.tmp c.cs))).put (some c.tB) v1).eval (.tmp c.tB)=v1:=by
  show ((a1.put (some c.tA) (a1.eval (.tmp c.cs))).put (some c.tB) v1).tmps.getD c.tB undef=v1
  rw [Q16 (by rw [Q03];exact hlB),if_pos rfl]
 rw [← haB]
 rw [hev] at haB
 obtain ⟨SB,hSB⟩:∃ SB:Nat→Prop,SB=fun q=>S1 q∨(w1.heap.size≤q∧q<w2.heap.size):=⟨_,rfl⟩
 have hG1:=hA.grow (S':=SB) (w':=w2) hfr2 (fun k hk=>by rw [hSB];exact .inl hk) (fun k hk=>by rw [hSB] at hk;exact hk.imp id (fun h=>h.1)) (fun k hk=>by
  rw [hSB] at hk
  rcases hk with h | h
  ·have:=hA.sb k h;have:=hfr2.size;omega
  ·exact h.2)
 have ok:∀ t,t<fn.ntmps→0<t→∀ e,some t=some e→okD (sz,[(0,vd)]) e:=fun t h1 h2 e he=>by
  have:=Option.some.inj he;subst this
  exact ⟨by show t<sz;omega,fun p hp=>by have:=List.mem_singleton.1 hp;subst this;show (0:Nat)≠t;omega⟩
 have hG2:=((hG1.put (d:=some c.tA) (v:=.dead) (x:=a1.eval (.tmp c.cs)) (ok _ lA pA) trivial).put (d:=some c.tB) (v:=.dead) (x:=v1) (ok _ lB pB) trivial).put (d:=some c.cs) (v:=.cv (.one (.pure (.sl c.eT (Q0q c.iT)) xs))) (x:=v1) (ok _ lcs pcs) (by
  have hrows:=htc.rows (S':=SB) (fun j hj=>by rw [hSB];exact .inr (hbd j (List.mem_append.2 (.inr hj)))) (fun j hj=>(hbd j (List.mem_append.2 (.inr hj))).2)
  exact Q6z (S:=SB) (e:=Q0q c.iT) (B:=(blk v1).toList) ⟨Nat.zero_lt_succ _,⟨cells,hown,hrows⟩,rfl⟩ (fun _ h=>h) (fun j hj=>by rw [hSB];exact .inr (hbd j (List.mem_append.2 (.inl hj)))) (fun j hj=>(hbd j (List.mem_append.2 (.inl hj))).2))
 rw [← haB] at hG2
 have hcsB:aB.tmps.getD c.cs undef=v1:=by
  rw [haB,Q16 (by rw [Q03,Q03];exact hlC),if_pos rfl]
 have hvdB:aB.tmps.getD 0 undef=vd:=hG2.par (0,vd) (by simp)
 have hRB:Rel P tab.ty (sz,[(0,vd),(c.cs,v1)]) w2 (fun k=>k∈Qhl β1 (stB c sA xs),SB) SB β1 (stB c sA xs) aB w2:=hG2.rebase (N':=(sz,[(0,vd),(c.cs,v1)])) rfl (fun p hp=>by
  rcases List.mem_cons.1 hp with rfl | hp
  ·exact hvdB
  ·have:=List.mem_singleton.1 hp;subst this;exact hcsB)
 have hwo:∀ k∈Qhl β1 (stB c sA xs),w.heap.size≤k∧k<w1.heap.size:=fun k hk=>by
  obtain ⟨p,hp,hpk⟩:=List.mem_flatMap.1 hk
  obtain ⟨ob,hob⟩:=Qch hp
  have:=hA.excl p.1 ob hob k (by simpa using hpk)
  exact ⟨this.2.1.elim id (fun h=>by cases h),this.2.2⟩
 have hS1w:∀ k,S1 k→S k∨w.heap.size≤k:=fun k hk=>(hA.within k hk).elim .inl (fun h=>h.elim .inr (fun h=>by cases h))
 have fww2:Fr (fun _=>False) w w2:=(hA.fr.mono (fun _ h=>by cases h)).trans hfr2
 have hwB:∀ k,SB k→S k∨w.heap.size≤k:=fun k hk=>by
  rw [hSB] at hk
  exact hk.elim (hS1w k) (fun h=>.inr (Nat.le_trans hA.fr.size h.1))
 refine Q62 (n0:=fn.ntmps) (N:=(sz,[(0,vd),(c.cs,v1)])) hszn hΓ hTab (hD _) k2 hRB hk (fun e a' w' S' β' s hne hS h' hk=>?_) (fun a3 w3 S3 β3 s3 hS3 h3 hk=>?_)
 ·cases e with
  | normal=>exact absurd rfl hne
  | exit j=>cases hk
  | ret=>
   exact ⟨h'.nodef,Q4t (R:=Q44 tab w S (vd::vr) [] r) hTab h' hS hk (Q3c 0 hav) (fun vs S1' B1 B2 g1 g2 g3 g4 g5 g6 g7=>
    Q44.conv (w1:=w2) (SB:=SB) (B:=Qhl β1 (stB c sA xs)) ⟨vs,S1',B1,B2,rfl,g1,g2,g3,g4,g5,g6,g7⟩ (fun k hk=>(hwo k hk).1) (fun k hk=>by rw [hSB];exact .inl (hS1 k hk)) hwB fww2)⟩
 simp only at hk
 unfold Qe8 at hk
 split at hk
 case h_2=>cases hk
 case h_1 i hix=>
 obtain ⟨i,rfl⟩:∃ j:Int,j=i:=⟨i,rfl⟩
 cases hq:Qcq i xs with
 | false=>rw [hq] at hk;cases hk
 | true=>
 rw [hq] at hk
 simp only [cond_true] at hk
 simp only [Qcq,Bool.and_eq_true,decide_eq_true_eq] at hq
 have hp:Int.toNat i<xs.length:=by omega
 obtain ⟨g,cp,cur,hd',β4,S4,BC,hv1,hgh,hcur,hBC,hS4,hS4w,fww3,hRC⟩:=Qhy (c:=c) hlt hrd h3 fww2 (fun k hk=>⟨(hwo k hk).1,fun hm=>by have:=(hbd k hm).1;have:=(hwo k hk).2;omega⟩) hown htc hnd2 (fun j hj=>⟨Nat.le_trans hA.fr.size (hbd j hj).1,(hbd j hj).2⟩) hp
 have hsz3:a3.tmps.size=sz:=h3.size
 have hvd3:a3.tmps.getD 0 undef=vd:=h3.par (0,vd) (by simp)
 have hcs3:a3.tmps.getD c.cs undef=v1:=h3.par (c.cs,v1) (by simp)
 have hix3:a3.tmps.getD c.ix undef=.int .i64 i:=by
  have:=h3.slots c.ix
  rw [hix] at this
  exact List.singleton_inj.1 this
 refine wp_seq (wp_region_list ?_)
 rw [hops6]
 have n7:c.q1≠c.q2∧c.q1≠c.q3∧c.q1≠c.q4∧c.q1≠c.q5∧c.q2≠c.q3∧c.q2≠c.q4∧c.q2≠c.q5∧c.q3≠c.q4∧c.q3≠c.q5∧c.q4≠c.q5:=by
  simp at k7
  obtain ⟨⟨x1,x2,x3,x4⟩,⟨x5,x6,x7⟩,⟨x8,x9⟩,x10⟩:=k7
  exact ⟨x1,x2,x3,x4,x5,x6,x7,x8,x9,x10⟩
 obtain ⟨n12,n13,n14,n15,n23,n24,n25,n34,n35,n45⟩:=n7
 have ap1:=k8 c.q1 (by simp)
 have ap2:=k8 c.q2 (by simp)
 have ap3:=k8 c.q3 (by simp)
 have ap4:=k8 c.q4 (by simp)
 have ap5:=k8 c.q5 (by simp)
 refine Q3k (.inl ho.b1.1) ho.b1.2.2 ?_
 rw [ho.b1.2.1]
 have E1:a3.eval (.tmp c.cs)=v1:=hcs3
 rw [E1]
 obtain ⟨b1,hb1⟩:∃ b1:Act,b1=a3.put (some c.q1) v1:=⟨_,rfl⟩
 rw [← hb1]
 have s1:b1.tmps.size=sz:=by rw [hb1,Q03];exact hsz3
 have G1:∀ t,b1.tmps.getD t undef=if c.q1=t then v1 else a3.tmps.getD t undef:=fun t=>by rw [hb1];exact Q16 (by omega)
 refine Q3k (.inl ho.b2.1) ho.b2.2.2 ?_
 rw [ho.b2.2.1]
 have E2:b1.eval (.tmp c.ix)=.int .i64 i:=by
  show b1.tmps.getD c.ix undef=_
  rw [G1,if_neg (fun e=>ap1 (by simp [e])),hix3]
 rw [E2]
 obtain ⟨b2,hb2⟩:∃ b2:Act,b2=b1.put (some c.q2) (.int .i64 i):=⟨_,rfl⟩
 rw [← hb2]
 have s2:b2.tmps.size=sz:=by rw [hb2,Q03];exact s1
 have G2:∀ t,b2.tmps.getD t undef=if c.q2=t then .int .i64 i else b1.tmps.getD t undef:=fun t=>by rw [hb2];exact Q16 (by omega)
 have hu:P.underlying c.Tcs=some (.slice c.eT):=hTab.td _ _ htd
 have hTe:=hTab.ty _ _ hte
 refine Q4p (x:=.pointer (some ⟨g,0+(Int.toNat i)*(Q0q c.iT).cells,none⟩)) (X9 ho.b3.1 hu hTe (b:=g) (off:=0) (n:=xs.length) (cap:=cp) (k:=.i64) (i:=i) ?_ ?_ hq.1 hq.2) ho.b3.2.2 ?_
 ·show b2.tmps.getD c.q1 undef=_
  rw [G2,if_neg (fun e=>n12 e.symm),G1,if_pos rfl,hv1]
 ·show b2.tmps.getD c.q2 undef=_
  rw [G2,if_pos rfl]
 rw [ho.b3.2.1]
 obtain ⟨b3,hb3⟩:∃ b3:Act,b3=b2.put (some c.q3) (.pointer (some ⟨g,0+(Int.toNat i)*(Q0q c.iT).cells,none⟩)):=⟨_,rfl⟩
 rw [← hb3]
 have s3':b3.tmps.size=sz:=by rw [hb3,Q03];exact s2
 have G3:∀ t,b3.tmps.getD t undef=if c.q3=t then .pointer (some ⟨g,0+(Int.toNat i)*(Q0q c.iT).cells,none⟩) else b2.tmps.getD t undef:=fun t=>by rw [hb3];exact Q16 (by omega)
 obtain ⟨gs,gf,hus,hgf,hgt,hgo⟩:=Q7c hTab hfo
 have hTs:=hTab.ty _ _ hts
 refine Q4p (x:=.pointer (some ⟨g,(0+(Int.toNat i)*(Q0q c.iT).cells)+gf.offset,none⟩)) (Jx ho.b4.1 hus hgf (t:=.sl c.iT (.int .i64)) (by rw [hgt];exact hTs) Nat.one_ne_zero (b:=g) ?_) ho.b4.2.2 ?_
 ·show b3.tmps.getD c.q3 undef=_
  rw [G3,if_pos rfl]
 rw [ho.b4.2.1]
 obtain ⟨b4,hb4⟩:∃ b4:Act,b4=b3.put (some c.q4) (.pointer (some ⟨g,(0+(Int.toNat i)*(Q0q c.iT).cells)+gf.offset,none⟩)):=⟨_,rfl⟩
 rw [← hb4]
 have s4:b4.tmps.size=sz:=by rw [hb4,Q03];exact s3'
 have G4:∀ t,b4.tmps.getD t undef=if c.q4=t then .pointer (some ⟨g,(0+(Int.toNat i)*(Q0q c.iT).cells)+gf.offset,none⟩) else b3.tmps.getD t undef:=fun t=>by rw [hb4];exact Q16 (by omega)
 have hoff:(0+(Int.toNat i)*(Q0q c.iT).cells)+gf.offset=Int.toNat i*2:=by
  rw [hgo,Nat.zero_add];rfl
 refine Q4p (x:=Xd (.sl c.iT (.int .i64)) [hd']) (Qaq ho.b5.1 hTs (b:=g) (off:=Int.toNat i*2) (cs:=[hd']) ?_ rfl (fun j hj=>?_)) ho.b5.2.2 ?_
 ·show b4.tmps.getD c.q4 undef=_
  rw [G4,if_pos rfl,hoff]
 ·have hj:j<1:=hj
  have hj0:j=0:=by omega
  subst hj0
  simp [World.cell?,hgh,hcur]
 rw [ho.b5.2.1]
 have hof:Xd (.sl c.iT (.int .i64)) [hd']=hd':=rfl
 rw [hof]
 obtain ⟨b5,hb5⟩:∃ b5:Act,b5=b4.put (some c.q5) hd':=⟨_,rfl⟩
 rw [← hb5]
 have s5:b5.tmps.size=sz:=by rw [hb5,Q03];exact s4
 have G5:∀ t,b5.tmps.getD t undef=if c.q5=t then hd' else b4.tmps.getD t undef:=fun t=>by rw [hb5];exact Q16 (by omega)
 have keep:∀ t,t≠c.q1→t≠c.q2→t≠c.q3→t≠c.q4→t≠c.q5→b5.tmps.getD t undef=a3.tmps.getD t undef:=fun t e1 e2 e3 e4 e5=>by
  rw [G5,if_neg (fun e=>e5 e.symm),G4,if_neg (fun e=>e4 e.symm),G3,if_neg (fun e=>e3 e.symm),G2,if_neg (fun e=>e2 e.symm),G1,if_neg (fun e=>e1 e.symm)]
 have keepm:∀ t∈c.cs::c.ix::(c.bx.toList++c.ks),b5.tmps.getD t undef=a3.tmps.getD t undef:=fun t ht=>
  keep t (fun e=>ap1 (by rw [← e];exact ht)) (fun e=>ap2 (by rw [← e];exact ht)) (fun e=>ap3 (by rw [← e];exact ht)) (fun e=>ap4 (by rw [← e];exact ht)) (fun e=>ap5 (by rw [← e];exact ht))
 have hd5:b5.defers=[]:=by rw [hb5,Q0p,hb4,Q0p,hb3,Q0p,hb2,Q0p,hb1,Q0p];exact h3.nodef
 have hrel:=hRC b5 (sz,[]) hd5 s5 rfl (by rw [keepm c.cs (by simp)];exact hcs3) (by rw [G5,if_pos rfl]) (by rw [keep 0 (by omega) (by omega) (by omega) (by omega) (by omega)];exact hvd3)
  (fun t ht=>keepm t (by simp [ht])) (fun z hz=>keepm z.1 (by
   have:c.bx=some z.1:=by
    unfold Z5 at hz
    split at hz
    ·cases hz
    ·rename_i t' hbx
     split at hz
     ·split at hz
      ·have:=Option.some.inj hz;rw [← this]
       first | assumption | rfl
      ·cases hz
     ·cases hz
   simp [this]))
 have hdrop:ops6.toList.drop 5=rest:=by rw [hops6];rfl
 rw [hdrop] at hk
 refine Q17 (N:=(sz,[])) hΓ hTab (fun o ho' d hd=>⟨?_,fun p hp=>by cases hp⟩) (fun t b ht=>by cases ht) hrel hk (fun a6 w6 S6 β6 s6 hS6 h6 hk=>?_)
 ·have:=List.all_eq_true.1 k3 o ho'
  rw [hd] at this
  exact Nat.lt_of_lt_of_le (Q2.1 this) hszn
 refine Q0i (n0:=fn.ntmps) (N:=(sz,[])) hszn hΓ hTab (hD _) k4 (h6.trim _) hk (fun e a' w' S' β' s hS h' hk=>?_)
 have fin:Q46 tab (.val c.tD::pr) rs fn s=some r→∃ v,(results fn a'.tmps).run P w'=.ok v w'∧Q44 tab w S (vd::vr) [] r (.returned v) w':=fun hk=>
  Q4t (R:=Q44 tab w S (vd::vr) [] r) hTab h' (fun k hk=>hS k (hS6 k hk)) hk (Q3c 0 hav) (fun vs S1' B1 B2 g1 g2 g3 g4 g5 g6 g7=>
   Q44.conv (w1:=w3) (SB:=S4) (B:=BC) ⟨vs,S1',B1,B2,rfl,g1,g2,g3,g4,g5,g6,g7⟩ hBC hS4 hS4w fww3)
 cases e with
 | normal=>exact ⟨h'.nodef,fin hk⟩
 | ret=>exact ⟨h'.nodef,fin hk⟩
 | exit j=>cases hk
end
def Qjw:Code→Code
 | .seq a _=>a
 | c=>c
def Qjx:Code→Code
 | .seq _ b=>b
 | c=>c
def Qjm:Code→List Oper
 | .region _ o _=>o.toList
 | _=>[]
def Qji:Code→Array Oper
 | .region _ o _=>o
 | _=>#[]
def Qjv (l:List Oper) (i:Nat):Oper:=match l[i]? with
 | some o=>o
 | none=>{ dst:=none,op:=.move (.tmp 0),type:=0,pos:="",after:=#[],guard:=none }
def Qjo (fn:Func):Code:=match fn.body with
 | some c=>c
 | none=>.skip
end Go.PE
set_option linter.unusedVariables false
namespace Go.PE
class EqB (α:Type) where
 eqb:α→α→Bool
 ok:∀ {a b:α},eqb a b=true→a=b
def Qj5:Int→Int→Bool
 | .ofNat m,.ofNat n=>Nat.beq m n
 | .negSucc m,.negSucc n=>Nat.beq m n
 | _,_=>false
instance:EqB Int:=⟨Qj5,fun {a b} h=>by
 cases a<;>cases b<;>first | (cases h;done) | (rw [Nat.eq_of_beq_eq_true h])⟩
instance:EqB Bool:=⟨fun a b=>bif a then b else !b,fun {a b} h=>by cases a<;>cases b<;>first | rfl | cases h⟩
instance:EqB Unit:=⟨fun _ _=>true,fun _=>rfl⟩
def eqL {α:Type} [EqB α]:List α→List α→Bool
 | [],[]=>true
 | x::q,y::r=>EqB.eqb x y&&eqL q r
 | _,_=>false
theorem Qdk {α:Type} [EqB α]:∀ {a b:List α},eqL a b=true→a=b
 | [],[],_=>rfl
 | [],_::_,h=>by cases h
 | _::_,[],h=>by cases h
 | x::q,y::r,h=>by
  simp only [eqL,Bool.and_eq_true] at h
  rw [EqB.ok h.1,Qdk h.2]
instance {α:Type} [EqB α]:EqB (List α):=⟨eqL,Qdk⟩
instance:EqB UInt8:=⟨fun a b=>Nat.beq a.toNat b.toNat,fun h=>UInt8.toNat_inj.1 (Nat.eq_of_beq_eq_true h)⟩
instance:EqB ByteArray:=⟨fun a b=>eqL a.data.toList b.data.toList,fun {a b} h=>by
 have:=Qdk h
 cases a with | mk a=>cases b with | mk b=>congr;exact Array.ext' this⟩
instance {α β:Type} [EqB α] [EqB β]:EqB (α × β):=⟨fun a b=>EqB.eqb a.1 b.1&&EqB.eqb a.2 b.2,fun {a b} h=>by
 simp only [Bool.and_eq_true] at h
 exact Prod.ext (EqB.ok h.1) (EqB.ok h.2)⟩
def Qie {α β:Type} [EqB α]:List (α × β)→α→Option β
 | [],_=>none
 | p::q,x=>bif EqB.eqb p.1 x then some p.2 else Qie q x
def Qi8 {α β:Type} (G:α→Option β):List (α × β)→Prop
 | []=>True
 | p::q=>G p.1=some p.2∧Qi8 G q
theorem Qhb {α β:Type} [EqB α] {G:α→Option β}:∀ {t:List (α × β)},Qi8 G t→∀ x r,Qie t x=some r→G x=some r
 | [],_,x,r,h=>by cases h
 | p::q,ht,x,r,h=>by
  unfold Qie at h
  cases he:EqB.eqb p.1 x with
  | true=>
   rw [he] at h
   have h:=Option.some.inj h
   rw [← EqB.ok he,← h];exact ht.1
  | false=>
   rw [he] at h
   exact Qhb ht.2 x r h
theorem Q4j.weaken {τ:TypeId→Option Ty} {P:Program} {f:FuncId} {ps:List PK} {rs:List RK} {G G':PDs ps→Option (RDs rs × ODs ps)} (h:Q4j τ P f ⟨ps,rs,G⟩) (hg:∀ x r,G' x=some r→G x=some r):Q4j τ P f ⟨ps,rs,G'⟩:=
 ⟨h.1,fun w S x vals B r a b c d e=>h.2 w S x vals B r a b c d (hg x r e)⟩
end Go.PE
set_option linter.unusedVariables false
namespace Go.PE
def Qi9 (m f:Nat):Bool:=Nat.beq (Nat.land 1 (Nat.shiftRight m f)) 1
def Q4g (leads:Nat→List Nat):Nat→List Nat→List Nat→Nat→List Nat
 | 0,_,seen,_=>seen.reverse
 | _+1,[],seen,_=>seen.reverse
 | n+1,f::todo,seen,m=>bif Qi9 m f then Q4g leads n todo seen m else Q4g leads n (leads f++todo) (f::seen) (Nat.lor m (Nat.shiftLeft 1 f))
theorem Qgk (m f:Nat):Qi9 m f=m.testBit f:=by
 show Nat.beq (1 &&& (m >>> f)) 1=(1 &&& (m >>> f) != 0)
 have:(1 &&& (m >>> f))=0∨(1 &&& (m >>> f))=1:=by
  rw [Nat.one_and_eq_mod_two];omega
 rcases this with e | e<;>rw [e]<;>rfl
theorem Q06 (P:Program):∀ (n:Nat) (todo seen:List Nat) (m:Nat),(∀ g,seen.contains g=m.testBit g)→P.closureVia n todo seen=Q4g (fun f=>(P.funcs[f]?).elim [] P.leadsTo) n todo seen m
 | 0,todo,seen,m,_=>by unfold Program.closureVia Q4g;rfl
 | n+1,[],seen,m,_=>by unfold Program.closureVia Q4g;rfl
 | n+1,f::todo,seen,m,h=>by
  unfold Program.closureVia Q4g
  rw [Qgk,← h f]
  cases hc:seen.contains f with
  | true=>rw [if_pos rfl];exact Q06 P n todo seen m h
  | false=>
   rw [if_neg (by simp)]
   refine Q06 P n _ (f::seen) _ (fun g=>?_)
   show (f::seen).contains g=(m ||| (1 <<< f)).testBit g
   rw [Nat.testBit_or,← h g,List.contains_cons,Nat.one_shiftLeft,Nat.testBit_two_pow,Bool.or_comm]
   by_cases e:g=f
   ·subst e;simp
   ·have e':¬ f=g:=fun h=>e h.symm
    simp [e,e']
theorem Qhx (P:Program) (f:Nat):P.closure f=Q4g (fun f=>(P.funcs[f]?).elim [] P.leadsTo) (1+(P.funcs.toList.map fun g=>(P.leadsTo g).length+1).sum) [f] [] 0:=by
 unfold Program.closure
 exact Q06 P _ _ _ _ (fun g=>by simp)
end Go.PE
set_option linter.unusedVariables false
namespace Go.PE
open Go.ChangeShapes
def Q7e (P:Program) (L:List FuncId):List String:=
 L.filterMap fun g=>(P.funcs[g]?).bind fun fn=>if fn.ours||fn.body.isNone||fn.name=="runtime.NumGoroutine" then some fn.name else none
def Q2x (P:Program) (L:List FuncId):Bool:=
 L.any fun g=>(P.funcs[g]?).any fun fn=>match fn.body with | some c=>c.unfollowed | none=>entryCalls fn
def Q4r (P:Program) (L:List FuncId):List String:=
 (((L.flatMap fun g=>((P.funcs[g]?).bind (·.body)).elim [] Code.globalsNamed).eraseDups).filterMap (fun g=>(P.globals[g]?).map (·.name)) ++
  L.filterMap fun g=>(P.funcs[g]?).bind fun fn=>if fn.body.isNone then entryReads.lookup fn.name else none).eraseDups
theorem Qfk {P:Program} {f:FuncId} {L:List FuncId} (h:P.closure f=L):P.inPlace f=Q7e P L:=by unfold Program.inPlace Q7e;rw [h]
theorem Qaa {P:Program} {f:FuncId} {L:List FuncId} (h:P.closure f=L):P.unfollowed f=Q2x P L:=by unfold Program.unfollowed Q2x;rw [h];rfl
theorem Qc9 {P:Program} {f:FuncId} {L:List FuncId} (h:P.closure f=L):P.varsNamed f=Q4r P L:=by unfold Program.varsNamed Q4r;rw [h]
theorem Qd3 {P:Program} {f:FuncId} (h:P.unfollowed f=true):P.recurses f=true:=by unfold Program.recurses;rw [h];rfl
def Q6y (P:Program) (fn:Func) (s:ChangeSpec) (c:OpenClaim):Bool:=
 fn.params.all (P.readableRec ·)&&namedTie P c.named s.vars &&
 (c.stops==[])&&(c.knobs==[]) &&
 (c.maps==(fn.params.toList++s.plain.varTypes P).any (P.mapsRec ·))&&(c.ifaces==(fn.params.toList++s.plain.varTypes P).any (P.ifacesRec ·))&&(c.mapsOut==P.mapsAmong fn.resultTypes.toList) &&
 (c.loops==(fn.params.toList++s.plain.varTypes P).any (P.loopsFrom ·))&&(c.wideKeys==(fn.params.toList++s.plain.varTypes P++fn.resultTypes.toList).any (P.wideKeysFrom ·)) &&
 s.vars.all (P.varReadable ·)&&fn.resultTypes.all (fun t=>P.readableRec t&&decide (t<P.types.size))&&(c.ifacesOut==fn.resultTypes.toList.any (P.ifacesRec ·))&&(c.loopsOut==fn.resultTypes.toList.any (P.loopsFrom ·))&&c.shortTexts.isNone&&(c.kinds==(if c.domain.isEmpty then [] else fn.params.toList.map fun t=>match P.underlying t with | some (.int k)=>some k | _=>none))&&(c.pinned==c.pinnedBy) &&
 (c.veiled==(fn.params.toList++s.plain.varTypes P++fn.resultTypes.toList).any (P.veiledRec ·))&&c.veiledFits P fn.params.toList (fn.params.toList++s.plain.varTypes P++fn.resultTypes.toList)
theorem Qj2 {P:Program} {f:FuncId} {fn:Func} {s:ChangeSpec} {c:OpenClaim} {L:List FuncId} (h:P.closure f=L)
  (hwf:c.wf (OpenSpec.ofChange s)=true) (hlaid:laidOutB P=true) (hrow:mapsRowed P=true) (hstops:P.stops=[]) (hknobs:P.stopKnobs=[])
  (hin:Q7e P L=c.inPlace) (hun:Q2x P L=true) (hun2:c.unfollowed=true) (hre:c.recurses=true) (hvar:Q4r P L=c.named)
  (hkeys:P.plainKeys=c.plainKeys) (hheard:P.stopsHeard=true) (hent:P.mayEnter=true) (hfin:P.liftsFinal=c.lifted) (hmake:P.make=some c.make)
  (hrest:Q6y P fn s c=true):joinedFacts P f fn s c=true:=by
 unfold Q6y at hrest
 simp only [Bool.and_eq_true] at hrest
 obtain ⟨⟨⟨⟨⟨⟨⟨⟨⟨⟨⟨⟨⟨⟨⟨⟨⟨r1,r2⟩,r3⟩,r4⟩,r5⟩,r6⟩,r7⟩,r8⟩,r9⟩,r10⟩,r11⟩,r12⟩,r13⟩,r14⟩,r15⟩,r16⟩,r17⟩,r18⟩:=hrest
 have hu:=(Qaa h).trans hun
 unfold joinedFacts
 rw [Qfk h,hu,Qd3 hu,Qc9 h,hin,hvar,hun2,hre,hwf,hlaid,hrow,hstops,hknobs,hkeys,hheard,hent,hfin,hmake,r1,r2,r3,r4,r5,r6,r7,r8,r9,r10,r11,r12,r13,r14,r16,r17,r18]
 simp only [Bool.and_true,Bool.true_and,beq_self_eq_true]
 exact r15
end Go.PE
set_option linter.unusedVariables false
set_option linter.unusedSimpArgs false
set_option maxRecDepth 100000
namespace Go.PE
def Qet {α:Type} (z:α) (c:Nat) (s_0:List α) (i_1:Int) (v_2:List α):Option (((List α) × Unit) × Unit):=
 bif (decide (0≤i_1)&&decide (i_1≤((s_0.length:Nat):Int)))&&decide (((s_0.length:Nat):Int)≤((((List.map some s_0++List.replicate c none).length) - 0:Nat):Int)) then
 bif (v_2.length:Int)==0 then
  bif Nat.ble s_0.length ((List.map some s_0++List.replicate c none).length) then
  Option.bind (Qd (List.take s_0.length (List.map some s_0++List.replicate c none))) fun (z1:List α)=>
  some ((z1,()),())
  else none
 else
 bif i_1==((s_0.length:Nat):Int) then
  bif Nat.ble (0+s_0.length) ((List.map some s_0++List.replicate c none).length) then
  bif Nat.ble (s_0.length+v_2.length) ((List.map some s_0++List.replicate c none).length) then
   bif Nat.ble (s_0.length+v_2.length) ((Q6 (List.map some s_0++List.replicate c none) s_0.length v_2).length) then
   Option.bind (Qd (List.take (s_0.length+v_2.length) (Q6 (List.map some s_0++List.replicate c none) s_0.length v_2))) fun (z2:List α)=>
   some ((z2,()),())
   else none
  else
  bif Nat.ble (s_0.length+v_2.length) 1073741824 then
   Option.bind (Qd (List.take s_0.length (List.map some s_0++List.replicate c none))) fun (z3:List α)=>
   some ((z3++v_2,()),())
  else none
  else none
 else
 bif Nat.ble (0+s_0.length) ((List.map some s_0++List.replicate c none).length) then
  bif decide (IntKind.wrap .i64 (((s_0.length:Nat):Int)+(v_2.length:Int))>((((List.map some s_0++List.replicate c none).length) - 0:Nat):Int)) then
  bif decide (0≤i_1)&&decide (i_1≤((((List.map some s_0++List.replicate c none).length) - 0:Nat):Int)) then
   bif Nat.ble (0+((i_1 - 0).toNat)) ((List.map some s_0++List.replicate c none).length) then
   bif decide (0<IntKind.wrap .i64 ((IntKind.wrap .i64 (((s_0.length:Nat):Int)+(v_2.length:Int))) - i_1))&&true&&Nat.blt ((List.map some s_0++List.replicate c none).length) (((i_1 - 0).toNat)+((List.replicate ((IntKind.wrap .i64 ((IntKind.wrap .i64 (((s_0.length:Nat):Int)+(v_2.length:Int))) - i_1)).toNat) z).length))&&Nat.ble (((List.map some s_0++List.replicate c none).length)+((List.replicate ((IntKind.wrap .i64 ((IntKind.wrap .i64 (((s_0.length:Nat):Int)+(v_2.length:Int))) - i_1)).toNat) z).length)) 536870912 then
    bif (decide (0≤i_1)&&decide (i_1≤((((i_1 - 0).toNat)+((List.replicate ((IntKind.wrap .i64 ((IntKind.wrap .i64 (((s_0.length:Nat):Int)+(v_2.length:Int))) - i_1)).toNat) z).length):Nat):Int)))&&decide (((((i_1 - 0).toNat)+((List.replicate ((IntKind.wrap .i64 ((IntKind.wrap .i64 (((s_0.length:Nat):Int)+(v_2.length:Int))) - i_1)).toNat) z).length):Nat):Int)≤((((List.take ((i_1 - 0).toNat) (List.map some s_0++List.replicate c none)++List.map some (List.replicate ((IntKind.wrap .i64 ((IntKind.wrap .i64 (((s_0.length:Nat):Int)+(v_2.length:Int))) - i_1)).toNat) z)).length) - 0:Nat):Int)) then
    bif Nat.ble ((0+i_1.toNat)+((((((i_1 - 0).toNat)+((List.replicate ((IntKind.wrap .i64 ((IntKind.wrap .i64 (((s_0.length:Nat):Int)+(v_2.length:Int))) - i_1)).toNat) z).length):Nat):Int) - i_1).toNat)) ((List.take ((i_1 - 0).toNat) (List.map some s_0++List.replicate c none)++List.map some (List.replicate ((IntKind.wrap .i64 ((IntKind.wrap .i64 (((s_0.length:Nat):Int)+(v_2.length:Int))) - i_1)).toNat) z)).length) then
     bif (decide (0≤IntKind.wrap .i64 (i_1+(v_2.length:Int)))&&decide (IntKind.wrap .i64 (i_1+(v_2.length:Int))≤((((i_1 - 0).toNat)+((List.replicate ((IntKind.wrap .i64 ((IntKind.wrap .i64 (((s_0.length:Nat):Int)+(v_2.length:Int))) - i_1)).toNat) z).length):Nat):Int)))&&decide (((((i_1 - 0).toNat)+((List.replicate ((IntKind.wrap .i64 ((IntKind.wrap .i64 (((s_0.length:Nat):Int)+(v_2.length:Int))) - i_1)).toNat) z).length):Nat):Int)≤((((Q6 (List.take ((i_1 - 0).toNat) (List.map some s_0++List.replicate c none)++List.map some (List.replicate ((IntKind.wrap .i64 ((IntKind.wrap .i64 (((s_0.length:Nat):Int)+(v_2.length:Int))) - i_1)).toNat) z)) (0+i_1.toNat) (List.take ((((((i_1 - 0).toNat)+((List.replicate ((IntKind.wrap .i64 ((IntKind.wrap .i64 (((s_0.length:Nat):Int)+(v_2.length:Int))) - i_1)).toNat) z).length):Nat):Int) - i_1).toNat) v_2)).length) - 0:Nat):Int)) then
     bif (decide (0≤i_1)&&decide (i_1≤((s_0.length:Nat):Int)))&&decide (((s_0.length:Nat):Int)≤((((List.map some s_0++List.replicate c none).length) - 0:Nat):Int)) then
      bif Nat.ble ((0+((IntKind.wrap .i64 (i_1+(v_2.length:Int))).toNat))+((((((i_1 - 0).toNat)+((List.replicate ((IntKind.wrap .i64 ((IntKind.wrap .i64 (((s_0.length:Nat):Int)+(v_2.length:Int))) - i_1)).toNat) z).length):Nat):Int) - (IntKind.wrap .i64 (i_1+(v_2.length:Int)))).toNat)) ((Q6 (List.take ((i_1 - 0).toNat) (List.map some s_0++List.replicate c none)++List.map some (List.replicate ((IntKind.wrap .i64 ((IntKind.wrap .i64 (((s_0.length:Nat):Int)+(v_2.length:Int))) - i_1)).toNat) z)) (0+i_1.toNat) (List.take ((((((i_1 - 0).toNat)+((List.replicate ((IntKind.wrap .i64 ((IntKind.wrap .i64 (((s_0.length:Nat):Int)+(v_2.length:Int))) - i_1)).toNat) z).length):Nat):Int) - i_1).toNat) v_2)).length) then
      bif Nat.ble ((0+i_1.toNat)+((((s_0.length:Nat):Int) - i_1).toNat)) ((List.map some s_0++List.replicate c none).length) then
      Option.bind (Qd (List.take (min ((((((i_1 - 0).toNat)+((List.replicate ((IntKind.wrap .i64 ((IntKind.wrap .i64 (((s_0.length:Nat):Int)+(v_2.length:Int))) - i_1)).toNat) z).length):Nat):Int) - (IntKind.wrap .i64 (i_1+(v_2.length:Int)))).toNat) ((((s_0.length:Nat):Int) - i_1).toNat)) (List.drop (0+i_1.toNat) (List.map some s_0++List.replicate c none)))) fun (z4:List α)=>
      bif Nat.ble (((i_1 - 0).toNat)+((List.replicate ((IntKind.wrap .i64 ((IntKind.wrap .i64 (((s_0.length:Nat):Int)+(v_2.length:Int))) - i_1)).toNat) z).length)) ((Q6 (Q6 (List.take ((i_1 - 0).toNat) (List.map some s_0++List.replicate c none)++List.map some (List.replicate ((IntKind.wrap .i64 ((IntKind.wrap .i64 (((s_0.length:Nat):Int)+(v_2.length:Int))) - i_1)).toNat) z)) (0+i_1.toNat) (List.take ((((((i_1 - 0).toNat)+((List.replicate ((IntKind.wrap .i64 ((IntKind.wrap .i64 (((s_0.length:Nat):Int)+(v_2.length:Int))) - i_1)).toNat) z).length):Nat):Int) - i_1).toNat) v_2)) (0+((IntKind.wrap .i64 (i_1+(v_2.length:Int))).toNat)) z4).length) then
      Option.bind (Qd (List.take (((i_1 - 0).toNat)+((List.replicate ((IntKind.wrap .i64 ((IntKind.wrap .i64 (((s_0.length:Nat):Int)+(v_2.length:Int))) - i_1)).toNat) z).length)) (Q6 (Q6 (List.take ((i_1 - 0).toNat) (List.map some s_0++List.replicate c none)++List.map some (List.replicate ((IntKind.wrap .i64 ((IntKind.wrap .i64 (((s_0.length:Nat):Int)+(v_2.length:Int))) - i_1)).toNat) z)) (0+i_1.toNat) (List.take ((((((i_1 - 0).toNat)+((List.replicate ((IntKind.wrap .i64 ((IntKind.wrap .i64 (((s_0.length:Nat):Int)+(v_2.length:Int))) - i_1)).toNat) z).length):Nat):Int) - i_1).toNat) v_2)) (0+((IntKind.wrap .i64 (i_1+(v_2.length:Int))).toNat)) z4))) fun (z5:List α)=>
      some ((z5,()),())
      else none
      else none
      else none
     else none
     else none
    else none
    else none
   else none
   else none
  else none
  else
  bif decide (0≤IntKind.wrap .i64 (((s_0.length:Nat):Int)+(v_2.length:Int)))&&decide (IntKind.wrap .i64 (((s_0.length:Nat):Int)+(v_2.length:Int))≤((((List.map some s_0++List.replicate c none).length) - 0:Nat):Int)) then
  bif (decide (0≤IntKind.wrap .i64 (i_1+(v_2.length:Int)))&&decide (IntKind.wrap .i64 (i_1+(v_2.length:Int))≤((((IntKind.wrap .i64 (((s_0.length:Nat):Int)+(v_2.length:Int))) - 0).toNat:Nat):Int)))&&decide (((((IntKind.wrap .i64 (((s_0.length:Nat):Int)+(v_2.length:Int))) - 0).toNat:Nat):Int)≤((((List.map some s_0++List.replicate c none).length) - 0:Nat):Int)) then
   bif (decide (0≤IntKind.wrap .i64 (i_1+(v_2.length:Int)))&&decide (IntKind.wrap .i64 (i_1+(v_2.length:Int))≤((((IntKind.wrap .i64 (((s_0.length:Nat):Int)+(v_2.length:Int))) - 0).toNat:Nat):Int)))&&decide (((((IntKind.wrap .i64 (((s_0.length:Nat):Int)+(v_2.length:Int))) - 0).toNat:Nat):Int)≤((((List.map some s_0++List.replicate c none).length) - 0:Nat):Int)) then
   bif (decide (0≤i_1)&&decide (i_1≤((((IntKind.wrap .i64 (((s_0.length:Nat):Int)+(v_2.length:Int))) - 0).toNat:Nat):Int)))&&decide (((((IntKind.wrap .i64 (((s_0.length:Nat):Int)+(v_2.length:Int))) - 0).toNat:Nat):Int)≤((((List.map some s_0++List.replicate c none).length) - 0:Nat):Int)) then
    bif Nat.ble ((0+((IntKind.wrap .i64 (i_1+(v_2.length:Int))).toNat))+((((((IntKind.wrap .i64 (((s_0.length:Nat):Int)+(v_2.length:Int))) - 0).toNat:Nat):Int) - (IntKind.wrap .i64 (i_1+(v_2.length:Int)))).toNat)) ((List.map some s_0++List.replicate c none).length) then
    bif Nat.ble ((0+i_1.toNat)+((((((IntKind.wrap .i64 (((s_0.length:Nat):Int)+(v_2.length:Int))) - 0).toNat:Nat):Int) - i_1).toNat)) ((List.map some s_0++List.replicate c none).length) then
     Option.bind (Qd (List.take (min ((((((IntKind.wrap .i64 (((s_0.length:Nat):Int)+(v_2.length:Int))) - 0).toNat:Nat):Int) - (IntKind.wrap .i64 (i_1+(v_2.length:Int)))).toNat) ((((((IntKind.wrap .i64 (((s_0.length:Nat):Int)+(v_2.length:Int))) - 0).toNat:Nat):Int) - i_1).toNat)) (List.drop (0+i_1.toNat) (List.map some s_0++List.replicate c none)))) fun (z6:List α)=>
     bif (decide (0≤i_1)&&decide (i_1≤((((IntKind.wrap .i64 (((s_0.length:Nat):Int)+(v_2.length:Int))) - 0).toNat:Nat):Int)))&&decide (((((IntKind.wrap .i64 (((s_0.length:Nat):Int)+(v_2.length:Int))) - 0).toNat:Nat):Int)≤((((Q6 (List.map some s_0++List.replicate c none) (0+((IntKind.wrap .i64 (i_1+(v_2.length:Int))).toNat)) z6).length) - 0:Nat):Int)) then
     bif Nat.ble ((0+i_1.toNat)+((((((IntKind.wrap .i64 (((s_0.length:Nat):Int)+(v_2.length:Int))) - 0).toNat:Nat):Int) - i_1).toNat)) ((Q6 (List.map some s_0++List.replicate c none) (0+((IntKind.wrap .i64 (i_1+(v_2.length:Int))).toNat)) z6).length) then
      bif Nat.ble (((IntKind.wrap .i64 (((s_0.length:Nat):Int)+(v_2.length:Int))) - 0).toNat) ((Q6 (Q6 (List.map some s_0++List.replicate c none) (0+((IntKind.wrap .i64 (i_1+(v_2.length:Int))).toNat)) z6) (0+i_1.toNat) (List.take ((((((IntKind.wrap .i64 (((s_0.length:Nat):Int)+(v_2.length:Int))) - 0).toNat:Nat):Int) - i_1).toNat) v_2)).length) then
      Option.bind (Qd (List.take (((IntKind.wrap .i64 (((s_0.length:Nat):Int)+(v_2.length:Int))) - 0).toNat) (Q6 (Q6 (List.map some s_0++List.replicate c none) (0+((IntKind.wrap .i64 (i_1+(v_2.length:Int))).toNat)) z6) (0+i_1.toNat) (List.take ((((((IntKind.wrap .i64 (((s_0.length:Nat):Int)+(v_2.length:Int))) - 0).toNat:Nat):Int) - i_1).toNat) v_2)))) fun (z7:List α)=>
      some ((z7,()),())
      else none
     else none
     else none
    else none
    else none
   else none
   else none
  else none
  else none
 else none
 else none
theorem Qj {α:Type} {ys:List (Option α)} {p:Nat} {xs:List α} (hp:p≤ys.length) (j:Nat) :
  (Q6 ys p xs)[j]?=if j<p then ys[j]? else if j<p+xs.length then (xs[j - p]?).map some else ys[j]?:=by
 unfold Q6
 have e1:(ys.take p).length=p:=by rw [List.length_take];omega
 by_cases h1:j<p
 ·rw [if_pos h1,List.append_assoc,List.getElem?_append_left (by omega),List.getElem?_take,if_pos h1]
 ·rw [if_neg h1]
  by_cases h2:j<p+xs.length
  ·rw [if_pos h2,List.append_assoc,List.getElem?_append_right (by omega),List.getElem?_append_left (by rw [List.length_map];omega),e1,List.getElem?_map]
  ·rw [if_neg h2,List.getElem?_append_right (by rw [List.length_append,e1,List.length_map];omega),List.length_append,e1,List.length_map,List.getElem?_drop]
   congr 1;omega
theorem Z3 {α:Type} {ys:List (Option α)} {p:Nat} {xs:List α} (hp:p+xs.length≤ys.length):(Q6 ys p xs).length=ys.length:=by
 unfold Q6
 simp only [List.length_append,List.length_take,List.length_map,List.length_drop];omega
theorem Zr {α:Type} {l:List (Option α)} {r:List α} (h:l=r.map some):Qd l=some r:=by rw [h,Q63]
theorem Qg2 {x:Int} (h1:0≤x) (h2:x≤9223372036854775807):IntKind.wrap .i64 x=x:=by
 have e:x % 2 ^ 64=x:=by omega
 simp only [IntKind.wrap,IntKind.bits,IntKind.signed,e]
 rw [if_neg]
 simp;omega
def Qe5 {α:Type} (s:List α) (i:Int) (v:List α):Option (((List α) × Unit) × Unit):=
 bif decide (0≤i)&&decide (i≤(s.length:Int))&&Nat.ble (s.length+v.length) 134217728 then some ((s.take i.toNat++v++s.drop i.toNat,()),()) else none
theorem Q7 {R:Type} {b:Bool} {x y:R} (h:b=true):(bif b then x else y)=x:=by rw [h];rfl
theorem Zm {R:Type} {b:Bool} {x y:R} (h:b=false):(bif b then x else y)=y:=by rw [h];rfl
theorem Zg {a b:Nat}:Nat.blt a b=true↔a<b:=by unfold Nat.blt;rw [Q2];exact Iff.rfl
theorem Qin {α:Type} (z:α) (c:Nat) (s:List α) (i:Int) (v:List α) (r) (_hc:c≤maxLen) (h:Qe5 s i v=some r):Qet z c s i v=some r:=by
 unfold Qe5 at h
 cases hq:(decide (0≤i)&&decide (i≤(s.length:Int))&&Nat.ble (s.length+v.length) 134217728) with
 | false=>rw [hq] at h;cases h
 | true=>
 rw [hq] at h
 have h:=Option.some.inj h
 subst h
 simp only [Bool.and_eq_true,decide_eq_true_eq] at hq
 obtain ⟨⟨h0,h1⟩,h2⟩:=hq
 have h2:=Nat.le_of_ble_eq_true h2
 obtain ⟨k,rfl⟩:∃ k:Nat,i=(k:Int):=⟨i.toNat,by omega⟩
 have hk:k≤s.length:=by omega
 have e1:IntKind.wrap .i64 ((s.length:Int)+(v.length:Int))=((s.length+v.length:Nat):Int):=by rw [Qg2 (by omega) (by omega)];omega
 have e2:IntKind.wrap .i64 ((k:Int)+(v.length:Int))=((k+v.length:Nat):Int):=by rw [Qg2 (by omega) (by omega)];omega
 have e3:IntKind.wrap .i64 (((s.length+v.length:Nat):Int) - (k:Int))=((s.length+v.length - k:Nat):Int):=by rw [Qg2 (by omega) (by omega)];omega
 have hys:∀ j,j<s.length→(List.map some s++List.replicate c none)[j]?=(s[j]?).map some:=fun j hj=>by
  rw [List.getElem?_append_left (by rw [List.length_map];exact hj),List.getElem?_map]
 have hlen:(List.map some s++List.replicate c none).length=s.length+c:=by simp
 unfold Qet
 simp only [e1,e2,e3,Int.toNat_natCast,Int.sub_zero,Nat.zero_add,Nat.sub_zero,List.length_replicate]
 generalize hY:List.map some s++List.replicate c none=Y at *
 have hbase:Qd (List.take s.length Y)=some s:=Zr (by
  refine List.ext_getElem? fun j=>?_
  rw [List.getElem?_take,List.getElem?_map]
  by_cases hj:j<s.length
  ·rw [if_pos hj,hys j hj]
  ·rw [if_neg hj,List.getElem?_eq_none (by omega)];rfl)
 have hdrop:Qd (List.take (s.length - k) (List.drop k Y))=some (s.drop k):=Zr (by
  refine List.ext_getElem? fun j=>?_
  rw [List.getElem?_take,List.getElem?_map,List.getElem?_drop,List.getElem?_drop]
  by_cases hj:j<s.length - k
  ·rw [if_pos hj,hys _ (by omega)]
  ·rw [if_neg hj,List.getElem?_eq_none (by omega)];rfl)
 have hdl:(s.drop k).length=s.length - k:=List.length_drop ..
 rw [Q7 (by simp only [Bool.and_eq_true,decide_eq_true_eq,Q2,Zg,beq_iff_eq,and_true,true_and];omega)]
 by_cases hm:v.length=0
 ·have hv:v=[]:=List.eq_nil_of_length_eq_zero hm
  subst hv
  rw [Q7 (by rfl)]
  repeat rw [Q7 (by simp only [Bool.and_eq_true,decide_eq_true_eq,Q2,Zg,beq_iff_eq,and_true,true_and];omega)]
  rw [hbase]
  simp
 rw [Zm (beq_eq_false_iff_ne.2 (by omega))]
 by_cases hkn:k=s.length
 ·subst hkn
  rw [Q7 (by simp)]
  rw [Q7 (by simp only [Bool.and_eq_true,decide_eq_true_eq,Q2,Zg,beq_iff_eq,and_true,true_and];omega)]
  by_cases hc:s.length+v.length≤s.length+c
  ·have w1:(Q6 Y s.length v).length=Y.length:=Z3 (by omega)
   repeat rw [Q7 (by simp only [Bool.and_eq_true,decide_eq_true_eq,Q2,Zg,beq_iff_eq,and_true,true_and];omega)]
   rw [Zr (r:=s++v) (by
    refine List.ext_getElem? fun j=>?_
    rw [List.getElem?_take,List.getElem?_map,Qj (by omega)]
    by_cases hj:j<s.length
    ·rw [if_pos (by omega),if_pos hj,hys j hj,List.getElem?_append_left hj]
    ·rw [List.getElem?_append_right (by omega),if_neg hj]
     by_cases hj2:j<s.length+v.length
     ·rw [if_pos hj2,if_pos hj2]
     ·rw [if_neg hj2,List.getElem?_eq_none (by omega)];rfl)]
   simp
  ·rw [Zm (by rw [← Bool.not_eq_true,Q2];omega)]
   repeat rw [Q7 (by simp only [Bool.and_eq_true,decide_eq_true_eq,Q2,Zg,beq_iff_eq,and_true,true_and];omega)]
   rw [hbase]
   simp
 rw [Zm (by simp;omega)]
 have hres:∀ j,(s.take k++v++s.drop k)[j]?=if j<k then s[j]? else if j<k+v.length then v[j - k]? else s[j - v.length]?:=fun j=>by
  have e:(s.take k).length=k:=by rw [List.length_take];omega
  by_cases h3:j<k
  ·rw [if_pos h3,List.append_assoc,List.getElem?_append_left (by omega),List.getElem?_take,if_pos h3]
  ·rw [if_neg h3]
   by_cases h4:j<k+v.length
   ·rw [if_pos h4,List.append_assoc,List.getElem?_append_right (by omega),List.getElem?_append_left (by omega),e]
   ·rw [if_neg h4,List.getElem?_append_right (by rw [List.length_append];omega),List.length_append,e,List.getElem?_drop]
    congr 1;omega
 by_cases hg:s.length+c<s.length+v.length
 ·rw [Q7 (decide_eq_true (by omega))]
  have n0:k+(s.length+v.length - k)=s.length+v.length:=by omega
  have n1:(((s.length+v.length:Nat):Int) - (k:Int)).toNat=s.length+v.length - k:=by omega
  have n2:(((s.length+v.length:Nat):Int) - ((k+v.length:Nat):Int)).toNat=s.length - k:=by omega
  have n3:((s.length:Int) - (k:Int)).toNat=s.length - k:=by omega
  have n4:List.take (s.length+v.length - k) v=v:=List.take_of_length_le (by omega)
  simp only [n0,n1,n2,n3,n4,Nat.min_self]
  generalize hZ:List.take k Y++List.map some (List.replicate (s.length+v.length - k) z)=Z
  have hZl:Z.length=s.length+v.length:=by rw [← hZ];simp only [List.length_append,List.length_take,List.length_map,List.length_replicate];omega
  have hZk:∀ j,j<k→Z[j]?=(s[j]?).map some:=fun j hj=>by
   rw [← hZ,List.getElem?_append_left (by rw [List.length_take];omega),List.getElem?_take,if_pos hj,hys j (by omega)]
  have w1:(Q6 Z k v).length=Z.length:=Z3 (by omega)
  have w2:(Q6 (Q6 Z k v) (k+v.length) (s.drop k)).length=Z.length:=by rw [Z3 (by omega),w1]
  repeat rw [Q7 (by simp only [Bool.and_eq_true,decide_eq_true_eq,Q2,Zg,beq_iff_eq,and_true,true_and];omega)]
  rw [hdrop]
  show (bif _ then _ else none)=_
  repeat rw [Q7 (by simp only [Bool.and_eq_true,decide_eq_true_eq,Q2,Zg,beq_iff_eq,and_true,true_and];omega)]
  rw [Zr (r:=s.take k++v++s.drop k) (by
   refine List.ext_getElem? fun j=>?_
   rw [List.getElem?_take,List.getElem?_map,hres]
   by_cases hj:j<s.length+v.length
   ·rw [if_pos hj,Qj (by omega)]
    by_cases h3:j<k
    ·rw [if_pos (by omega),Qj (by omega),if_pos h3,if_pos h3,hZk j h3]
    ·by_cases h4:j<k+v.length
     ·rw [if_pos h4,Qj (by omega),if_neg h3,if_pos h4,if_neg h3,if_pos h4]
     ·rw [if_neg h4,if_pos (by omega),if_neg h3,if_neg h4,List.getElem?_drop,show k+(j - (k+v.length))=j - v.length by omega]
   ·rw [if_neg hj,if_neg (by omega),if_neg (by omega),List.getElem?_eq_none (by omega)];rfl)]
  rfl
 ·rw [Zm (decide_eq_false (by omega))]
  have n1:(((s.length+v.length:Nat):Int) - (k:Int)).toNat=s.length+v.length - k:=by omega
  have n2:(((s.length+v.length:Nat):Int) - ((k+v.length:Nat):Int)).toNat=s.length - k:=by omega
  have n4:List.take (s.length+v.length - k) v=v:=List.take_of_length_le (by omega)
  have n5:min (s.length - k) (s.length+v.length - k)=s.length - k:=by omega
  simp only [n1,n2,n4,n5]
  have w1:(Q6 Y (k+v.length) (s.drop k)).length=Y.length:=Z3 (by omega)
  have w2:(Q6 (Q6 Y (k+v.length) (s.drop k)) k v).length=Y.length:=by rw [Z3 (by omega),w1]
  repeat rw [Q7 (by simp only [Bool.and_eq_true,decide_eq_true_eq,Q2,Zg,beq_iff_eq,and_true,true_and];omega)]
  rw [hdrop]
  show (bif _ then _ else none)=_
  repeat rw [Q7 (by simp only [Bool.and_eq_true,decide_eq_true_eq,Q2,Zg,beq_iff_eq,and_true,true_and];omega)]
  rw [Zr (r:=s.take k++v++s.drop k) (by
   refine List.ext_getElem? fun j=>?_
   rw [List.getElem?_take,List.getElem?_map,hres]
   by_cases hj:j<s.length+v.length
   ·rw [if_pos hj,Qj (by omega)]
    by_cases h3:j<k
    ·rw [if_pos h3,if_pos h3,Qj (by omega),if_pos (by omega),hys j (by omega)]
    ·by_cases h4:j<k+v.length
     ·rw [if_neg h3,if_pos h4,if_neg h3,if_pos h4]
     ·rw [if_neg h3,if_neg h4,if_neg h3,if_neg h4,Qj (by omega),if_neg (by omega),if_pos (by omega),List.getElem?_drop,show k+(j - (k+v.length))=j - v.length by omega]
   ·rw [if_neg hj,if_neg (by omega),if_neg (by omega),List.getElem?_eq_none (by omega)];rfl)]
  rfl
end Go.PE
set_option linter.unusedVariables false
set_option linter.unusedSimpArgs false
set_option maxRecDepth 100000
namespace Go.PE
def Qi4 {α:Type} (z:α) (c:Nat) (s_0:List α) (n_1:Int):Option (((List α) × Unit) × Unit):=
 bif decide (n_1<0) then
 none
 else
 bif Nat.ble (0+s_0.length) ((List.map some s_0++List.replicate c none).length) then
 bif decide (IntKind.wrap .i64 (n_1 - (IntKind.wrap .i64 (((((List.map some s_0++List.replicate c none).length) - 0:Nat):Int) - ((s_0.length:Nat):Int))))>0) then
  bif Nat.ble (0+s_0.length) ((List.map some s_0++List.replicate c none).length) then
  bif decide (0≤((((List.map some s_0++List.replicate c none).length) - 0:Nat):Int))&&decide (((((List.map some s_0++List.replicate c none).length) - 0:Nat):Int)≤((((List.map some s_0++List.replicate c none).length) - 0:Nat):Int)) then
   bif Nat.ble (0+((((((List.map some s_0++List.replicate c none).length) - 0:Nat):Int) - 0).toNat)) ((List.map some s_0++List.replicate c none).length) then
   bif decide (0<IntKind.wrap .i64 (n_1 - (IntKind.wrap .i64 (((((List.map some s_0++List.replicate c none).length) - 0:Nat):Int) - ((s_0.length:Nat):Int)))))&&true&&Nat.blt ((List.map some s_0++List.replicate c none).length) (((((((List.map some s_0++List.replicate c none).length) - 0:Nat):Int) - 0).toNat)+((List.replicate ((IntKind.wrap .i64 (n_1 - (IntKind.wrap .i64 (((((List.map some s_0++List.replicate c none).length) - 0:Nat):Int) - ((s_0.length:Nat):Int))))).toNat) z).length))&&Nat.ble (((List.map some s_0++List.replicate c none).length)+((List.replicate ((IntKind.wrap .i64 (n_1 - (IntKind.wrap .i64 (((((List.map some s_0++List.replicate c none).length) - 0:Nat):Int) - ((s_0.length:Nat):Int))))).toNat) z).length)) 536870912 then
    bif decide (0≤((s_0.length:Nat):Int))&&decide (((s_0.length:Nat):Int)≤((((List.take ((((((List.map some s_0++List.replicate c none).length) - 0:Nat):Int) - 0).toNat) (List.map some s_0++List.replicate c none)++List.map some (List.replicate ((IntKind.wrap .i64 (n_1 - (IntKind.wrap .i64 (((((List.map some s_0++List.replicate c none).length) - 0:Nat):Int) - ((s_0.length:Nat):Int))))).toNat) z)).length) - 0:Nat):Int)) then
    bif Nat.ble ((((s_0.length:Nat):Int) - 0).toNat) ((List.take ((((((List.map some s_0++List.replicate c none).length) - 0:Nat):Int) - 0).toNat) (List.map some s_0++List.replicate c none)++List.map some (List.replicate ((IntKind.wrap .i64 (n_1 - (IntKind.wrap .i64 (((((List.map some s_0++List.replicate c none).length) - 0:Nat):Int) - ((s_0.length:Nat):Int))))).toNat) z)).length) then
     Option.bind (Qd (List.take ((((s_0.length:Nat):Int) - 0).toNat) (List.take ((((((List.map some s_0++List.replicate c none).length) - 0:Nat):Int) - 0).toNat) (List.map some s_0++List.replicate c none)++List.map some (List.replicate ((IntKind.wrap .i64 (n_1 - (IntKind.wrap .i64 (((((List.map some s_0++List.replicate c none).length) - 0:Nat):Int) - ((s_0.length:Nat):Int))))).toNat) z)))) fun (z1:List α)=>
     some ((z1,()),())
    else none
    else none
   else none
   else none
  else none
  else none
 else
 bif Nat.ble s_0.length ((List.map some s_0++List.replicate c none).length) then
  Option.bind (Qd (List.take s_0.length (List.map some s_0++List.replicate c none))) fun (z2:List α)=>
  some ((z2,()),())
 else none
 else none
def Qi2 {α:Type} (s:List α) (n:Int):Option (((List α) × Unit) × Unit):=
 bif decide (0≤n)&&decide (n≤134217728)&&Nat.ble s.length 134217728 then some ((s,()),()) else none
theorem Q97 {α:Type} (s:List α) (c:Nat) (q:List (Option α)):Qd (List.take s.length (List.map some s++q))=some s:=Zr (by
 rw [List.take_append_of_le_length (by simp),List.take_of_length_le (by simp)])
theorem Qj8 {α:Type} (z:α) (c:Nat) (s:List α) (n:Int) (r) (hc:c≤maxLen) (h:Qi2 s n=some r):Qi4 z c s n=some r:=by
 unfold Qi2 at h
 cases hq:(decide (0≤n)&&decide (n≤134217728)&&Nat.ble s.length 134217728) with
 | false=>rw [hq] at h;cases h
 | true=>
 rw [hq] at h
 have h:=Option.some.inj h
 subst h
 simp only [Bool.and_eq_true,decide_eq_true_eq] at hq
 obtain ⟨⟨h0,h1⟩,h2⟩:=hq
 have h2:=Nat.le_of_ble_eq_true h2
 have hc:c≤9223372036854775807:=hc
 have hlen:(List.map some s++List.replicate c none).length=s.length+c:=by simp
 have hb0:=Q97 s c (List.replicate c none)
 have e2:IntKind.wrap .i64 (n - (c:Int))=n - (c:Int):=by rw [IntKind.wrap_i64];omega
 unfold Qi4
 rw [Zm (decide_eq_false (by omega))]
 generalize hY:List.map some s++List.replicate c none=Y at *
 have e1:IntKind.wrap .i64 ((Y.length:Int) - (s.length:Int))=(c:Int):=by rw [hlen,IntKind.wrap_i64];omega
 simp only [Int.sub_zero,Nat.sub_zero,Nat.zero_add,Int.toNat_natCast,List.length_replicate]
 simp only [e1,e2]
 rw [Q7 (Q2.2 (by omega))]
 by_cases hg:n - (c:Int)>0
 ·rw [Q7 (decide_eq_true hg)]
  have w0:(List.take Y.length Y++List.map some (List.replicate (n - (c:Int)).toNat z)).length=Y.length+(n - (c:Int)).toNat:=by
   rw [List.length_append,List.length_take,Nat.min_self,List.length_map,List.length_replicate]
  repeat rw [Q7 (by simp only [Bool.and_eq_true,decide_eq_true_eq,Q2,Zg,beq_iff_eq,and_true,true_and];omega)]
  have e3:Qd (List.take s.length (List.take Y.length Y++List.map some (List.replicate (n - (c:Int)).toNat z)))=some s:=by
   rw [List.take_append_of_le_length (by rw [List.length_take];omega),List.take_take,Nat.min_eq_left (by omega),hb0]
  rw [e3]
  rfl
 ·rw [Zm (decide_eq_false hg),Q7 (Q2.2 (by omega)),hb0]
  rfl
def Qen {α:Type} (z:α) (c:Nat) (s_0:List α) (i_1:Int) (j_2:Int):Option (((List α) × Unit) × Unit):=
 bif ((decide (0≤i_1)&&decide (i_1≤j_2))&&decide (j_2≤((s_0.length:Nat):Int)))&&decide (((s_0.length:Nat):Int)≤((((List.map some s_0++List.replicate c none).length) - 0:Nat):Int)) then
 bif i_1==j_2 then
  bif Nat.ble s_0.length ((List.map some s_0++List.replicate c none).length) then
  Option.bind (Qd (List.take s_0.length (List.map some s_0++List.replicate c none))) fun (z1:List α)=>
  some ((z1,()),())
  else none
 else
 bif decide (0≤i_1)&&decide (i_1≤((((List.map some s_0++List.replicate c none).length) - 0:Nat):Int)) then
  bif (decide (0≤j_2)&&decide (j_2≤((s_0.length:Nat):Int)))&&decide (((s_0.length:Nat):Int)≤((((List.map some s_0++List.replicate c none).length) - 0:Nat):Int)) then
  bif Nat.ble (0+((i_1 - 0).toNat)) ((List.map some s_0++List.replicate c none).length) then
   bif Nat.ble ((0+j_2.toNat)+((((s_0.length:Nat):Int) - j_2).toNat)) ((List.map some s_0++List.replicate c none).length) then
   Option.bind (Qd (List.take ((((s_0.length:Nat):Int) - j_2).toNat) (List.drop (0+j_2.toNat) (List.map some s_0++List.replicate c none)))) fun (z2:List α)=>
   bif Nat.ble (((i_1 - 0).toNat)+z2.length) ((List.map some s_0++List.replicate c none).length) then
    bif (decide (0≤((((i_1 - 0).toNat)+z2.length:Nat):Int))&&decide (((((i_1 - 0).toNat)+z2.length:Nat):Int)≤((s_0.length:Nat):Int)))&&decide (((s_0.length:Nat):Int)≤((((Q6 (List.map some s_0++List.replicate c none) ((i_1 - 0).toNat) z2).length) - 0:Nat):Int)) then
    bif Nat.ble ((0+(((((i_1 - 0).toNat)+z2.length:Nat):Int).toNat))+((((s_0.length:Nat):Int) - ((((i_1 - 0).toNat)+z2.length:Nat):Int)).toNat)) ((Q6 (List.map some s_0++List.replicate c none) ((i_1 - 0).toNat) z2).length) then
     bif Nat.ble (((i_1 - 0).toNat)+z2.length) ((Q6 (Q6 (List.map some s_0++List.replicate c none) ((i_1 - 0).toNat) z2) (0+(((((i_1 - 0).toNat)+z2.length:Nat):Int).toNat)) (List.replicate ((((s_0.length:Nat):Int) - ((((i_1 - 0).toNat)+z2.length:Nat):Int)).toNat) z)).length) then
     Option.bind (Qd (List.take (((i_1 - 0).toNat)+z2.length) (Q6 (Q6 (List.map some s_0++List.replicate c none) ((i_1 - 0).toNat) z2) (0+(((((i_1 - 0).toNat)+z2.length:Nat):Int).toNat)) (List.replicate ((((s_0.length:Nat):Int) - ((((i_1 - 0).toNat)+z2.length:Nat):Int)).toNat) z)))) fun (z3:List α)=>
     some ((z3,()),())
     else none
    else none
    else none
   else
   bif Nat.ble (((i_1 - 0).toNat)+z2.length) 1073741824 then
    Option.bind (Qd (List.take ((i_1 - 0).toNat) (List.map some s_0++List.replicate c none))) fun (z4:List α)=>
    bif (decide (0≤(((z4++z2).length:Nat):Int))&&decide ((((z4++z2).length:Nat):Int)≤((s_0.length:Nat):Int)))&&decide (((s_0.length:Nat):Int)≤(((List.map some (z4++z2)).length:Nat):Int)) then
    bif Nat.ble ((0+((((z4++z2).length:Nat):Int).toNat))+((((s_0.length:Nat):Int) - (((z4++z2).length:Nat):Int)).toNat)) ((List.map some (z4++z2)).length) then
     none
    else none
    else none
   else none
   else none
  else none
  else none
 else none
 else none
def Qeg {α:Type} (s:List α) (i j:Int):Option (((List α) × Unit) × Unit):=
 bif decide (0≤i)&&decide (i≤j)&&decide (j≤(s.length:Int)) then some ((s.take i.toNat++s.drop j.toNat,()),()) else none
theorem Qis {α:Type} (z:α) (c:Nat) (s:List α) (i j:Int) (r) (_hc:c≤maxLen) (h:Qeg s i j=some r):Qen z c s i j=some r:=by
 unfold Qeg at h
 cases hq:(decide (0≤i)&&decide (i≤j)&&decide (j≤(s.length:Int))) with
 | false=>rw [hq] at h;cases h
 | true=>
 rw [hq] at h
 have h:=Option.some.inj h
 subst h
 simp only [Bool.and_eq_true,decide_eq_true_eq] at hq
 obtain ⟨⟨h0,h1⟩,h2⟩:=hq
 obtain ⟨a,rfl⟩:∃ a:Nat,i=(a:Int):=⟨i.toNat,by omega⟩
 obtain ⟨b,rfl⟩:∃ b:Nat,j=(b:Int):=⟨j.toNat,by omega⟩
 have hys:∀ j,j<s.length→(List.map some s++List.replicate c none)[j]?=(s[j]?).map some:=fun j hj=>by
  rw [List.getElem?_append_left (by rw [List.length_map];exact hj),List.getElem?_map]
 have hlen:(List.map some s++List.replicate c none).length=s.length+c:=by simp
 have hb0:=Q97 s c (List.replicate c none)
 have m1:((s.length:Int) - (b:Int)).toNat=s.length - b:=by omega
 unfold Qen
 simp only [Int.toNat_natCast,Int.sub_zero,Nat.zero_add,Nat.sub_zero,m1]
 generalize hY:List.map some s++List.replicate c none=Y at *
 have hdrop:Qd (List.take (s.length - b) (List.drop b Y))=some (s.drop b):=Zr (by
  refine List.ext_getElem? fun j=>?_
  rw [List.getElem?_take,List.getElem?_map,List.getElem?_drop,List.getElem?_drop]
  by_cases hj:j<s.length - b
  ·rw [if_pos hj,hys _ (by omega)]
  ·rw [if_neg hj,List.getElem?_eq_none (by omega)];rfl)
 have hdl:(s.drop b).length=s.length - b:=List.length_drop ..
 rw [Q7 (by simp only [Bool.and_eq_true,decide_eq_true_eq,Q2,Zg,beq_iff_eq,and_true,true_and];omega)]
 by_cases hab:a=b
 ·subst hab
  rw [Q7 (by simp)]
  rw [Q7 (Q2.2 (by omega)),hb0]
  simp
 rw [Zm (beq_eq_false_iff_ne.2 (by omega))]
 repeat rw [Q7 (by simp only [Bool.and_eq_true,decide_eq_true_eq,Q2,Zg,beq_iff_eq,and_true,true_and];omega)]
 rw [hdrop]
 show (bif _ then _ else _)=_
 have w1:(Q6 Y a (s.drop b)).length=Y.length:=Z3 (by omega)
 have n1:((s.length:Int) - ((a+(s.drop b).length:Nat):Int)).toNat=b - a:=by omega
 simp only [n1]
 have w2:(Q6 (Q6 Y a (s.drop b)) (a+(s.drop b).length) (List.replicate (b - a) z)).length=Y.length:=by rw [Z3 (by rw [List.length_replicate];omega),w1]
 repeat rw [Q7 (by simp only [Bool.and_eq_true,decide_eq_true_eq,Q2,Zg,beq_iff_eq,and_true,true_and];omega)]
 rw [Zr (r:=s.take a++s.drop b) (by
  have e:(s.take a).length=a:=by rw [List.length_take];omega
  refine List.ext_getElem? fun j=>?_
  rw [List.getElem?_take,List.getElem?_map]
  by_cases hj:j<a+(s.drop b).length
  ·rw [if_pos hj,Qj (by omega),if_pos hj,Qj (by omega)]
   by_cases h3:j<a
   ·rw [if_pos h3,List.getElem?_append_left (by omega),List.getElem?_take,if_pos h3,hys j (by omega)]
   ·rw [if_neg h3,if_pos hj,List.getElem?_append_right (by omega),e]
  ·rw [if_neg hj,List.getElem?_eq_none (by rw [List.length_append];omega)];rfl)]
 rfl
end Go.PE
set_option linter.unusedVariables false
set_option linter.unusedSimpArgs false
set_option maxRecDepth 100000
namespace Go.PE
def Qbf {α:Type} (z:α) (c:Nat) (s_0:List (Option α)) (i_1:Int) (j_2:Int):Option (((List α) × Unit) × Unit):=
 bif ((decide (0≤i_1)&&decide (i_1≤j_2))&&decide (j_2≤((s_0.length:Nat):Int)))&&decide (((s_0.length:Nat):Int)≤((((List.append s_0 (List.replicate c none)).length) - 0:Nat):Int)) then
 bif i_1==j_2 then
  bif Nat.ble s_0.length ((List.append s_0 (List.replicate c none)).length) then
  Option.bind (Qd (List.take s_0.length (List.append s_0 (List.replicate c none)))) fun (z1:List α)=>
  some ((z1,()),())
  else none
 else
 bif decide (0≤i_1)&&decide (i_1≤((((List.append s_0 (List.replicate c none)).length) - 0:Nat):Int)) then
  bif (decide (0≤j_2)&&decide (j_2≤((s_0.length:Nat):Int)))&&decide (((s_0.length:Nat):Int)≤((((List.append s_0 (List.replicate c none)).length) - 0:Nat):Int)) then
  bif Nat.ble (0+((i_1 - 0).toNat)) ((List.append s_0 (List.replicate c none)).length) then
   bif Nat.ble ((0+j_2.toNat)+((((s_0.length:Nat):Int) - j_2).toNat)) ((List.append s_0 (List.replicate c none)).length) then
   Option.bind (Qd (List.take ((((s_0.length:Nat):Int) - j_2).toNat) (List.drop (0+j_2.toNat) (List.append s_0 (List.replicate c none))))) fun (z2:List α)=>
   bif Nat.ble (((i_1 - 0).toNat)+z2.length) ((List.append s_0 (List.replicate c none)).length) then
    bif (decide (0≤((((i_1 - 0).toNat)+z2.length:Nat):Int))&&decide (((((i_1 - 0).toNat)+z2.length:Nat):Int)≤((s_0.length:Nat):Int)))&&decide (((s_0.length:Nat):Int)≤((((Q6 (List.append s_0 (List.replicate c none)) ((i_1 - 0).toNat) z2).length) - 0:Nat):Int)) then
    bif Nat.ble ((0+(((((i_1 - 0).toNat)+z2.length:Nat):Int).toNat))+((((s_0.length:Nat):Int) - ((((i_1 - 0).toNat)+z2.length:Nat):Int)).toNat)) ((Q6 (List.append s_0 (List.replicate c none)) ((i_1 - 0).toNat) z2).length) then
     bif Nat.ble (((i_1 - 0).toNat)+z2.length) ((Q6 (Q6 (List.append s_0 (List.replicate c none)) ((i_1 - 0).toNat) z2) (0+(((((i_1 - 0).toNat)+z2.length:Nat):Int).toNat)) (List.replicate ((((s_0.length:Nat):Int) - ((((i_1 - 0).toNat)+z2.length:Nat):Int)).toNat) z)).length) then
     Option.bind (Qd (List.take (((i_1 - 0).toNat)+z2.length) (Q6 (Q6 (List.append s_0 (List.replicate c none)) ((i_1 - 0).toNat) z2) (0+(((((i_1 - 0).toNat)+z2.length:Nat):Int).toNat)) (List.replicate ((((s_0.length:Nat):Int) - ((((i_1 - 0).toNat)+z2.length:Nat):Int)).toNat) z)))) fun (z3:List α)=>
     some ((z3,()),())
     else none
    else none
    else none
   else
   bif Nat.ble (((i_1 - 0).toNat)+z2.length) 1073741824 then
    Option.bind (Qd (List.take ((i_1 - 0).toNat) (List.append s_0 (List.replicate c none)))) fun (z4:List α)=>
    bif (decide (0≤(((z4++z2).length:Nat):Int))&&decide ((((z4++z2).length:Nat):Int)≤((s_0.length:Nat):Int)))&&decide (((s_0.length:Nat):Int)≤(((List.map some (z4++z2)).length:Nat):Int)) then
    bif Nat.ble ((0+((((z4++z2).length:Nat):Int).toNat))+((((s_0.length:Nat):Int) - (((z4++z2).length:Nat):Int)).toNat)) ((List.map some (z4++z2)).length) then
     none
    else none
    else none
   else none
   else none
  else none
  else none
 else none
 else none
def Qb3 {α:Type} (s:List (Option α)) (i j:Int):Option (((List α) × Unit) × Unit):=
 bif decide (0≤i)&&decide (i≤j)&&decide (j≤(s.length:Int)) then (Qd (s.take i.toNat++s.drop j.toNat)).bind fun r=>some ((r,()),()) else none
theorem Qia {α:Type} (z:α) (c:Nat) (s:List (Option α)) (i j:Int) (r) (_hc:c≤maxLen) (h:Qb3 s i j=some r):Qbf z c s i j=some r:=by
 unfold Qb3 at h
 cases hq:(decide (0≤i)&&decide (i≤j)&&decide (j≤(s.length:Int))) with
 | false=>rw [hq] at h;cases h
 | true=>
 rw [hq] at h
 obtain ⟨r0,ha,h⟩:=Option.bind_eq_some_iff.1 h
 have h:=Option.some.inj h
 subst h
 simp only [Bool.and_eq_true,decide_eq_true_eq] at hq
 obtain ⟨⟨h0,h1⟩,h2⟩:=hq
 obtain ⟨a,rfl⟩:∃ a:Nat,i=(a:Int):=⟨i.toNat,by omega⟩
 obtain ⟨b,rfl⟩:∃ b:Nat,j=(b:Int):=⟨j.toNat,by omega⟩
 simp only [Int.toNat_natCast] at ha
 have ha:=Q19 ha
 have hla:(s.take a).length=a:=by rw [List.length_take];omega
 have hra:r0.length=a+(s.length - b):=by
  have:=congrArg List.length ha
  rw [List.length_append,hla,List.length_drop,List.length_map] at this
  omega
 have e1:s.take a=(r0.take a).map some:=by
  have:=congrArg (List.take a) ha
  rw [List.take_append_of_le_length (by omega),List.take_of_length_le (by omega)] at this
  rw [this,List.map_take]
 have e2:s.drop b=(r0.drop a).map some:=by
  have:=congrArg (List.drop a) ha
  rw [List.drop_append_of_le_length (by omega),List.drop_of_length_le (by omega),List.nil_append] at this
  rw [this,List.map_drop]
 have hys:∀ j,j<s.length→(List.append s (List.replicate c none))[j]?=s[j]?:=fun j hj=>by
  show (s++_)[j]?=_
  rw [List.getElem?_append_left hj]
 have hlen:(List.append s (List.replicate c none)).length=s.length+c:=by
  show (s++_).length=_
  simp
 have m1:((s.length:Int) - (b:Int)).toNat=s.length - b:=by omega
 have hb0:a=b→Qd (List.take s.length (List.append s (List.replicate c none)))=some r0:=fun e=>Zr (by
  show List.take s.length (s++_)=_
  rw [List.take_append_of_le_length (by omega),List.take_of_length_le (by omega),← ha,e,List.take_append_drop])
 unfold Qbf
 simp only [Int.toNat_natCast,Int.sub_zero,Nat.zero_add,Nat.sub_zero,m1]
 generalize hY:List.append s (List.replicate c none)=Y at *
 have hdl:(r0.drop a).length=s.length - b:=by rw [List.length_drop];omega
 have hdrop:Qd (List.take (s.length - b) (List.drop b Y))=some (r0.drop a):=Zr (by
  rw [← e2]
  refine List.ext_getElem? fun j=>?_
  rw [List.getElem?_take,List.getElem?_drop,List.getElem?_drop]
  by_cases hj:j<s.length - b
  ·rw [if_pos hj,hys _ (by omega)]
  ·rw [if_neg hj,List.getElem?_eq_none (by omega)])
 rw [Q7 (by simp only [Bool.and_eq_true,decide_eq_true_eq,Q2,Zg,beq_iff_eq,and_true,true_and];omega)]
 by_cases hab:a=b
 ·rw [Q7 (by simp [hab])]
  rw [Q7 (Q2.2 (by omega)),hb0 hab]
  rfl
 rw [Zm (beq_eq_false_iff_ne.2 (by omega))]
 repeat rw [Q7 (by simp only [Bool.and_eq_true,decide_eq_true_eq,Q2,Zg,beq_iff_eq,and_true,true_and];omega)]
 rw [hdrop]
 show (bif _ then _ else _)=_
 have w1:(Q6 Y a (r0.drop a)).length=Y.length:=Z3 (by omega)
 have n1:((s.length:Int) - ((a+(r0.drop a).length:Nat):Int)).toNat=b - a:=by omega
 simp only [n1]
 have w2:(Q6 (Q6 Y a (r0.drop a)) (a+(r0.drop a).length) (List.replicate (b - a) z)).length=Y.length:=by rw [Z3 (by rw [List.length_replicate];omega),w1]
 repeat rw [Q7 (by simp only [Bool.and_eq_true,decide_eq_true_eq,Q2,Zg,beq_iff_eq,and_true,true_and];omega)]
 rw [Zr (r:=r0) (by
  refine List.ext_getElem? fun j=>?_
  rw [List.getElem?_take]
  by_cases hj:j<a+(r0.drop a).length
  ·rw [if_pos hj,Qj (by omega),if_pos hj,Qj (by omega)]
   by_cases h3:j<a
   ·rw [if_pos h3,hys j (by omega),← ha,List.getElem?_append_left (by omega),List.getElem?_take,if_pos h3]
   ·rw [if_neg h3,if_pos hj,← ha,List.getElem?_append_right (by omega),hla,e2,List.getElem?_map]
  ·rw [if_neg hj,List.getElem?_eq_none (by rw [List.length_map];omega)])]
 rfl
end Go.PE
