/-
  The evaluator PE and its soundness, part 3.
  Conditions: none.
-/
import Derived.Lib.Overlaps
import Derived.Lib.AppendZerosOnto
import Derived.LoopN
import Derived.Orders
import Derived.Test.YtmfiijdlhjajcaaGreatDoorE2
set_option linter.unusedVariables false
set_option linter.unusedSimpArgs false
namespace Go.PE
section
variable {P:Program} {tab:Tab} {N:NN} {w0:World} {F:FF} {S:Nat→Prop} {β:Lab→Value} {st:St} {a:Act} {w:World}
theorem Q6b (h:Rel P tab.ty N w0 F S β st a w) {S':Nat→Prop} (hS:∀ k,S k→S' k):∀ {ts:List Ty} {svs:List SV} {vals:List Value} {x:Zg ts} {rd:List Lab},
  Q70 (Q0 st.objs) ts svs=some (x,rd)→Q0v P tab.ty S β w svs vals→(∀ l∈rd,∀ k,blk (β l)=some k→S' k)→Xr tab.ty S' w ts x vals
 | [],[],vals,x,rd,he,hv,hr=>hv
 | [],_::_,vals,x,rd,he,hv,hr=>by cases he
 | _::_,[],vals,x,rd,he,hv,hr=>by cases he
 | t::r,sv::q,vals,x,rd,he,hv,hr=>by
  cases sv<;>try (cases he;done)
  case cv c=>
  obtain ⟨v,vr,rfl,h1,h2⟩:=hv
  obtain ⟨y,hy,he⟩:=Option.bind_eq_some_iff.1 he
  obtain ⟨z,hz,he⟩:=Option.bind_eq_some_iff.1 he
  obtain ⟨e1,e2⟩:=Prod.mk.inj (Option.some.inj he)
  subst e1;subst e2
  refine ⟨v,vr,rfl,(Q5q h.objs hy h1).mono (fun k hk=>?_),Q6b h hS hz h2 (fun l hl=>hr l (List.mem_append.2 (.inr hl)))⟩
  rcases hk with hk | ⟨l,hl,hk⟩
  ·exact hS k hk
  ·exact hr l (List.mem_append.2 (.inl hl)) k hk
theorem Q8c:∀ {ts:List Ty} {x:Zg ts} {vs:List Value},Xr tab.ty S w ts x vs→Zv P tab.ty S β w (Q9z ts x) vs
 | [],x,vs,h=>h
 | t::r,x,vs,h=>by obtain ⟨v,vr,rfl,h1,h2⟩:=h;exact ⟨v,vr,rfl,Q37 h1,Q8c h2⟩
theorem Qe3 {cs:List CV} {vs:List Value} (h:Zv P tab.ty S β w cs vs):Qf P tab.ty S β w (Qdv cs) (Q5n vs):=by
 have hl:=h.len
 match cs,vs,h with
 | [],[],h=>exact ⟨[],rfl,h⟩
 | [c],[v],h=>
  obtain ⟨v',vr,e,h1,_⟩:=h
  have:=List.cons.inj e
  rw [← this.1] at h1
  exact h1
 | c::c2::q,v::v2::r,h=>exact ⟨_,rfl,h⟩
 | [],_::_,h=>cases hl
 | [_],[],h=>cases hl
 | [_],_::_::_,h=>simp at hl
 | _::_::_,[],h=>cases hl
 | _::_::_,[_],h=>simp at hl
theorem Xr.flat {S':Nat→Prop} {w':World}:∀ {ts:List Ty} {x:Zg ts} {vs:List Value},(∀ t∈ts,t.flat=true)→Xr tab.ty S w ts x vs→Xr tab.ty S' w' ts x vs
 | [],x,vs,_,h=>h
 | t::r,x,vs,hf,h=>by
  obtain ⟨v,vr,rfl,h1,h2⟩:=h
  exact ⟨v,vr,rfl,h1.flat (hf t (List.mem_cons_self ..)),Xr.flat (fun t ht=>hf t (List.mem_cons_of_mem _ ht)) h2⟩
theorem Qft (h:Rel P tab.ty N w0 F S β st a w) {o:Oper} {f:Operand} {args:Array Operand} {ts:Array TypeId} (ho:o.op=.call { callee:=.value f,args:=args,argTypes:=ts })
  {ps rs:List Ty} {g:Zg ps→Option (Zg rs)} (hf:Qb st.slots f=.cv (.one (.clo ps rs g))) {x:Zg ps} {rd:List Lab} (hx:Q70 (Q0 st.objs) ps (args.toList.map (Qb st.slots))=some (x,rd))
  (hrd:rd.all (Q0g (Q0 st.objs))=true) {r:Zg rs} (hr:g x=some r):Xc P tab N w0 F S β st a w o (Qdv (Q9z rs r)) [] []:=by
 have hfe:=Q4 h f
 rw [hf] at hfe
 obtain ⟨hfl,fid,cap,hv,hok,hc⟩:=hfe
 have hex:∀ l∈rd,∃ ob,Q0 st.objs l=some ob:=fun l hl=>Q3k (List.all_eq_true.1 hrd l hl)
 have hsub:∀ k,S k→(S k∨Q07 st β rd k):=fun k hk=>.inl hk
 have hargs:=Q6b h hsub hx (Q3y h args.toList) (fun l hl k hk=>by obtain ⟨ob,hlo⟩:=hex l hl;exact .inr ⟨l,hl,ob,hlo,hk⟩)
 intro Q K hK
 refine Q5c ho hv hok Q K ?_
 rw [show args.map a.eval=(args.toList.map a.eval).toArray by apply Array.ext';simp]
 refine Calls.mono (hc w _ x _ r hsub (Nat.le_refl _) (fun _ _ _=>rfl) (fun k hk=>hk.elim (h.sb k) (fun ⟨l,_,ob,hlo,hb⟩=>(h.excl l ob hlo k hb).2.2)) hargs hr) (fun ex w' hex=>?_)
 obtain ⟨vs,rfl,hvs,hfr⟩:=hex
 refine ⟨_,rfl,hK _ _ (fun st' hst=>?_)⟩
 have e:Qs (delAll st []) (o.dst.getD 999999999) []=some st:=rfl
 rw [e] at hst
 have:=Option.some.inj hst
 subst this
 exact ⟨S,β,fun _ hk=>hk,fun _ _=>rfl,h.grow' hfr,Qe3 (Q8c (hvs.flat hfl))⟩
theorem Qe1 {t:Ty} {v:LV} {x:t.den} {c:Value} (hd:Jj (fun _=>none) t v=some x) (hv:Qm P tab.ty S β w v c):Rep tab.ty S w t x [c]:=by
 have hr:=Q24 (st:={ slots:=[],objs:=[] }) (S:=S) (β:=β) (w:=w) (P:=P) (τ:=tab.ty) (fun l ob ho=>by cases ho) (t:=t) (v:=v) (x:=x) (c:=c) hd hv
 cases v
 case ref l=>cases hd
 all_goals exact hr.mono (fun k hk=>hk.elim id (fun ⟨l,hl,_⟩=>by cases hl))
theorem Q6n:∀ {vs ps:List LV} {cs:List Value},Q76 (fun _=>none) vs ps→Q5 P tab.ty S β w vs cs→Xo tab.ty S w ps cs
 | [],[],cs,_,h=>h
 | [],_::_,_,h,_=>h.elim
 | _::_,[],_,h,_=>h.elim
 | v::r,p::q,cs,hd,h=>by
  cases p<;>try exact hd.elim
  case pure t y=>
  obtain ⟨c,cr,rfl,h1,h2⟩:=h
  exact ⟨c,cr,rfl,Qe1 hd.1 h1,Q6n hd.2 h2⟩
def Qjj (t:Ty) (vs:List LV):Option t.den:=match Q1s (fun _=>none) t vs with | some (x,[])=>some x | _=>none
theorem Qcj {t:Ty} {vs:List LV} {x:t.den} {cs:List Value} (hd:Q17 (fun _=>none) t vs=some x) (hv:Q5 P tab.ty S β w vs cs):Rep tab.ty S w t x cs:=
 Q4g (Q6n (Q1u hd) hv)
theorem Rel.frzBox (h:Rel P tab.ty N w0 F S β st a w) {l:Lab} {T0:TypeId} {st':St} {t:Ty} {x:t.den} (hf:PE.frzBox st l T0 tab=some (st',⟨t,x⟩)) {v:Value} (hv:Qm P tab.ty S β w (.ptr l 0) v) :
  ∃ S',(∀ k,S k→S' k)∧Rel P tab.ty N w0 F S' β st' a w∧Jb tab.ty S' w t x v:=by
 unfold PE.frzBox at hf
 cases hol:Q0 st.objs l with
 | none=>rw [hol] at hf;cases hf
 | some ob=>
  rw [hol] at hf
  cases ob<;>try (cases hf;done)
  case box T' vs=>
  obtain ⟨t',ht,hf⟩:=Option.bind_eq_some_iff.1 hf
  obtain ⟨x',hx,hf⟩:=Option.bind_eq_some_iff.1 hf
  obtain ⟨e1,e2⟩:=Prod.mk.inj (Option.some.inj hf)
  subst e1
  injection e2 with e3 e4
  subst e3
  have e4:=eq_of_heq e4
  subst e4
  obtain ⟨b,T'',cs,hβ,hh,hrels⟩:=h.objs l _ hol
  have hbk:blk (β l)=some b:=by rw [hβ];rfl
  obtain ⟨g1,g2,g3⟩:=h.excl l _ hol b hbk
  have hsub:∀ k,S k→(S k∨k=b):=fun k hk=>.inl hk
  have hrep:Rep tab.ty S w t' x' cs.toList:=by
   refine Qcj (vs:=vs) (P:=P) (β:=β) ?_ hrels
   unfold Q17
   exact hx
  have hep:∀ u,Qm P tab.ty S β w (.ptr l 0) u→Jb tab.ty (fun k=>S k∨k=b) w t' x' u:=by
   intro u hu
   obtain ⟨b',hb1,hb2⟩:=hu
   rw [hβ] at hb1
   simp only [Value.pointer.injEq,Option.some.injEq,Addr.mk.injEq] at hb1
   obtain ⟨rfl,_⟩:=hb1
   refine ⟨b,0,cs.toList,hb2,.inr rfl,g3,?_,hrep.mono hsub⟩
   intro j hj
   rw [cell_of_row w b _ cs T'' (0,0) hh]
   rw [Array.length_toList] at hj
   rw [Nat.zero_add,List.getD_eq_getElem?_getD,Array.getElem?_toList,Array.getElem?_eq_getElem hj]
   rfl
  refine ⟨fun k=>S k∨k=b,hsub,⟨?_,fun u=>?_,fun m ob hm=>?_,fun m ob hm k hk=>?_,fun m m' ob ob' hm hm' hne=>?_,h.fr,h.size,h.nodef,?_,h.par⟩,hep v hv⟩
  ·rintro k (hk | rfl)
   ·exact h.sb k hk
   ·exact g3
  ·have e1:Q9 (st.slots.map fun (p:Nat × SV)=>(p.1,Qf8 l t' x' p.2)) u=Qf8 l t' x' (Q9 st.slots u):=by
    refine Q8k (fun v=>Qf8 l t' x' v) ?_ st.slots u
    rfl
   show Qf P tab.ty _ β w (Q9 (st.slots.map fun (p:Nat × SV)=>(p.1,Qf8 l t' x' p.2)) u) _
   rw [e1]
   have hs:=h.slots u
   have keep:∀ v,Qf P tab.ty S β w v (a.tmps.getD u undef)→Qf P tab.ty (fun k=>S k∨k=b) β w v (a.tmps.getD u undef):=fun v hv=>
    hv.frame hsub (Nat.le_refl _) (fun _ _ _=>rfl) h.sb (fun _ _=>rfl)
   revert hs
   generalize Q9 st.slots u=sv
   intro hs
   unfold Qf8
   split
   ·rename_i m
    cases hm:Xl m l with
    | true=>
     have:=Zd.1 hm
     subst this
     exact hep _ hs
    | false=>exact keep _ hs
   ·cases Xu l (Qe sv) with
    | true=>trivial
    | false=>exact keep _ hs
  ·simp only [Zw] at hm
   split at hm
   ·cases hm
   ·exact (h.objs m ob hm).frame hsub (Nat.le_refl _) (fun _ _ _=>rfl) h.sb (fun _ _=>rfl) (fun _ _=>rfl)
  ·simp only [Zw] at hm
   split at hm
   ·cases hm
   ·rename_i hne
    obtain ⟨k1,k2,k3⟩:=h.excl m ob hm k hk
    refine ⟨fun hx=>?_,k2,k3⟩
    rcases hx with hx | rfl
    ·exact k1 hx
    ·exact h.dist m l ob _ hm hol (fun e=>hne e.symm) k hk hbk
  ·simp only [Zw] at hm hm'
   split at hm
   ·cases hm
   ·split at hm'
    ·cases hm'
    ·exact h.dist m m' ob ob' hm hm' hne
  ·rintro k (hk | rfl)
   ·exact h.within k hk
   ·exact .inr g2
def Q1n (τ:TypeId→Option Ty) (S:Nat→Prop) (w:World):(ts:List Ty)→Zg ts→List Value→Prop
 | [],_,cs=>cs=[]
 | t::r,y,cs=>∃ c cr,cs=c::cr∧Jb τ S w t y.1 c∧Q1n τ S w r y.2 cr
theorem Q1n.frame {τ:TypeId→Option Ty} {S S':Nat→Prop} {w w':World} (hS:∀ k,S k→S' k) (hsz:w.heap.size≤w'.heap.size) (hk:∀ k,S k→k<w.heap.size→w'.heap[k]?=w.heap[k]?) :
  ∀ {ts:List Ty} {y:Zg ts} {cs:List Value},Q1n τ S w ts y cs→Q1n τ S' w' ts y cs
 | [],y,cs,h=>h
 | t::r,y,cs,h=>by obtain ⟨c,cr,rfl,g1,g2⟩:=h;exact ⟨c,cr,rfl,Jb.frame hS hsz hk g1,Q1n.frame hS hsz hk g2⟩
def Q1p (p:PK):Bool:=match p with | .rbox _=>true | _=>false
theorem Qgr {S:Nat→Prop}:∀ {ps:List PK} {x:Zg (Qu ps).1} {vals:List Value},ps.all Q1p=true→Xr tab.ty S w (Qu ps).1 x vals→vals=[]
 | [],x,vals,_,h=>h
 | .rbox t::r,x,vals,hs,h=>by
  simp only [List.all_cons,Bool.and_eq_true] at hs
  exact Qgr (ps:=r) hs.2 h
 | .val t::r,x,vals,hs,h=>by simp [Q1p] at hs
 | .box _ _ _::r,x,vals,hs,h=>by simp [Q1p] at hs
 | .fn _ _::r,x,vals,hs,h=>by simp [Q1p] at hs
 | .own _ _::r,x,vals,hs,h=>by simp [Q1p] at hs
theorem Q49 {S:Nat→Prop}:∀ {ps:List PK} {x:Zg (Qu ps).1} {y:Zg (Qu ps).2} {z:PDs ps} {caps:List Value},ps.all Q1p=true →
  Q7z ps x y=some z→Q1n tab.ty S w (Qu ps).2 y caps→X3 tab.ty P S w ps z caps []
 | [],x,y,z,caps,hs,hj,hc=>⟨hc,rfl⟩
 | .rbox t::r,x,y,z,caps,hs,hj,hc=>by
  obtain ⟨z',hz,hj⟩:=Option.bind_eq_some_iff.1 hj
  have:=Option.some.inj hj
  subst this
  simp only [List.all_cons,Bool.and_eq_true] at hs
  obtain ⟨c,cr,rfl,h1,h2⟩:=hc
  exact ⟨c,cr,[],[],rfl,rfl,⟨h1,rfl⟩,Q49 hs.2 hz h2⟩
 | .val t::r,x,y,z,caps,hs,hj,hc=>by simp [Q1p] at hs
 | .box _ _ _::r,x,y,z,caps,hs,hj,hc=>by simp [Q1p] at hs
 | .fn _ _::r,x,y,z,caps,hs,hj,hc=>by simp [Q1p] at hs
 | .own _ _::r,x,y,z,caps,hs,hj,hc=>by simp [Q1p] at hs
theorem Q7f {S:Nat→Prop}:∀ {ps:List PK} {x:Zg (Qu ps).1} {y:Zg (Qu ps).2} {z:PDs ps} {vals caps:List Value},Xh ps=true →
  Q7z ps x y=some z→Xr tab.ty S w (Qu ps).1 x vals→Q1n tab.ty S w (Qu ps).2 y caps→X3 tab.ty P S w ps z (vals++caps) []
 | [],x,y,z,vals,caps,hs,hj,hv,hc=>by
  have hv:vals=[]:=hv
  subst hv
  exact ⟨hc,rfl⟩
 | .val t::r,x,y,z,vals,caps,hs,hj,hv,hc=>by
  obtain ⟨z',hz,hj⟩:=Option.bind_eq_some_iff.1 hj
  have:=Option.some.inj hj
  subst this
  obtain ⟨v,vr,rfl,h1,h2⟩:=hv
  exact ⟨v,vr++caps,[],[],rfl,rfl,⟨h1,rfl⟩,Q7f (ps:=r) hs hz h2 hc⟩
 | .rbox t::r,x,y,z,vals,caps,hs,hj,hv,hc=>by
  have hv':=Qgr (ps:=.rbox t::r) hs hv
  subst hv'
  exact Q49 (ps:=.rbox t::r) hs hj hc
 | .box _ _ _::r,x,y,z,vals,caps,hs,hj,hv,hc=>by simp [Xh] at hs
 | .fn _ _::r,x,y,z,vals,caps,hs,hj,hv,hc=>by simp [Xh] at hs
 | .own _ _::r,x,y,z,vals,caps,hs,hj,hv,hc=>by simp [Xh] at hs
theorem Q4u.clo {f:FuncId} {e:Ent} (hG:Q4u tab.ty P f e) (hs:Xh e.ps=true) (hr:e.rs.all Q0f=true) {y:Zg (Qu e.ps).2} {caps:List Value} (hc:Q1n tab.ty S w (Qu e.ps).2 y caps) :
  Q3b tab.ty P S w (Qu e.ps).1 (e.rs.map (·.t)) (Qbe e y (e.rs.map (·.t))) (.func (.func f) #[] caps.toArray):=by
 refine ⟨fun t ht=>?_,f,caps.toArray,rfl,hG.1,fun w' S' x vals r h1 h2 h3 h4 h5 h6=>?_⟩
 ·obtain ⟨k,hk,rfl⟩:=List.mem_map.1 ht
  have:=List.all_eq_true.1 hr k hk
  unfold Q0f at this
  simp only [Bool.and_eq_true] at this
  exact this.1
 ·unfold Qbe at h6
  obtain ⟨z,hz,h6⟩:=Option.bind_eq_some_iff.1 h6
  obtain ⟨z2,hz2,h6⟩:=Option.bind_eq_some_iff.1 h6
  have hc':Q1n tab.ty S' w' (Qu e.ps).2 y caps:=hc.frame h1 h2 h3
  rw [show vals.toArray++caps.toArray=(vals++caps).toArray by simp]
  refine Calls.mono (hG.2 w' S' z (vals++caps) [] z2 h4 (Q7f hs hz h5 hc') List.nodup_nil (fun k hk=>by cases hk) hz2) (fun ex w'' hex=>?_)
  obtain ⟨vs,S1,B1,B2,he,hres,_,_,_,_,_,hfr⟩:=hex
  exact ⟨vs,he,Q4k h6 hr hres,hfr.mono (fun k hk=>by cases hk)⟩
end
end Go.PE
set_option linter.unusedVariables false
set_option linter.unusedSimpArgs false
namespace Go.PE
section
variable {P:Program} {tab:Tab} {N:NN} {w0:World} {F:FF} {S:Nat→Prop} {β:Lab→Value} {st:St} {a:Act} {w:World}
theorem Qbx {α:Type} {ys:List (Option α)} {p:Nat} {zs:List α} (hp:p+zs.length≤ys.length) (i:Nat) :
  (Q6 ys p zs)[i]?=if p≤i∧i<p+zs.length then (zs[i - p]?).map some else ys[i]?:=by
 unfold Q6
 have h1:(ys.take p).length=p:=by rw [List.length_take];omega
 by_cases hi:i<p
 ·rw [if_neg (by omega),List.append_assoc,List.getElem?_append_left (by omega),List.getElem?_take,if_pos hi]
 ·by_cases hj:i<p+zs.length
  ·rw [if_pos ⟨by omega,hj⟩,List.append_assoc,List.getElem?_append_right (by omega),h1,List.getElem?_append_left (by rw [List.length_map];omega),List.getElem?_map]
  ·rw [if_neg (by omega),List.append_assoc,List.getElem?_append_right (by omega),h1,List.getElem?_append_right (by rw [List.length_map];omega),List.length_map,List.getElem?_drop]
   congr 1
   omega
theorem Q67 {α:Type} {ys:List (Option α)} {p:Nat} {zs:List α} (hp:p+zs.length≤ys.length):(Q6 ys p zs).length=ys.length:=by
 unfold Q6
 simp only [List.length_append,List.length_take,List.length_map,List.length_drop]
 omega
theorem Q8.write {τ:TypeId→Option Ty} {e:Ty} (hpos:0<e.cells) {ys:List (Option e.den)} {cs:List Value} {p:Nat} {zs:List e.den} {news:List Value} (h:Q8 τ S w e ys cs) (hn:Q1 τ S w e zs news) (hp:p+zs.length≤ys.length)
  (hcs:ys.length*e.cells≤cs.length):Q8 τ S w e (Q6 ys p zs) (cs.take (p*e.cells)++news++cs.drop (p*e.cells+news.length)):=by
 have hl:=hn.length
 have hpc:p*e.cells+news.length≤cs.length:=by
  rw [hl,← Nat.add_mul];exact Nat.le_trans (Nat.mul_le_mul_right _ hp) hcs
 intro i x hi
 rw [Qbx hp] at hi
 by_cases hq:p≤i∧i<p+zs.length
 ·rw [if_pos hq] at hi
  have hlt:i - p<zs.length:=by omega
  rw [List.getElem?_eq_getElem hlt] at hi
  have hx:zs.getD (i - p) e.dflt=x:=by
   rw [List.getD_eq_getElem?_getD,List.getElem?_eq_getElem hlt]
   exact Option.some.inj (Option.some.inj hi)
  have hr:=hn.elem (i - p) hlt
  rw [hx] at hr
  have hb:(i - p)*e.cells+e.cells≤news.length:=by
   rw [hl]
   have:=Nat.mul_le_mul_right e.cells (show i - p+1≤zs.length by omega)
   rw [Nat.add_mul,Nat.one_mul] at this
   exact this
  have e0:i*e.cells=p*e.cells+(i - p)*e.cells:=by rw [← Nat.add_mul];congr 1;omega
  have e1:(cs.take (p*e.cells)).length=p*e.cells:=by rw [List.length_take];omega
  have e2:((cs.take (p*e.cells)++news++cs.drop (p*e.cells+news.length)).drop (i*e.cells)).take e.cells=(news.drop ((i - p)*e.cells)).take e.cells:=by
   rw [e0,List.append_assoc,List.drop_append,List.drop_eq_nil_of_le (by omega),e1,Nat.add_sub_cancel_left,List.nil_append,List.drop_append_of_le_length (by omega),List.take_append_of_le_length (by rw [List.length_drop];omega)]
  rw [e2]
  exact hr
 ·rw [if_neg hq] at hi
  have hr:=h i x hi
  have hil:i<ys.length:=by
   rcases Nat.lt_or_ge i ys.length with hlt | hge
   ·exact hlt
   ·rw [List.getElem?_eq_none hge] at hi;cases hi
  have hb:i*e.cells+e.cells≤cs.length:=by
   have:=Nat.mul_le_mul_right e.cells (show i+1≤ys.length by omega)
   rw [Nat.add_mul,Nat.one_mul] at this
   omega
  have e1:(cs.take (p*e.cells)).length=p*e.cells:=by rw [List.length_take];omega
  have e2:((cs.take (p*e.cells)++news++cs.drop (p*e.cells+news.length)).drop (i*e.cells)).take e.cells=(cs.drop (i*e.cells)).take e.cells:=by
   rcases Nat.lt_or_ge i p with hlt | hge
   ·have hb2:i*e.cells+e.cells≤p*e.cells:=by
     have:=Nat.mul_le_mul_right e.cells (show i+1≤p by omega)
     rw [Nat.add_mul,Nat.one_mul] at this
     exact this
    rw [List.append_assoc,List.drop_append_of_le_length (by omega),List.take_append_of_le_length (by rw [List.length_drop];omega),List.drop_take,List.take_take,show min e.cells (p*e.cells - i*e.cells)=e.cells by omega]
   ·have hge2:p+zs.length≤i:=by omega
    have hb2:p*e.cells+news.length≤i*e.cells:=by rw [hl,← Nat.add_mul];exact Nat.mul_le_mul_right _ hge2
    rw [List.drop_append,List.drop_eq_nil_of_le (by rw [List.length_append];omega),List.nil_append,List.length_append,e1,List.drop_drop,show p*e.cells+news.length+(i*e.cells - (p*e.cells+news.length))=i*e.cells by omega]
  rw [e2]
  exact hr
theorem Q6z (h:Rel P tab.ty N w0 F S β st a w) {d:Nat} {l:Lab} {ob0 ob:Ob} (ho:Q0 st.objs l=some ob0) {w':World} (hf:Fr (fun k=>blk (β l)=some k) w w') (hsz:w'.heap.size=w.heap.size)
  (hob:∀ β':Lab→Value,β' l=β l→Z6 P tab.ty S β' w' ob (β l)) {v:SV} {x:Value} (hv:∀ β':Lab→Value,β' l=β l→Qf P tab.ty S β' w' v x) {st':St} (hst:Qs st d [(l,ob)]=some st') :
  ∃ S' β',(∀ k,S k→S' k)∧(∀ m:Lab,m.1≠d→β' m=β m)∧Rel P tab.ty N w0 F S' β' st' a w'∧Qf P tab.ty S' β' w' v x:=by
 have hu:=Jf hst
 have hl:l.1≠d:=fun e=>by
  have hg:Q0 [(l,ob)] l=some ob:=by rw [Q3,if_pos rfl]
  have:=(Z4 (hu.news l ob hg e)).1
  rw [Zr] at this
  split at this
  ·rename_i hm
   obtain ⟨p,hp,he⟩:=List.mem_map.1 hm
   have hp2:=(List.mem_filter.1 hp).2
   rw [he,Z7.2 e] at hp2
   cases hp2
  ·rw [ho] at this;cases this
 have hup:Zh d [(l,ob)]=[(l,ob)]:=by unfold Zh;simp [Qz.2 hl]
 have hbl:Jh β d [(l,ob)] β l=β l:=Xn hl
 refine ⟨S,Jh β d [(l,ob)] β,fun _ x=>x,fun m hm=>Xn hm,?_,hv _ hbl⟩
 refine h.upd (del:=[]) hst hf (fun k _ hx=>?_) (fun _ x=>x) (fun k hk=>.inl hk) (fun k hk=>by rw [hsz];exact h.sb k hk) β (fun m ob' hm=>?_)
 ·rw [hup];exact ⟨l,by simp,ob0,ho,hx⟩
 ·rw [Q3] at hm
  split at hm
  ·rename_i e
   subst e
   have:=Option.some.inj hm
   subst this
   rw [hbl]
   refine ⟨hob _ hbl,fun b hb=>?_⟩
   obtain ⟨g1,g2,g3⟩:=h.excl l ob0 ho b hb
   refine ⟨g1,.inr ⟨l,by rw [hup];simp,ob0,ho,hb⟩,by rw [hsz];exact g3,fun m ob2 hne hm2=>?_⟩
   rw [Q3,if_neg (fun e=>hne e.symm)] at hm2
   cases hm2
  ·cases hm
theorem Qfg (w:World) (g:Nat) (cs:Array Value):Fr (fun k=>k=g) w (w.setRow g cs):=
 ⟨rfl,rfl,rfl,by simp,fun k _ hk=>setRow_other w g k _ hk⟩
theorem Q9q (h:Rel P tab.ty N w0 F S β st a w) {l:Lab} {eT:TypeId} {e:Ty} {ys:List (Option e.den)} {n0:Nat} {ex:Bool} (ho:Q0 st.objs l=some (.mem eT e ys n0 ex)) {g:Nat} (hg:blk (β l)=some g)
  {p:Nat} {zs:List e.den} {news:List Value} (hn:Q1 tab.ty S w e zs news) (hp:p+zs.length≤ys.length) :
  ∃ cur:Array Value,w.heap[g]?=some (.cells cur eT (0,0))∧p*e.cells+news.length≤cur.size ∧
   ∀ (w1:World),w1.heap=w.heap→w1.os=w.os→w1.tape=w.tape→w1.output=w.output →
   Fr (fun k=>blk (β l)=some k) w (w1.setRow g (cur.toList.take (p*e.cells)++news++cur.toList.drop (p*e.cells+news.length)).toArray) ∧
   (w1.setRow g (cur.toList.take (p*e.cells)++news++cur.toList.drop (p*e.cells+news.length)).toArray).heap.size=w.heap.size ∧
   ∀ β':Lab→Value,Z6 P tab.ty S β' (w1.setRow g (cur.toList.take (p*e.cells)++news++cur.toList.drop (p*e.cells+news.length)).toArray) (.mem eT e (Q6 ys p zs) n0 ex) (β l):=by
 obtain ⟨hpos,A,c,hv,h1,h2,h3,h4,h5⟩:=h.objs l _ ho
 have hl:=hn.length
 rw [hv] at hg
 rcases h5 with ⟨rfl,_⟩ | ⟨g',cur,rfl,hh,hcs,hm⟩
 ·cases hg
 simp only [blk,Option.some.injEq] at hg
 subst hg
 have e0:cur.toList.length=cur.size:=by simp
 have hcl:ys.length*e.cells≤cur.toList.length:=by rw [e0,hcs];exact Nat.mul_le_mul_right _ h1
 have hfit:p*e.cells+news.length≤cur.size:=by
  have:=Nat.mul_le_mul_right e.cells hp
  rw [Nat.add_mul] at this
  omega
 refine ⟨cur,hh,hfit,fun w1 e1 e2 e3 e4=>?_⟩
 have hs:(w1.setRow g' (cur.toList.take (p*e.cells)++news++cur.toList.drop (p*e.cells+news.length)).toArray).heap.size=w.heap.size:=by
  have:=(Qfg w1 g' (cur.toList.take (p*e.cells)++news++cur.toList.drop (p*e.cells+news.length)).toArray).size
  simp [World.setRow,e1]
 have hoth:∀ k,k≠g'→(w1.setRow g' (cur.toList.take (p*e.cells)++news++cur.toList.drop (p*e.cells+news.length)).toArray).heap[k]?=w.heap[k]?:=fun k hk=>by
  rw [setRow_other w1 g' k _ hk,e1]
 refine ⟨⟨e2,e3,e4,Nat.le_of_eq hs.symm,fun k _ hk=>hoth k (fun e=>hk (by rw [hv];simp [blk,e]))⟩,hs,fun β'=>?_⟩
 refine ⟨hpos,some ⟨g',0,none⟩,c,hv,by rw [Q67 hp];exact h1,h2,h3,fun hx=>by rw [Q67 hp];exact h4 hx,.inr ⟨g',_,rfl,setRow_heap w1 g' cur _ eT _ (by rw [e1];exact hh),?_,?_⟩⟩
 ·rw [List.size_toArray,List.length_append,List.length_append,List.length_take,List.length_drop,Array.length_toList,← hcs]
  omega
 ·have hnS:¬ S g':=(h.excl l _ ho g' (by rw [hv];rfl)).1
  refine Q8.frame (w:=w) (fun _ x=>x) (Nat.le_of_eq hs.symm) (fun k hk _=>hoth k (fun e=>hnS (e▸hk))) ?_
  rw [List.toList_toArray]
  exact hm.write hpos hn hp hcl
end
end Go.PE
set_option linter.unusedVariables false
set_option linter.unusedSimpArgs false
namespace Go.PE
section
variable {P:Program} {tab:Tab} {N:NN} {w0:World} {F:FF} {S:Nat→Prop} {β:Lab→Value} {st:St} {a:Act} {w:World}
theorem Q3u (hTab:Qc P tab) {T eT:TypeId} {e:Ty} (h:Q2h tab T eT e=true):P.underlying T=some (.slice eT)∧tab.ty eT=some e∧0<e.cells:=by
 unfold Q2h at h
 split at h
 case h_2=>cases h
 case h_1 eT' htd=>
 simp only [Bool.and_eq_true] at h
 obtain ⟨h1,h2⟩:=h
 have e1:=Nat.eq_of_beq_eq_true h1
 subst e1
 split at h2
 case h_2=>cases h2
 case h_1 e' hte=>
 have e2:=Ty.eq_of_beq h2
 subst e2
 exact ⟨hTab.td T _ htd,hte,hTab.pos T _ _ htd hte⟩
theorem Q8g {e:Ty} {g:Nat} {cur:Array Value} {eT:TypeId} (hh:w.heap[g]?=some (.cells cur eT (0,0))) {o:Nat} {news:List Value} (hn:news=(cur.toList.drop o).take news.length) {j:Nat} {u:Value} (hu:news[j]?=some u) :
  w.cell? ((⟨g,o,none⟩:Addr).add j)=some u:=by
 rw [Zq,cell_of_row w g _ cur eT (0,0) hh]
 rw [hn,List.getElem?_take] at hu
 split at hu
 ·rw [List.getElem?_drop,Array.getElem?_toList] at hu;exact hu
 ·cases hu
def Qjp (P:Program) (tab:Tab) (S:Nat→Prop) (w:World) (e:Ty) (zs:List e.den) (m:Nat) (v:Value):Prop:=
 ∃ A c news,v=.slice A m c∧zs.length≤m∧(A=none→zs.length=0)∧(∀ ad,A=some ad→∀ j u,news[j]?=some u→w.cell? (ad.add j)=some u)∧Q1 tab.ty S w e zs news
theorem Q1.takeq {τ:TypeId→Option Ty} {e:Ty}:∀ {zs:List e.den} {news:List Value} (q:Nat),Q1 τ S w e zs news→Q1 τ S w e (zs.take q) (news.take (q*e.cells))
 | zs,news,0,h=>by simp [Q1]
 | [],news,q+1,h=>by have h:news=[]:=h;subst h;simp [Q1]
 | z::r,news,q+1,h=>by
  obtain ⟨c,cr,rfl,h1,h2⟩:=h
  have h3:=Q1.takeq q h2
  refine ⟨c,_,?_,h1,h3⟩
  rw [Nat.add_mul,Nat.one_mul,Nat.add_comm,← h1.length,List.take_append,List.take_of_length_le (Nat.le_add_right ..),Nat.add_sub_cancel_left]
theorem Q6y (hTab:Qc P tab) (h:Rel P tab.ty N w0 F S β st a w) {eT:TypeId} {e:Ty} {T':TypeId} {q:Option Nat} {x:Operand} {zs:List e.den} (he:Qbr tab (Q0 st.objs) eT e T' q (Qb st.slots x)=some zs) :
  ∃ m,Qjp P tab S w e zs m (a.eval x)∧zs.length=qn q m∧∃ eT',P.underlying T'=some (.slice eT'):=by
 have hx:=Q4 h x
 unfold Qbr at he
 split at he
 case h_3=>cases he
 case h_1 l lo n sz hs=>
  rw [hs] at hx
  obtain ⟨A,n0',c0,A',hβ,hle,hv,hA⟩:=hx
  split at he
  case h_2=>cases he
  case h_1 eT' e' ys n0 ex ho=>
  cases hq:(Nat.beq eT eT'&&Nat.beq sz e'.cells&&Nat.ble (lo+n) ys.length&&Q8e tab T') with
  | false=>rw [hq] at he;cases he
  | true=>
   rw [hq] at he
   simp only [cond_true] at he
   simp only [Bool.and_eq_true] at hq
   have e1:=Nat.eq_of_beq_eq_true hq.1.1.1
   have e2:=Nat.eq_of_beq_eq_true hq.1.1.2
   have e3:=Q2.1 hq.1.2
   have hsl:∃ eT',P.underlying T'=some (.slice eT'):=by
    have:=hq.2
    unfold Q8e at this
    split at this
    ·rename_i eT2 htd;exact ⟨eT2,hTab.td T' _ htd⟩
    ·cases this
   subst e1;subst e2
   obtain ⟨ws,hws,he⟩:=Option.bind_eq_some_iff.1 he
   obtain ⟨e4,e5⟩:=Z1 he
   injection e4 with _ e6
   subst e6
   have e5:ws=zs:=e5
   subst e5
   obtain ⟨hpos,A2,c,hv2,h1,h2,h3,h4,h5⟩:=h.objs l _ ho
   rw [hv2] at hβ
   injection hβ with g1 g2 g3
   subst g1;subst g2;subst g3
   have hk1:qn q n≤n:=by cases q with | none=>exact Nat.le_refl _ | some q=>exact Nat.min_le_right ..
   have hk2:=hws
   have hlen:=Q18 hk2 (by omega)
   refine ⟨n,?_,hlen,hsl⟩
   rcases h5 with ⟨rfl,hc0⟩ | ⟨g,cur,rfl,hh,hcs,hm⟩
   ·have hn:n=0:=by omega
    subst hn
    have hw0:ws=[]:=List.eq_nil_of_length_eq_zero (by omega)
    subst hw0
    exact ⟨A',_,[],hv,Nat.zero_le _,fun _=>rfl,fun _ _ j u hu=>by simp at hu,rfl⟩
   ·have hrc:=hm.slice hk2
    by_cases hz:ws.length=0
    ·have hw0:ws=[]:=List.eq_nil_of_length_eq_zero hz
     subst hw0
     exact ⟨A',_,[],hv,Nat.zero_le _,fun _=>rfl,fun _ _ j u hu=>by simp at hu,rfl⟩
    ·have hA':=hA (.inl (by omega))
     simp only [Option.map_some] at hA'
     rw [Zq,Nat.zero_add] at hA'
     have hrl:=hrc.length
     refine ⟨A',_,_,hv,by omega,(fun hn=>by rw [hA'] at hn;cases hn),fun ad had j u hu=>?_,hrc⟩
     rw [hA'] at had
     have:=Option.some.inj had
     subst this
     exact Q8g (e:=e') hh (by rw [hrl]) hu
 case h_2 lv hs=>
  rw [hs] at hx
  obtain ⟨ws,hws,he⟩:=Option.bind_eq_some_iff.1 he
  split at hws
  case h_2=>cases hws
  case h_1 eT2 htd=>
  unfold Q8a at hws
  rw [htd] at hws
  simp only at hws
  cases hq:Nat.beq eT eT2 with
  | false=>rw [hq] at hws;cases hws
  | true=>
   rw [hq] at hws
   have e1:=Nat.eq_of_beq_eq_true hq
   subst e1
   obtain ⟨A,c,news,hv,hA,hcell,hrc⟩:=Qfv h (lv:=lv) hws hx
   have he:=Option.some.inj he
   cases q with
   | none=>
    have he:ws=zs:=he
    subst he
    exact ⟨ws.length,⟨A,c,news,hv,Nat.le_refl _,hA,hcell,hrc⟩,rfl,_,hTab.td T' _ htd⟩
   | some q=>
    have he:ws.take q=zs:=he
    subst he
    refine ⟨ws.length,⟨A,c,_,hv,by rw [List.length_take];omega,(fun hn=>by rw [List.length_take,hA hn];omega),fun ad had j u hu=>?_,hrc.takeq q⟩,by rw [List.length_take];rfl,_,hTab.td T' _ htd⟩
    rw [List.getElem?_take] at hu
    split at hu
    ·exact hcell ad had j u hu
    ·cases hu
theorem Q4t {zs:List Value} {A:Option Addr} {m c k q:Nat} (hl:zs.length=q*k) (hA:A=none→zs.length=0) (hc:∀ ad,A=some ad→∀ j u,zs[j]?=some u→w.cell? (ad.add j)=some u) :
  (Builtin.firstCells k q (.slice A m c)).run P w=.ok zs.toArray w:=by
 cases A with
 | none=>
  have:=List.eq_nil_of_length_eq_zero (hA rfl)
  subst this
  exact run_firstCells_none w k q m c
 | some ad=>exact run_firstCells_some w k q ad m c zs hl (hc ad rfl)
theorem Q6f {α:Type} (ys:List (Option α)) (p:Nat):Q6 ys p ([]:List α)=ys:=by simp [Q6]
theorem Q3r (h:Rel P tab.ty N w0 F S β st a w) {x:Operand} {r:Q6o (Q0 st.objs)} (hr:Q7t (Q0 st.objs) (Qb st.slots x)=some r) :
  ∃ A c A',β r.l=.slice A r.n0 c∧r.lo+r.n≤r.ys.length∧r.ys.length≤c∧c≤maxLen∧(r.ex=true→c=r.ys.length)∧a.eval x=.slice A' r.n (c - r.lo)∧(r.lo<c∨r.lo=0→A'=A.map (·.add (r.lo*r.e.cells))) ∧
   ((A=none∧c=0)∨∃ g cur,A=some ⟨g,0,none⟩∧w.heap[g]?=some (.cells cur r.eT (0,0))∧cur.size=c*r.e.cells∧Q8 tab.ty S w r.e r.ys cur.toList):=by
 have hx:=Q4 h x
 unfold Q7t at hr
 split at hr
 case h_2=>cases hr
 case h_1 l lo n sz hs=>
 rw [hs] at hx
 split at hr
 case h_2=>cases hr
 case h_1 eT e ys n0 ex ho=>
 cases hq:(Nat.beq sz e.cells&&Nat.ble (lo+n) ys.length) with
 | false=>rw [hq] at hr;cases hr
 | true=>
  rw [hq] at hr
  have hr:=Option.some.inj hr
  subst hr
  simp only [Bool.and_eq_true] at hq
  have e1:=Nat.eq_of_beq_eq_true hq.1
  have e2:=Q2.1 hq.2
  subst e1
  obtain ⟨A,n0',c0,A',hβ,hle,hv,hA⟩:=hx
  obtain ⟨hpos,A2,c,hv2,h1,h2,h3,h4,h5⟩:=h.objs l _ ho
  rw [hv2] at hβ
  injection hβ with g1 g2 g3
  subst g1;subst g2;subst g3
  exact ⟨A2,c,A',hv2,e2,h1,h3,h4,hv,hA,h5⟩
theorem Qcr {o:Oper} {b:Builtin} {s x:Operand} {args:Array Operand} {ts:Array TypeId} (ho:o.op=.call { callee:=.builtin b,args:=args,argTypes:=ts }) (ha:args.toList=[s,x]) {v':Value} {w':World}
  (hr:∀ cs,(builtin b ts o.type cs #[a.eval s,a.eval x]).run P w=.ok (.value v') w') (Q:Exit→Act→World→Prop) (K:Act→World→Prop) (hK:K (a.put o.dst v') w'):o.wp P a w K Q:=by
 have e1:=Q2y ha
 subst e1
 obtain ⟨cs,hc⟩:=Jm (P:=P) (a:=a) (w:=w) ho
 unfold Oper.wp
 rw [hc]
 have:(#[s,x]:Array Operand).map a.eval=#[a.eval s,a.eval x]:=by simp
 rw [this,hr]
 exact hK
theorem Q65 {o:Oper} {b:Builtin} {s:Operand} {args:Array Operand} {ts:Array TypeId} (ho:o.op=.call { callee:=.builtin b,args:=args,argTypes:=ts }) (ha:args.toList=[s]) {v':Value} {w':World}
  (hr:∀ cs,(builtin b ts o.type cs #[a.eval s]).run P w=.ok (.value v') w') (Q:Exit→Act→World→Prop) (K:Act→World→Prop) (hK:K (a.put o.dst v') w'):o.wp P a w K Q:=by
 have e1:=Qb3 ha
 subst e1
 obtain ⟨cs,hc⟩:=Jm (P:=P) (a:=a) (w:=w) ho
 unfold Oper.wp
 rw [hc]
 have:(#[s]:Array Operand).map a.eval=#[a.eval s]:=by simp
 rw [this,hr]
 exact hK
theorem Qeu (hTab:Qc P tab) (h:Rel P tab.ty N w0 F S β st a w) {r:Q6o (Q0 st.objs)} {A:Option Addr} {c:Nat} {A':Option Addr} (hβ:β r.l=.slice A r.n0 c) (hle:r.lo+r.n≤r.ys.length) (hyc:r.ys.length≤c)
  (hA:r.lo<c∨r.lo=0→A'=A.map (·.add (r.lo*r.e.cells)))
  (h5:(A=none∧c=0)∨∃ g cur,A=some ⟨g,0,none⟩∧w.heap[g]?=some (.cells cur r.eT (0,0))∧cur.size=c*r.e.cells∧Q8 tab.ty S w r.e r.ys cur.toList)
  {zs:List r.e.den} {news:List Value} (hn:Q1 tab.ty S w r.e zs news) (hz:zs.length≤r.n) (w1:World) (e1:w1.heap=w.heap) (e2:w1.os=w.os) (e3:w1.tape=w.tape) (e4:w1.output=w.output) :
  ∃ w2,(do if let some a:=A' then storeCells a news:Sem Unit).run P w1=.ok () w2∧Fr (fun k=>blk (β r.l)=some k) w w2∧w2.heap.size=w.heap.size ∧
   ∀ β':Lab→Value,Z6 P tab.ty S β' w2 (.mem r.eT r.e (Q6 r.ys r.lo zs) r.n0 r.ex) (β r.l):=by
 have hl:=hn.length
 have frame0:∀ β':Lab→Value,Z6 P tab.ty S β' w1 (.mem r.eT r.e r.ys r.n0 r.ex) (β r.l):=fun β'=>by
  have h0:Z6 P tab.ty S β' w (.mem r.eT r.e r.ys r.n0 r.ex) (β r.l):=h.objs r.l _ r.is
  exact h0.frame (fun _ x=>x) (Nat.le_of_eq (by rw [e1])) (fun k _ _=>by rw [e1]) h.sb (fun l hl=>by simp [Z0] at hl) (fun b _=>by rw [e1])
 have fr0:Fr (fun k=>blk (β r.l)=some k) w w1:=⟨e2,e3,e4,Nat.le_of_eq (by rw [e1]),fun k _ _=>by rw [e1]⟩
 by_cases hz0:zs.length=0
 ·have hzn:zs=[]:=List.eq_nil_of_length_eq_zero hz0
  subst hzn
  have hn:news=[]:=hn
  subst hn
  refine ⟨w1,?_,fr0,by rw [e1],fun β'=>by rw [Q6f];exact frame0 β'⟩
  cases A' with
  | none=>rfl
  | some ad=>simp [storeCells]
 ·have hlo:r.lo<c:=by omega
  have hA':=hA (.inl hlo)
  rcases h5 with ⟨_,hc⟩ | ⟨g,cur,rfl,hh,hcs,hm⟩
  ·omega
  simp only [Option.map_some] at hA'
  rw [Zq,Nat.zero_add] at hA'
  subst hA'
  obtain ⟨cur',hh',hfit,hfin⟩:=Q9q h r.is (g:=g) (by rw [hβ];rfl) (p:=r.lo) hn (by omega)
  rw [hh] at hh'
  have hcc:=Option.some.inj hh'
  injection hcc with hcc _ _
  subst hcc
  obtain ⟨f1,f2,f3⟩:=hfin w1 e1 e2 e3 e4
  refine ⟨_,?_,f1,f2,f3⟩
  have:=run_storeCells_at P g (r.lo*r.e.cells) r.eT news 0 cur w1 (by rw [e1];exact hh) (by simpa using hfit) (fun u hu=>hn.oneCell u hu)
  simp only [Nat.add_zero] at this
  simpa using this
theorem Qdu (hTab:Qc P tab) (h:Rel P tab.ty N w0 F S β st a w) {o:Oper} {x y:Operand} {args:Array Operand} {ts:Array TypeId} {T T':TypeId} (ho:o.op=.call { callee:=.builtin .copy,args:=args,argTypes:=ts }) (ha:args.toList=[x,y]) (ht:ts.toList=[T,T'])
  {r:Q6o (Q0 st.objs)} (hr:Q7t (Q0 st.objs) (Qb st.slots x)=some r) (htd:Q2h tab T r.eT r.e=true) {zs:List r.e.den} (hz:Qbr tab (Q0 st.objs) r.eT r.e T' (some r.n) (Qb st.slots y)=some zs) :
  Xc P tab N w0 F S β st a w o (.cv (.one (.pure (.int .i64) (zs.length:Int)))) [] [(r.l,.mem r.eT r.e (Q6 r.ys r.lo zs) r.n0 r.ex)]:=by
 obtain ⟨hu,hte,hpos⟩:=Q3u hTab htd
 obtain ⟨A,c,A',hβ,hle,hyc,hmx,hex,hv,hA,h5⟩:=Q3r h hr
 obtain ⟨m,⟨As,cs,news,hsv,hzm,hAs,hcell,hrc⟩,hlen,_⟩:=Q6y hTab h hz
 have hlen:zs.length=min r.n m:=hlen
 obtain ⟨w2,hst,f1,f2,f3⟩:=Qeu hTab h hβ hle hyc hA h5 hrc (by omega) w rfl rfl rfl rfl
 have hsz:=Z8 (P:=P) (w:=w) (hTab.ty r.eT r.e hte)
 have hfc:=Q4t (P:=P) (w:=w) (m:=m) (c:=cs) hrc.length (fun hn=>by rw [hrc.length,hAs hn,Nat.zero_mul]) hcell
 have e2:ts=#[T,T']:=by apply Array.ext';simpa using ht
 subst e2
 intro Q K hK
 refine Qcr ho ha (v':=goInt zs.length) (w':=w2) (fun bs=>?_) Q K (hK _ _ (fun st' hst'=>Q6z h (d:=o.dst.getD 999999999) r.is f1 f2 (fun β' hb=>f3 β') (v:=.cv (.one (.pure (.int .i64) (zs.length:Int)))) (fun β' hb=>show Rep tab.ty S w2 (.int .i64) (zs.length:Int) [goInt zs.length] from rfl) hst'))
 rw [hv,hsv]
 have e3:Nat.min m r.n=zs.length:=by rw [hlen];exact Nat.min_comm ..
 cases A' with
 | none=>
  have:w=w2:=by simpa using hst
  subst this
  simp [builtin,Builtin.copy_,run_underlying hu,Builtin.lenOf,hsz,e3,hfc,goInt]
 | some ad=>
  have hst:(storeCells ad news).run P w=.ok () w2:=by simpa using hst
  simp [builtin,Builtin.copy_,run_underlying hu,Builtin.lenOf,hsz,e3,hfc,goInt,hst]
theorem Q79 {z:Value} {e:Ty} (hpos:0<e.cells) (hzc:z.cells.toList=Zc e) (n:Nat):(Builtin.zeroCells z.cells n).toList=(List.replicate n (Zc e)).flatten:=by
 have hzl:z.cells.toList.length=e.cells:=by rw [hzc];exact (Q05 (S:=fun _=>False) (w':={ (default:World) with }) (τ:=fun _=>none) e).length
 rw [← hzc,← Q5l (by rw [hzl];exact hpos) undef n]
 simp only [Builtin.zeroCells,Array.toList_map,Array.toList_range]
 rw [show z.cells.toList.length=z.cells.size by simp]
 apply List.map_congr_left
 intro j hj
 have hzs:z.cells.size=e.cells:=by simpa using hzl
 have hlt:j % z.cells.size<z.cells.size:=by rw [hzs];exact Nat.mod_lt _ hpos
 rw [getElem!_pos z.cells _ hlt,List.getD_eq_getElem?_getD,List.getElem?_eq_getElem (by simpa using hlt)]
 simp
theorem Qcq (hTab:Qc P tab) (h:Rel P tab.ty N w0 F S β st a w) {o:Oper} {x:Operand} {args:Array Operand} {ts:Array TypeId} {T:TypeId} (ho:o.op=.call { callee:=.builtin .clear,args:=args,argTypes:=ts }) (ha:args.toList=[x]) (ht:ts.toList=[T])
  {r:Q6o (Q0 st.objs)} (hr:Q7t (Q0 st.objs) (Qb st.slots x)=some r) (htd:Q2h tab T r.eT r.e=true) :
  Xc P tab N w0 F S β st a w o (.tup []) [] [(r.l,.mem r.eT r.e (Q6 r.ys r.lo (List.replicate r.n r.e.dflt)) r.n0 r.ex)]:=by
 obtain ⟨hu,hte,hpos⟩:=Q3u hTab htd
 obtain ⟨A,c,A',hβ,hle,hyc,hmx,hex,hv,hA,h5⟩:=Q3r h hr
 obtain ⟨i,z,hi,hisz,hz,hzc,_,_⟩:=(hTab.ty r.eT r.e hte).info
 have hzv:(zeroValue r.eT).run P w=.ok z w:=by simp [zeroValue,typeInfo,hi,hz]
 have hrc:=Q1.zeros (τ:=tab.ty) (S:=S) (w:=w) r.e r.n
 obtain ⟨w2,hst,f1,f2,f3⟩:=Qeu hTab h hβ hle hyc hA h5 hrc (by rw [List.length_replicate];exact Nat.le_refl _) w rfl rfl rfl rfl
 have e2:ts=#[T]:=by apply Array.ext';simpa using ht
 subst e2
 intro Q K hK
 refine Q65 ho ha (v':=.tuple #[]) (w':=w2) (fun bs=>?_) Q K (hK _ _ (fun st' hst'=>Q6z h (d:=o.dst.getD 999999999) r.is f1 f2 (fun β' hb=>f3 β') (v:=.tup []) (fun β' hb=>⟨[],rfl,rfl⟩) hst'))
 rw [hv]
 by_cases hn:r.n=0
 ·rw [hn] at hst
  have:w=w2:=by
   cases A' with
   | none=>simpa using hst
   | some ad=>simpa [storeCells] using hst
  subst this
  cases A'<;>simp [builtin,Builtin.clear_,run_underlying hu,hn]
 ·have hlo:r.lo<c:=by omega
  have hA':=hA (.inl hlo)
  rcases h5 with ⟨_,hc⟩ | ⟨g,cur,rfl,hh,hcs,hm⟩
  ·omega
  simp only [Option.map_some] at hA'
  rw [Zq,Nat.zero_add] at hA'
  subst hA'
  have hst:(storeCells ⟨g,r.lo*r.e.cells,none⟩ ((List.replicate r.n (Zc r.e)).flatten)).run P w=.ok () w2:=by simpa using hst
  obtain ⟨n,hn2⟩:∃ n,r.n=n+1:=⟨r.n - 1,by omega⟩
  rw [← Q79 hpos hzc,hn2] at hst
  simp [builtin,Builtin.clear_,run_underlying hu,hzv,hn2,hst]
theorem Qf6 (h:Rel P tab.ty N w0 F S β st a w) {o:Oper} {x:Operand} {args:Array Operand} {ts:Array TypeId} (ho:o.op=.call { callee:=.builtin .cap,args:=args,argTypes:=ts }) (ha:args.toList=[x])
  {T:TypeId} {eT:TypeId} (ht:ts.toList=[T]) (hu:P.underlying T=some (.slice eT))
  {r:Q6o (Q0 st.objs)} (hr:Q7t (Q0 st.objs) (Qb st.slots x)=some r) (hx:r.ex=true) :
  Xc P tab N w0 F S β st a w o (.cv (.one (.pure (.int .i64) ((r.ys.length - r.lo:Nat):Int)))) [] []:=by
 obtain ⟨A,c,A',hβ,hle,hyc,hmx,hex,hv,hA,h5⟩:=Q3r h hr
 have hc:=hex hx
 have e2:ts=#[T]:=by apply Array.ext';simpa using ht
 subst e2
 intro Q K hK
 refine Q65 ho ha (v':=.int .i64 ((r.ys.length - r.lo:Nat):Int)) (w':=w) (fun bs=>?_) Q K (hK _ _ (fun st' hst'=>?_))
 ·rw [hv,hc]
  simp [builtin,Builtin.cap_,run_underlying hu,goInt]
 ·have hu:=Jf hst'
  refine ⟨S,β,fun _ x=>x,fun _ _=>rfl,h.same (fun t=>by rw [hu.slots];rfl) (fun m=>by rw [hu.get];rfl),rfl⟩
theorem Qb5 {len cap:Nat} {lo hi:Option Operand} {l m q:Int} {z:Operand} {k:IntKind} (hl:(lo=none∧l=0)∨∃ y k,lo=some y∧a.eval y=.int k l)
  (hh:∃ y k,hi=some y∧a.eval y=.int k m) (hz:a.eval z=.int k q) (h0:0≤l) (h1:l≤m) (h2:m≤q) (h3:q≤cap) :
  (Instr.sliceBounds true len cap (lo.map a.eval) (hi.map a.eval) ((some z).map a.eval)).run P w=.ok (l.toNat,m.toNat,q.toNat) w:=by
 obtain ⟨y,k',rfl,hy⟩:=hh
 rcases hl with ⟨rfl,rfl⟩ | ⟨x,k2,rfl,hx⟩
 ·simp [Instr.sliceBounds,hy,hz,run_sliceBound w k q cap _ (by omega) h3,run_sliceBound w k' m q.toNat _ (by omega) (by omega)]
 ·simp [Instr.sliceBounds,hx,hy,hz,run_sliceBound w k q cap _ (by omega) h3,run_sliceBound w k' m q.toNat _ (by omega) (by omega),run_sliceBound w k2 l m.toNat _ h0 (by omega)]
end
end Go.PE
set_option linter.unusedVariables false
set_option linter.unusedSimpArgs false
namespace Go.PE
section
variable {P:Program} {tab:Tab} {N:NN} {w0:World} {F:FF} {S:Nat→Prop} {β:Lab→Value} {st:St} {a:Act} {w:World}
theorem Rel.noUpd (h:Rel P tab.ty N w0 F S β st a w) {d:Nat} {v:SV} {x:Value} (hv:Qf P tab.ty S β w v x) {st':St} (hst:Qs (PE.delAll st []) d []=some st') :
  ∃ S' β',(∀ k,S k→S' k)∧(∀ m:Lab,m.1≠d→β' m=β m)∧Rel P tab.ty N w0 F S' β' st' a w∧Qf P tab.ty S' β' w v x:=by
 have hu:=Jf hst
 exact ⟨S,β,fun _ x=>x,fun _ _=>rfl,h.same (fun t=>by rw [hu.slots];rfl) (fun m=>by rw [hu.get];rfl),hv⟩
theorem Qfe (h:Rel P tab.ty N w0 F S β st a w) {hi x:Option Operand} {m:Option Int} (he:Qed (Qb st.slots) hi x=some m) :
  (x=none∧m=none)∨∃ y k q z,x=some y∧m=some q∧a.eval y=.int k q∧hi=some z:=by
 cases x with
 | none=>exact .inl ⟨rfl,(Option.some.inj he).symm⟩
 | some y=>
  cases hi with
  | none=>cases he
  | some z=>
  obtain ⟨v,hv,he⟩:=Option.bind_eq_some_iff.1 he
  obtain ⟨p,hp,he⟩:=Option.bind_eq_some_iff.1 he
  exact .inr ⟨y,p.1,p.2,z,rfl,(Option.some.inj he).symm,Qv hp (Qy hv (Q4 h y)),rfl⟩
theorem Qhh (hTab:Qc P tab) (h:Rel P tab.ty N w0 F S β st a w) {o:Oper} {T:TypeId} {x:Operand} {lo hi mx:Option Operand} (ho:o.op=.slice T x lo hi mx) {eT:TypeId} {e:Ty} (hu:P.underlying T=some (.slice eT)) (hte:tab.ty eT=some e)
  {A:Option Addr} {len cap lb:Nat} (hx:a.eval x=.slice A len cap) (hlb:lb≤cap) {l m:Int} {q:Option Int} (hl:Q0d (Qb st.slots) lo 0=some l) (hm:Q0d (Qb st.slots) hi (len:Int)=some m) (hq:Qed (Qb st.slots) hi mx=some q)
  (hc:Q2i q l m lb=true):∃ x',(execOp a.eval o).run P w=.ok (.value x') w∧(q=none→0≤l∧l≤m∧m≤(lb:Int)∧x'=.slice (if cap=l.toNat then A else A.map (·.add (l.toNat*e.cells))) (m.toNat - l.toNat) (cap - l.toNat)):=by
 have hlr:=Q2c h hl
 have hmr:=Q2c h hm
 have hT:=hTab.ty eT e hte
 rcases Qfe h hq with ⟨rfl,rfl⟩ | ⟨y,k,q',z,rfl,rfl,hy,rfl⟩
 ·unfold Q2i at hc
  simp only [Bool.and_eq_true,decide_eq_true_eq] at hc
  have hb:=Q4y (P:=P) (w:=w) (b:=true) (len:=len) (cap:=cap) hlr hmr hc.1.1 hc.1.2 (by omega)
  refine ⟨_,?_,fun _=>⟨hc.1.1,hc.1.2,hc.2,rfl⟩⟩
  unfold execOp
  simp only [ho,hx,Option.map_none]
  simp [Instr.sliceAt,Instr.slice,run_underlying hu,hb,Z8 hT]
 ·unfold Q2i at hc
  simp only [Bool.and_eq_true,decide_eq_true_eq] at hc
  have hz:∃ k2,a.eval z=.int k2 m:=by
   rcases hmr with ⟨hn,_⟩ | ⟨y2,k2,e1,hy2⟩
   ·cases hn
   ·have:=Option.some.inj e1
    subst this
    exact ⟨k2,hy2⟩
  obtain ⟨k2,hz⟩:=hz
  have hb:=Qb5 (P:=P) (w:=w) (len:=len) (cap:=cap) (hi:=some z) hlr ⟨z,k2,rfl,hz⟩ hy hc.1.1.1 hc.1.1.2 hc.1.2 (by omega)
  simp only [Option.map_some] at hb
  exact ⟨.slice (if q'.toNat=l.toNat then A else A.map (·.add (l.toNat*e.cells))) (m.toNat - l.toNat) (q'.toNat - l.toNat),by
   unfold execOp
   simp only [ho,hx]
   simp [Instr.sliceAt,Instr.slice,run_underlying hu,hb,Z8 hT],fun hn=>by cases hn⟩
theorem Qfm (ad:Addr) (x y:Nat):(ad.add x).add y=ad.add (x+y):=by
 unfold Addr.add
 by_cases hx:x=0<;>by_cases hy:y=0<;>simp [hx,hy,Nat.add_assoc]
theorem Qaa {l:Lab} {A:Option Addr} {n0 c lo sz:Nat} {A':Option Addr} (hβ:β l=.slice A n0 c) (hlo:lo≤c) (hA:lo<c∨lo=0→A'=A.map (·.add (lo*sz))) {p m:Int} (h0:0≤p) (h1:p≤m) (h2:m≤((c - lo:Nat):Int)) :
  Qf P tab.ty S β w (.win l (lo+p.toNat) (m - p).toNat sz) (.slice (if c - lo=p.toNat then A' else A'.map (·.add (p.toNat*sz))) (m.toNat - p.toNat) (c - lo - p.toNat)):=by
 have e1:(m - p).toNat=m.toNat - p.toNat:=by omega
 have e2:c - lo - p.toNat=c - (lo+p.toNat):=by omega
 rw [e1,e2]
 refine ⟨A,n0,c,_,hβ,by omega,rfl,fun hc=>?_⟩
 by_cases hx:c - lo=p.toNat
 ·rw [if_pos hx]
  rcases hc with hc | hc
  ·omega
  ·have e3:lo=0:=by omega
   have e4:p.toNat=0:=by omega
   subst e3
   rw [e4]
   exact hA (.inr rfl)
 ·rw [if_neg hx,hA (by omega)]
  cases A with
  | none=>rfl
  | some ad=>simp only [Option.map_some,Option.some.injEq,Qfm,Nat.add_mul]
theorem Qej {τ:TypeId→Option Ty} {eT:TypeId} {e:Ty} {xs:List e.den} {v:Value} (h:Z6 P τ S β w (.row eT e xs) v) (β':Lab→Value):Z6 P τ S β' w (.mem eT e (xs.map some) xs.length false) v:=by
 obtain ⟨hp,cells,hown,hrc⟩:=h
 rcases hown.2 with ⟨rfl,h0⟩ | ⟨g,cap,cur,rfl,_,hh,hn,hc,hcs,htk⟩
 ·have:xs=[]:=List.eq_nil_of_length_eq_zero h0
  subst this
  exact ⟨hp,none,0,rfl,by simp,Nat.le_refl _,by simp [maxLen],(fun h=>by cases h),.inl ⟨rfl,rfl⟩⟩
 ·refine ⟨hp,_,cap,rfl,by rw [List.length_map];exact hn,hn,hc,(fun h=>by cases h),.inr ⟨g,cur,rfl,hh,hcs,?_⟩⟩
  have:=Q8.of_row hrc (cs:=cur.toList) (by rw [hrc.length];exact htk) 0
  simpa using this
theorem Qa1 (hTab:Qc P tab) (h:Rel P tab.ty N w0 F S β st a w) {o:Oper} {T:TypeId} {x:Operand} {lo hi mx:Option Operand} (ho:o.op=.slice T x lo hi mx) {n l m:Int} {q:Option Int} {c:Bool} {v:SV} {u:Upd}
  (hn:Q2s (Q0 st.objs) (Qb st.slots x)=some n) (hl:Q0d (Qb st.slots) lo 0=some l) (hm:Q0d (Qb st.slots) hi n=some m) (hq:Qed (Qb st.slots) hi mx=some q)
  (he:Q7a tab (Q0 st.objs) T (Qb st.slots x) l m q=some (c,v,u)) (hc:c=true):Xc P tab N w0 F S β st a w o v [] u:=by
 have hx:=Q4 h x
 unfold Q7a at he
 split at he
 case h_2=>cases he
 case h_1 eT htd=>
 have hu:P.underlying T=some (.slice eT):=hTab.td T _ htd
 obtain ⟨e0,hte,he⟩:=Option.bind_eq_some_iff.1 he
 have fin:∀ {A:Option Addr} {len cap lb:Nat},a.eval x=.slice A len cap→n=(len:Int)→lb≤cap→Q2i q l m lb=true →
   (∀ x',(q=none→0≤l∧l≤m∧m≤(lb:Int)∧x'=.slice (if cap=l.toNat then A else A.map (·.add (l.toNat*e0.cells))) (m.toNat - l.toNat) (cap - l.toNat)) →
    ∀ st',Qs (PE.delAll st []) (o.dst.getD 999999999) u=some st'→∃ S' β',(∀ k,S k→S' k)∧(∀ l:Lab,l.1≠o.dst.getD 999999999→β' l=β l)∧Rel P tab.ty N w0 F S' β' st' a w∧Qf P tab.ty S' β' w v x') →
   Xc P tab N w0 F S β st a w o v [] u:=by
  intro A len cap lb hxv hnl hlb hcc hend
  subst hnl
  obtain ⟨x',hr,hx'⟩:=Qhh hTab h ho hu hte hxv hlb hl hm hq hcc
  intro Q K hK
  unfold Oper.wp
  rw [hr]
  exact hK x' w (fun st' hst=>hend x' hx' st' hst)
 split at he
 case h_3=>cases he
 case h_1 lb hs=>
  rw [hs] at hx hn
  obtain ⟨hβ,_⟩:=hx
  split at he
  case h_3=>cases he
  case h_1 eT' e xs hol=>
   cases hb:(Nat.beq eT eT'&&Ty.beq e0 e) with
   | false=>rw [hb] at he;cases he
   | true=>
    rw [hb] at he
    simp only [cond_true,Option.some.injEq,Prod.mk.injEq] at he
    obtain ⟨rfl,rfl,rfl⟩:=he
    simp only [Bool.and_eq_true] at hb
    have e1:=Nat.eq_of_beq_eq_true hb.1
    have e2:=Ty.eq_of_beq hb.2
    subst e1;subst e2
    have hmem:=Qej (h.objs lb _ hol)
    obtain ⟨_,A,cap,hv,k1,k2,_,_,_⟩:=hmem β
    have hnx:n=(xs.length:Int):=by
     simp only [Q2s,hol] at hn
     exact (Option.some.inj hn).symm
    refine fin (A:=A) (len:=xs.length) (cap:=cap) (lb:=xs.length) (by rw [← hβ,hv]) hnx k2 hc (fun x' hx' st' hst=>?_)
    refine Q6z h hol (Fr.refl _ w) rfl (fun β' _=>hmem β') (fun β' hb'=>?_) hst
    cases q with
    | some _=>trivial
    | none=>
     obtain ⟨g0,g1,g2,rfl⟩:=hx' rfl
     have:=Qaa (P:=P) (tab:=tab) (S:=S) (w:=w) (β:=β') (l:=lb) (lo:=0) (A':=A) (sz:=e0.cells) (by rw [hb',hv]) (Nat.zero_le _) (fun _=>by cases A<;>simp [Addr.add]) g0 g1 (show m≤((cap - 0:Nat):Int) by omega)
     simpa [Q78] using this
  case h_2 eT' e ys n0 ex hol=>
   cases hb:(Nat.beq eT eT'&&Ty.beq e0 e) with
   | false=>rw [hb] at he;cases he
   | true=>
    rw [hb] at he
    simp only [cond_true,Option.some.injEq,Prod.mk.injEq] at he
    obtain ⟨rfl,rfl,rfl⟩:=he
    simp only [Bool.and_eq_true] at hb
    have e1:=Nat.eq_of_beq_eq_true hb.1
    have e2:=Ty.eq_of_beq hb.2
    subst e1;subst e2
    obtain ⟨_,A,cap,hv,k1,k2,_,_,_⟩:=h.objs lb _ hol
    have hnx:n=(n0:Int):=by
     simp only [Q2s,hol] at hn
     exact (Option.some.inj hn).symm
    refine fin (A:=A) (len:=n0) (cap:=cap) (lb:=ys.length) (by rw [← hβ,hv]) hnx k1 hc (fun x' hx' st' hst=>?_)
    refine h.noUpd ?_ hst
    cases q with
    | some _=>trivial
    | none=>
     obtain ⟨g0,g1,g2,rfl⟩:=hx' rfl
     have:=Qaa (P:=P) (tab:=tab) (S:=S) (w:=w) (β:=β) (l:=lb) (lo:=0) (A':=A) (sz:=e0.cells) hv (Nat.zero_le _) (fun _=>by cases A<;>simp [Addr.add]) g0 g1 (show m≤((cap - 0:Nat):Int) by omega)
     simpa [Q78] using this
 case h_2 lb lo' n' sz hs=>
  rw [hs] at hx hn
  obtain ⟨A,n0',c0,A',hβ,hle,hv,hA⟩:=hx
  split at he
  case h_2=>cases he
  case h_1 eT' e ys n0 ex hol=>
   cases hb:(Nat.beq eT eT'&&Ty.beq e0 e&&Nat.beq sz e.cells&&(Nat.beq lo' 0||Nat.ble lo' ys.length)) with
   | false=>rw [hb] at he;cases he
   | true=>
    rw [hb] at he
    simp only [cond_true,Option.some.injEq,Prod.mk.injEq] at he
    obtain ⟨rfl,rfl,rfl⟩:=he
    simp only [Bool.and_eq_true] at hb
    have e1:=Nat.eq_of_beq_eq_true hb.1.1.1
    have e2:=Ty.eq_of_beq hb.1.1.2
    have e3:=Nat.eq_of_beq_eq_true hb.1.2
    have e4:lo'≤ys.length:=by
     rcases Bool.or_eq_true_iff.1 hb.2 with h4 | h4
     ·rw [Nat.eq_of_beq_eq_true h4];exact Nat.zero_le _
     ·exact Q2.1 h4
    subst e1;subst e2;subst e3
    obtain ⟨_,A2,cap,hv2,k1,k2,_,_,_⟩:=h.objs lb _ hol
    rw [hv2] at hβ
    injection hβ with q1 q2 q3
    subst q1;subst q2;subst q3
    have hnx:n=(n':Int):=by
     simp only [Q2s] at hn
     exact (Option.some.inj hn).symm
    refine fin (A:=A') (len:=n') (cap:=cap - lo') (lb:=ys.length - lo') hv hnx (by omega) hc (fun x' hx' st' hst=>?_)
    refine h.noUpd ?_ hst
    cases q with
    | some _=>trivial
    | none=>
     obtain ⟨g0,g1,g2,rfl⟩:=hx' rfl
     exact Qaa hv2 (by omega) hA g0 g1 (by omega)
theorem Q9e (h:Rel P tab.ty N w0 F S β st a w) {d:Nat} {ob:Ob} {v':Value} {w':World} (hf:Fr (fun _=>False) w w') (hob:∀ β':Lab→Value,Z6 P tab.ty S β' w' ob v') (hb:∀ b,blk v'=some b→w.heap.size≤b∧b<w'.heap.size)
  {sv:SV} (hv:∀ β':Lab→Value,β' (d,0)=v'→Qf P tab.ty S β' w' sv v') {st':St} (hst:Qs (PE.delAll st []) d [((d,0),ob)]=some st') :
  ∃ S' β',(∀ k,S k→S' k)∧(∀ l:Lab,l.1≠d→β' l=β l)∧Rel P tab.ty N w0 F S' β' st' a w'∧Qf P tab.ty S' β' w' sv v':=by
 have hnew:Q0 (Xm d [((d,0),ob)]) (d,0)=some ob:=by
  have hb:Nat.beq d d=true:=Z7.2 rfl
  simp [Xm,Q0,hb,Zd.2 rfl]
 have hβ:Jh β d [((d,0),ob)] (fun _=>v') (d,0)=v':=by unfold Jh;rw [hnew]
 refine ⟨S,Jh β d [((d,0),ob)] (fun _=>v'),fun _ x=>x,fun l hl=>Xn hl,?_,hv _ hβ⟩
 refine h.upd hst (X:=fun _=>False) hf (fun k _ hx=>hx.elim) (fun _ x=>x) (fun k hk=>.inl hk) (fun k hk=>Nat.lt_of_lt_of_le (h.sb k hk) hf.size) (fun _=>v') (fun l ob' hl=>?_)
 rw [Q3] at hl
 split at hl
 ·rename_i e1
  have hl:=Option.some.inj hl
  subst hl;subst e1
  rw [hβ]
  refine ⟨hob _,fun b hbb=>?_⟩
  obtain ⟨g1,g2⟩:=hb b hbb
  refine ⟨fun hs=>?_,.inl g1,g2,fun m ob' hm hm'=>?_⟩
  ·have:=h.sb b hs;omega
  ·rw [Q3,if_neg (fun e=>hm e.symm)] at hm';cases hm'
 ·cases hl
theorem Qj9 {w w':World} (h1:w'.os=w.os) (h2:w'.tape=w.tape) (h3:w'.output=w.output) (h4:∃ ob,w'.heap=w.heap.push ob):Fr (fun _=>False) w w':=by
 obtain ⟨ob,h4⟩:=h4
 refine ⟨h1,h2,h3,by rw [h4];simp,fun k hk _=>?_⟩
 rw [h4,Array.getElem?_push_lt hk]
 simp [hk]
end
end Go.PE
set_option linter.unusedVariables false
set_option linter.unusedSimpArgs false
namespace Go.PE
section
variable {P:Program} {tab:Tab} {N:NN} {w0:World} {F:FF} {S:Nat→Prop} {β:Lab→Value} {st:St} {a:Act} {w:World}
theorem Q9r (hTab:Qc P tab) (h:Rel P tab.ty N w0 F S β st a w) {o:Oper} {s x:Operand} {args:Array Operand} {ts:Array TypeId} {T T':TypeId} (ho:o.op=.call { callee:=.builtin .append,args:=args,argTypes:=ts }) (ha:args.toList=[s,x]) (ht:ts.toList=[T,T'])
  {r:Q6o (Q0 st.objs)} (hr:Q7t (Q0 st.objs) (Qb st.slots s)=some r) (htd:Q2h tab T r.eT r.e=true) (hlo:r.lo=0) {zs:List r.e.den} (hz:Qbr tab (Q0 st.objs) r.eT r.e T' none (Qb st.slots x)=some zs)
  (hfit:r.n+zs.length≤r.ys.length) :
  Xc P tab N w0 F S β st a w o (.win r.l 0 (r.n+zs.length) r.e.cells) [] [(r.l,.mem r.eT r.e (Q6 r.ys r.n zs) r.n0 r.ex)]:=by
 obtain ⟨hu,hte,hpos⟩:=Q3u hTab htd
 obtain ⟨A,c,A',hβ,hle,hyc,hmx,hex,hv,hA,h5⟩:=Q3r h hr
 obtain ⟨m,⟨As,cs,news,hsv,hzm,hAs,hcell,hrc⟩,hlen,hT'⟩:=Q6y hTab h hz
 have hlen:zs.length=m:=hlen
 obtain ⟨i,z,hi,hisz,hzz,hzc,_,hby⟩:=(hTab.ty r.eT r.e hte).info
 obtain ⟨eT',hu'⟩:=hT'
 rw [hlo] at hv hA
 have hA':=hA (.inr rfl)
 rw [Nat.zero_mul] at hA'
 have hA2:A'=A:=by rw [hA'];cases A<;>simp [Addr.add]
 subst hA2
 have types:∀ v:Value,(Builtin.append_ #[T,T'] o.type #[.slice A' r.n (c - 0),v]).run P w=(Builtin.append_ #[T,T] o.type #[.slice A' r.n (c - 0),v]).run P w:=fun v=>Q0l hu hu' hi A' r.n _ v
 have key:∃ w2,(Builtin.append_ #[T,T] o.type #[.slice A' r.n (c - 0),.slice As m cs]).run P w=.ok (.slice A' (r.n+m) (c - 0)) w2∧Fr (fun k=>blk (β r.l)=some k) w w2∧w2.heap.size=w.heap.size ∧
   ∀ β':Lab→Value,Z6 P tab.ty S β' w2 (.mem r.eT r.e (Q6 r.ys r.n zs) r.n0 r.ex) (β r.l):=by
  have nothing:zs.length=0→news=[]∧∀ β':Lab→Value,Z6 P tab.ty S β' w (.mem r.eT r.e (Q6 r.ys r.n zs) r.n0 r.ex) (β r.l):=fun h0=>by
   have hz0:zs=[]:=List.eq_nil_of_length_eq_zero h0
   subst hz0
   refine ⟨hrc,fun β'=>?_⟩
   rw [Q6f]
   have h0:Z6 P tab.ty S β w (.mem r.eT r.e r.ys r.n0 r.ex) (β r.l):=h.objs r.l _ r.is
   exact h0.frame (fun _ x=>x) (Nat.le_refl _) (fun k _ _=>rfl) h.sb (fun l hl=>by simp [Z0] at hl) (fun b _=>rfl)
  rcases h5 with ⟨rfl,hc⟩ | ⟨g,cur,rfl,hh,hcs,hm⟩
  ·obtain ⟨e1,e2⟩:=nothing (by omega)
   have hm0:m=0:=by omega
   have hn0:r.n=0:=by omega
   refine ⟨w,?_,Fr.refl _ w,rfl,e2⟩
   rw [hm0,hn0]
   cases As with
   | none=>simp [Builtin.append_,run_underlying hu,sizeOf,typeInfo,hi,Builtin.lenOf,Builtin.firstCells]
   | some ad=>simp [Builtin.append_,run_underlying hu,sizeOf,typeInfo,hi,Builtin.lenOf,Builtin.firstCells,loadCells,loadCellsFrom]
  ·cases As with
   | none=>
    have hm0:m=0:=by rw [← hlen];exact hAs rfl
    obtain ⟨e1,e2⟩:=nothing (by omega)
    refine ⟨w,?_,Fr.refl _ w,rfl,e2⟩
    rw [hm0]
    have:r.n≤c:=by omega
    simp [Builtin.append_,run_underlying hu,sizeOf,typeInfo,hi,Builtin.lenOf,Builtin.firstCells,storeCells,this]
   | some ad=>
    obtain ⟨cur',hh',hfit',hfin⟩:=Q9q h r.is (g:=g) (by rw [hβ];rfl) (p:=r.n) hrc (by omega)
    rw [hh] at hh'
    have hcc:=Option.some.inj hh'
    injection hcc with hcc _ _
    subst hcc
    obtain ⟨f1,f2,f3⟩:=hfin w rfl rfl rfl rfl
    have hrl:=hrc.length
    have:=run_append_room (P:=P) w T o.type r.eT i hu hi g r.n (c - 0) cur hh ad m cs news (by rw [hrl,hlen,hisz]) (hcell ad rfl) (fun u hu=>hrc.oneCell u hu) (by omega) (by rw [hisz];exact hfit')
    rw [hisz] at this
    exact ⟨_,this,f1,f2,f3⟩
 obtain ⟨w2,hrun,f1,f2,f3⟩:=key
 intro Q K hK
 refine Ju ho ha ht (v':=.slice A' (r.n+m) (c - 0)) (w':=w2) (by rw [hv,hsv,types];exact hrun) Q K (hK _ _ (fun st' hst'=>Q6z h (d:=o.dst.getD 999999999) r.is f1 f2 (fun β' hb=>f3 β') (fun β' hb=>?_) hst'))
 rw [hlen]
 exact ⟨A',r.n0,c,A',by rw [hb,hβ],by omega,rfl,fun _=>by cases A'<;>simp [Addr.add]⟩
theorem Q8s (hTab:Qc P tab) (h:Rel P tab.ty N w0 F S β st a w) {o:Oper} {s x:Operand} {args:Array Operand} {ts:Array TypeId} {T T':TypeId} (ho:o.op=.call { callee:=.builtin .append,args:=args,argTypes:=ts }) (ha:args.toList=[s,x]) (ht:ts.toList=[T,T'])
  {r:Q6o (Q0 st.objs)} (hr:Q7t (Q0 st.objs) (Qb st.slots s)=some r) (htd:Q2h tab T r.eT r.e=true) (hlo:r.lo=0) {zs:List r.e.den} (hz:Qbr tab (Q0 st.objs) r.eT r.e T' none (Qb st.slots x)=some zs)
  (hno:r.ys.length<r.n+zs.length) (hx:r.ex=true) (hlim:r.n+zs.length≤1073741824) {xs:List r.e.den} (hxs:Qd (r.ys.take r.n)=some xs) :
  Xc P tab N w0 F S β st a w o (.cv (.one (.ref (o.dst.getD 999999999,0)))) [] [((o.dst.getD 999999999,0),.row r.eT r.e (xs++zs))]:=by
 obtain ⟨hu,hte,hpos⟩:=Q3u hTab htd
 obtain ⟨A,c,A',hβ,hle,hyc,hmx,hex,hv,hA,h5⟩:=Q3r h hr
 obtain ⟨m,⟨As,cs,news,hsv,hzm,hAs,hcell,hrc⟩,hlen,hT'⟩:=Q6y hTab h hz
 have hlen:zs.length=m:=hlen
 obtain ⟨i,z,hi,hisz,hzz,hzc,_,hby⟩:=(hTab.ty r.eT r.e hte).info
 obtain ⟨eT',hu'⟩:=hT'
 have hcl:=hex hx
 rw [hlo] at hv hA
 have hA':=hA (.inr rfl)
 rw [Nat.zero_mul] at hA'
 have hA2:A'=A:=by rw [hA'];cases A<;>simp [Addr.add]
 subst hA2
 have hxl:xs.length=r.n:=Q18 (lo:=0) (by rw [List.drop_zero];exact hxs) (by omega)
 have types:∀ v:Value,(Builtin.append_ #[T,T'] o.type #[.slice A' r.n (c - 0),v]).run P w=(Builtin.append_ #[T,T] o.type #[.slice A' r.n (c - 0),v]).run P w:=fun v=>Q0l hu hu' hi A' r.n _ v
 have hb2:(r.n+m)*i.bytes≤140737488355328:=Nat.le_trans (Nat.mul_le_mul (by omega:r.n+m≤1073741824) hby) (by decide)
 have hmp:0<m:=by omega
 have hzs:z.cells.size=r.e.cells:=by
  have:=(Q05 (S:=fun _=>False) (w':=w) (τ:=tab.ty) r.e).length
  rw [← hzc] at this
  simpa using this
 cases As with
 | none=>have:=hAs rfl;omega
 | some ad=>
 have key:∃ old,Q1 tab.ty S w r.e xs old∧(Builtin.append_ #[T,T] o.type #[.slice A' r.n (c - 0),.slice (some ad) m cs]).run P w =
   .ok (.slice (some ⟨w.heap.size,0,none⟩) (r.n+m) (grownCap w (r.n+m) (c - 0) r.eT)) (w.drew.alloc (.cells (old.toArray++news.toArray++Builtin.zeroCells z.cells (grownCap w (r.n+m) (c - 0) r.eT - (r.n+m))) r.eT)):=by
  rcases h5 with ⟨rfl,hc⟩ | ⟨g,cur,rfl,hh,hcs,hm⟩
  ·have hn0:r.n=0:=by omega
   have hx0:xs=[]:=List.eq_nil_of_length_eq_zero (by omega)
   subst hx0
   refine ⟨[],rfl,?_⟩
   have:=run_append_nil (P:=P) w T o.type r.eT i z hu hi hzz ad m cs news (by rw [hisz,hrc.length,hlen]) (hcell ad rfl) hmp (by omega) (by rw [hn0,Nat.zero_add] at hb2;omega)
   rw [hn0,hc]
   simpa using this
  ·have hold:=hm.slice (lo:=0) (n:=r.n) (xs:=xs) (by rw [List.drop_zero];exact hxs)
   rw [Nat.zero_mul,List.drop_zero] at hold
   have hol:=hold.length
   refine ⟨_,hold,?_⟩
   refine run_append_grow (P:=P) w T o.type r.eT i z hu hi hzz ⟨g,0,none⟩ r.n (c - 0) _ (by rw [hol,hxl,hisz]) (fun j u hu=>?_) ad m cs news (by rw [hisz,hrc.length,hlen]) (hcell ad rfl) (by omega) (by omega) (growslice_fits (by omega) hb2)
   exact Q8g (e:=r.e) hh (by rw [hol];rfl) hu
 obtain ⟨old,hold,hrun⟩:=key
 have hol:=hold.length
 have hrl:=hrc.length
 have hgc:=grownCap_ge w (r.n+m) (c - 0) r.eT
 intro Q K hK
 refine Ju ho ha ht (v':=.slice (some ⟨w.heap.size,0,none⟩) (r.n+m) (grownCap w (r.n+m) (c - 0) r.eT)) (w':=w.drew.alloc (.cells (old.toArray++news.toArray++Builtin.zeroCells z.cells (grownCap w (r.n+m) (c - 0) r.eT - (r.n+m))) r.eT))
  (by rw [hv,hsv,types];exact hrun) Q K (hK _ _ (fun st' hst'=>?_))
 refine Q9e h (sv:=.cv (.one (.ref (o.dst.getD 999999999,0)))) ((Fr.drew (fun _=>False) w).trans (Fr.alloc (fun _=>False) w.drew _)) (fun β'=>?_) (fun b hb=>?_) (fun β' hb=>⟨hb,_,_,_,rfl⟩) hst'
 ·refine ⟨hpos,old++news,⟨?_,.inr ⟨w.heap.size,grownCap w (r.n+m) (c - 0) r.eT,old.toArray++news.toArray++Builtin.zeroCells z.cells (grownCap w (r.n+m) (c - 0) r.eT - (r.n+m)),?_,Nat.zero_le _,?_,?_,?_,?_,?_⟩⟩,?_⟩
  ·rw [List.length_append,hol,hrl,List.length_append,Nat.add_mul]
  ·rw [List.length_append,hxl,hlen]
  ·exact heap_alloc_new w.drew _
  ·rw [List.length_append,hxl,hlen];exact hgc
  ·exact grownCap_le_maxLen w (r.n+m) (c - 0) r.eT (by simp [maxLen];omega)
  ·rw [Array.size_append,Array.size_append,size_zeroCells,List.size_toArray,List.size_toArray,hol,hrl,hxl,hlen,hzs,← Nat.add_mul,← Nat.add_mul]
   congr 1;omega
  ·rw [Array.toList_append,Array.toList_append,List.take_append_of_le_length,List.take_of_length_le]
   ·simp [hol,hrl,Nat.add_mul]
   ·simp [hol,hrl,Nat.add_mul]
  ·have fr:∀ {ws:List r.e.den} {q:List Value},Q1 tab.ty S w r.e ws q→Q1 tab.ty S (w.drew.alloc (.cells (old.toArray++news.toArray++Builtin.zeroCells z.cells (grownCap w (r.n+m) (c - 0) r.eT - (r.n+m))) r.eT)) r.e ws q:=fun hq=>
    hq.frame (w:=w) (fun _ x=>x) (by simp) (fun k _ hlt=>RowKit.Below.heap_alloc w.drew _ k hlt)
   exact (fr hold).append (fr hrc)
 ·have:=Option.some.inj hb
  subst this
  exact ⟨Nat.le_refl _,by simp⟩
theorem Q8n (hTab:Qc P tab) (h:Rel P tab.ty N w0 F S β st a w) {o:Oper} {s x:Operand} {args:Array Operand} {ts:Array TypeId} {T T':TypeId} (ho:o.op=.call { callee:=.builtin .append,args:=args,argTypes:=ts }) (ha:args.toList=[s,x]) (ht:ts.toList=[T,T'])
  {r:Q6o (Q0 st.objs)} (hr:Q7t (Q0 st.objs) (Qb st.slots s)=some r) (htd:Q2h tab T r.eT r.e=true) (hlo:r.lo=0) {c0:Bool} {zs:List r.e.den} (hz:Qdr tab r.e T' (Qb st.slots x)=some (c0,zs)) (hc0:c0=true)
  (hx:r.ex=true) (hno:r.ys.length<r.n+zs.length) (hlim:r.ys.length+zs.length≤536870912) :
  Xc P tab N w0 F S β st a w o (.win (o.dst.getD 999999999,0) 0 (r.n+zs.length) r.e.cells) [] [((o.dst.getD 999999999,0),.mem r.eT r.e (r.ys.take r.n++zs.map some) (r.n+zs.length) false)]:=by
 obtain ⟨hu,hte,hpos⟩:=Q3u hTab htd
 obtain ⟨A,c,A',hβ,hle,hyc,hmx,hex,hv,hA,h5⟩:=Q3r h hr
 obtain ⟨i,z,hi,hisz,hzz,hzc,_,hby⟩:=(hTab.ty r.eT r.e hte).info
 have hcl:=hex hx
 unfold Qdr at hz
 split at hz
 case h_2=>cases hz
 case h_1 kn htn=>
 obtain ⟨lv,hlv,hz⟩:=Option.bind_eq_some_iff.1 hz
 obtain ⟨⟨kq,q⟩,hq,hz⟩:=Option.bind_eq_some_iff.1 hz
 obtain ⟨e1,e2⟩:=Prod.mk.inj (Option.some.inj hz)
 subst e2
 rw [hc0] at e1
 have hqp:0<q:=of_decide_eq_true e1
 have hxv:=Qv hq (Qy hlv (Q4 h x))
 simp only [List.length_replicate] at hno hlim ⊢
 obtain ⟨k,rfl⟩:∃ k:Nat,q=(k:Int):=⟨q.toNat,by omega⟩
 simp only [Int.toNat_natCast] at hno hlim ⊢
 have hun:P.underlying T'=some (.int kn):=hTab.td T' _ htn
 rw [hlo] at hv hA
 have hA':=hA (.inr rfl)
 rw [Nat.zero_mul] at hA'
 have hA2:A'=A:=by rw [hA'];cases A<;>simp [Addr.add]
 subst hA2
 have hzs:z.cells.size=r.e.cells:=by
  have:=(Q05 (S:=fun _=>False) (w':=w) (τ:=tab.ty) r.e).length
  rw [← hzc] at this
  simpa using this
 have hb2:(r.n+k)*i.bytes≤140737488355328:=Nat.le_trans (Nat.mul_le_mul (by omega:r.n+k≤1073741824) hby) (by decide)
 have hkb:k*i.bytes≤281474976710656:=Nat.le_trans (Nat.mul_le_mul (by omega:k≤1073741824) hby) (by decide)
 have key:∃ old:List Value,old.length=r.n*r.e.cells∧Q8 tab.ty S w r.e (r.ys.take r.n) old∧(Builtin.firstCells i.size r.n (.slice A' r.n (c - 0))).run P w.drew=.ok old.toArray w.drew:=by
  rcases h5 with ⟨rfl,hc⟩ | ⟨g,cur,rfl,hh,hcs,hm⟩
  ·have hn0:r.n=0:=by omega
   refine ⟨[],by rw [hn0];simp,fun j x hj=>by rw [hn0] at hj;simp at hj,?_⟩
   rw [hn0]
   exact run_firstCells_none w.drew i.size 0 0 (c - 0)
  ·have hcu:r.n*r.e.cells≤cur.size:=by rw [hcs];exact Nat.mul_le_mul_right _ (by omega)
   have hll:(cur.toList.take (r.n*r.e.cells)).length=r.n*r.e.cells:=by rw [List.length_take,Array.length_toList];omega
   refine ⟨cur.toList.take (r.n*r.e.cells),hll,fun j x hj=>?_,?_⟩
   ·rw [List.getElem?_take] at hj
    split at hj
    case isFalse=>cases hj
    case isTrue hjn=>
    have h1:=hm j x hj
    have hb:j*r.e.cells+r.e.cells≤r.n*r.e.cells:=by
     have:=Nat.mul_le_mul_right r.e.cells (show j+1≤r.n by omega)
     rw [Nat.add_mul,Nat.one_mul] at this
     exact this
    rw [List.drop_take,List.take_take,show min r.e.cells (r.n*r.e.cells - j*r.e.cells)=r.e.cells by omega]
    exact h1
   ·rw [hisz]
    refine run_firstCells_some w.drew r.e.cells r.n ⟨g,0,none⟩ r.n (c - 0) _ hll (fun j u hu=>?_)
    have:=Q8g (w:=w) (e:=r.e) hh (o:=0) (news:=cur.toList.take (r.n*r.e.cells)) (by rw [List.drop_zero,hll]) hu
    exact this
 obtain ⟨old,hol,hom,hfc⟩:=key
 have hgc:=grownCap_ge w (r.n+k) (c - 0) r.eT
 have hgm:=grownCap_le_maxLen w (r.n+k) (c - 0) r.eT (by simp [maxLen];omega)
 have hrun:=Lib.run_append_grow_zeros (P:=P) w T T' o.type r.eT i z kq kn hu hun hi hzz A' r.n (c - 0) old hfc k (by omega) (by rw [hisz];exact hpos) (by omega) (by omega) hkb (growslice_fits (by omega) hb2)
 have hze:=Q79 hpos hzc k
 have hzr:=Q1.zeros (τ:=tab.ty) (S:=S) (w:=w) r.e k
 have hzl:=hzr.length
 rw [List.length_replicate] at hzl
 intro Q K hK
 refine Ju ho ha ht (v':=.slice (some ⟨w.heap.size,0,none⟩) (r.n+k) (grownCap w (r.n+k) (c - 0) r.eT)) (w':=w.drew.alloc (.cells (old.toArray++Builtin.zeroCells z.cells k++Builtin.zeroCells z.cells (grownCap w (r.n+k) (c - 0) r.eT - (r.n+k))) r.eT))
  (by rw [hv,hxv];exact hrun) Q K (hK _ _ (fun st' hst'=>?_))
 refine Q9e h (sv:=.win (o.dst.getD 999999999,0) 0 (r.n+k) r.e.cells) ((Fr.drew (fun _=>False) w).trans (Fr.alloc (fun _=>False) w.drew _)) (fun β'=>?_) (fun b hb=>?_) (fun β' hb=>⟨_,_,_,_,hb,by omega,rfl,fun _=>by simp [Addr.add]⟩) hst'
 ·have htl:(r.ys.take r.n).length=r.n:=by rw [List.length_take];omega
  refine ⟨hpos,some ⟨w.heap.size,0,none⟩,grownCap w (r.n+k) (c - 0) r.eT,rfl,by simp [htl];omega,hgc,hgm,(fun hx=>by cases hx),.inr ⟨w.heap.size,_,rfl,heap_alloc_new w.drew _,?_,?_⟩⟩
  ·rw [Array.size_append,Array.size_append,size_zeroCells,size_zeroCells,List.size_toArray,hol,hzs,← Nat.add_mul,← Nat.add_mul]
   congr 1;omega
  ·have fr:∀ {x:r.e.den} {q:List Value},Rep tab.ty S w r.e x q→Rep tab.ty S (w.drew.alloc (.cells (old.toArray++Builtin.zeroCells z.cells k++Builtin.zeroCells z.cells (grownCap w (r.n+k) (c - 0) r.eT - (r.n+k))) r.eT)) r.e x q:=fun hq=>
    hq.frame (w:=w) (fun _ x=>x) (by simp) (fun k _ hlt=>RowKit.Below.heap_alloc w.drew _ k hlt)
   intro j x hj
   refine fr ?_
   rw [Array.toList_append,Array.toList_append,hze,List.toList_toArray]
   by_cases hjn:j<r.n
   ·rw [List.getElem?_append_left (by omega)] at hj
    have h1:=hom j x hj
    have hb:j*r.e.cells+r.e.cells≤old.length:=by
     rw [hol]
     have:=Nat.mul_le_mul_right r.e.cells (show j+1≤r.n by omega)
     rw [Nat.add_mul,Nat.one_mul] at this
     exact this
    rw [List.append_assoc,List.drop_append_of_le_length (by omega),List.take_append_of_le_length (by rw [List.length_drop];omega)]
    exact h1
   ·rw [List.getElem?_append_right (by omega),htl] at hj
    have hjk:j - r.n<k:=by
     rcases Nat.lt_or_ge (j - r.n) k with hlt | hge
     ·exact hlt
     ·rw [List.getElem?_eq_none (by simpa using hge)] at hj;cases hj
    have h1:=hzr.elem (j - r.n) (by simpa using hjk)
    have hx2:(List.replicate k r.e.dflt).getD (j - r.n) r.e.dflt=x:=by
     rw [List.getElem?_map] at hj
     rw [List.getD_eq_getElem?_getD]
     cases hg:(List.replicate k r.e.dflt)[j - r.n]? with
     | none=>rw [hg] at hj;cases hj
     | some y=>rw [hg] at hj;exact Option.some.inj (Option.some.inj hj)
    rw [hx2] at h1
    have hb:(j - r.n)*r.e.cells+r.e.cells≤k*r.e.cells:=by
     have:=Nat.mul_le_mul_right r.e.cells (show j - r.n+1≤k by omega)
     rw [Nat.add_mul,Nat.one_mul] at this
     exact this
    have e0:j*r.e.cells=old.length+(j - r.n)*r.e.cells:=by rw [hol,← Nat.add_mul];congr 1;omega
    rw [e0,List.append_assoc,List.drop_append,List.drop_eq_nil_of_le (by omega),List.nil_append,Nat.add_sub_cancel_left,List.drop_append_of_le_length (by omega),List.take_append_of_le_length (by rw [List.length_drop];omega)]
    exact h1
 ·have:=Option.some.inj hb
  subst this
  exact ⟨Nat.le_refl _,by simp⟩
theorem Q8p (hTab:Qc P tab) (h:Rel P tab.ty N w0 F S β st a w) {o:Oper} {s x:Operand} {args:Array Operand} {ts:Array TypeId} {T T':TypeId} (ho:o.op=.call { callee:=.builtin .append,args:=args,argTypes:=ts }) (ha:args.toList=[s,x]) (ht:ts.toList=[T,T'])
  {R:Type} {k:SV→List Lab→Upd→Option R} {res:R} (he:Q01 tab st (Qb st.slots) (o.dst.getD 999999999) s x T T' k=some res):∃ v del u,k v del u=some res∧Xc P tab N w0 F S β st a w o v del u:=by
 unfold Q01 at he
 split at he
 case h_2=>cases he
 case h_1 eT htd=>
 obtain ⟨e,hte,he⟩:=Option.bind_eq_some_iff.1 he
 obtain ⟨sv,hsv,he⟩:=Option.bind_eq_some_iff.1 he
 obtain ⟨⟨ls,xs⟩,hb,he⟩:=Option.bind_eq_some_iff.1 he
 rw [X8] at he
 obtain ⟨ys,hys,he⟩:=Option.bind_eq_some_iff.1 he
 cases hq:((ls.all fun l=>!(Xu l (Qe (Qb st.slots x))))&&Nat.ble (xs.length+ys.length) 1073741824) with
 | false=>simp only [hq] at he;cases he
 | true=>
  simp only [hq,cond_true] at he
  simp only [Bool.and_eq_true] at hq
  have hlim:=Q2.1 hq.2
  refine ⟨_,_,_,he,?_⟩
  have hpos:=hTab.pos T eT e htd hte
  have hu:P.underlying T=some (.slice eT):=hTab.td T _ htd
  have hT:=hTab.ty eT e hte
  have hs:=Qy hsv (Q4 h s)
  obtain ⟨cells,hown,hrc,hls,hlo⟩:=Q7q h hTab htd hte hb hs
  obtain ⟨m,⟨As,cs,news,hxv,hzm,hAs,hcell,hrcy⟩,hlen,eT',hu'⟩:=Q6y hTab h hys
  have hlen:ys.length=m:=hlen
  have hrl:=hrcy.length
  obtain ⟨v',w',hrun,happ⟩:=Q2n (P:=P) (tab:=tab) (ty:=o.type) (A:=As) (m:=m) (c:=cs) (news:=news) hTab hu hT hpos hown (fun hn=>by rw [← hlen];exact hAs hn) (by rw [hrl,hlen]) hcell (fun u hu=>hrcy.oneCell u hu) (by omega)
  obtain ⟨i,z,hi,_⟩:=hT.info
  have hsl:∃ A n c,a.eval s=.slice A n c:=X1 hown
  obtain ⟨A,n,c,hsv2⟩:=hsl
  intro Q K hK
  refine Ju ho ha ht (v':=v') (w':=w') (by rw [hxv,hsv2,Q0l hu hu' hi,← hsv2];exact hrun) Q K (hK _ _ (fun st' hst'=>?_))
  exact Q4h h hpos (by rw [List.length_append,hlen]) happ (hrc.append hrcy) hls hst'
theorem Qhp:Extern.allGenericRows.lookup "slices.overlaps"=none:=by kernel_rfl
theorem Qhf:Extern.allTypedRows.lookup "slices.overlaps"=some Extern.SlicesOverlaps.overlaps:=by kernel_rfl
theorem Qgq (fn:Func):Q3v fn "slices.overlaps"=some (Extern.SlicesOverlaps.overlaps fn.params fn.resultTypes):=by
 unfold Q3v
 rw [Qhp,Qhf];rfl
theorem Q2q (tS tR e:TypeId) (ht:P.underlying tS=some (.slice e)) (size:Nat) (hz:∀ w,(Go.sizeOf e).run P w=.ok size w) (A B:Option Addr) (la ca lb cb:Nat)
  (hn:A=none∨B=none∨(la=0∨lb=0∨size=0)):(Extern.SlicesOverlaps.overlaps #[tS,tS] #[tR] #[.slice A la ca,.slice B lb cb]).run P w=.ok (.bool false) w:=by
 change Sem.run P (α:=Value) (do
  let some t:=(#[tS,tS]:Array TypeId)[0]? | stuck "slices.overlaps: no parameter types"
  let .slice elem ← underlying t | stuck "slices.overlaps: slice type expected"
  let size ← sizeOf elem
  match (A:Option Addr),(B:Option Addr) with
  | some a,some b=>
   if la=0∨lb=0∨size=0 then pure (Value.bool false)
   else if a.block != b.block&&(← frozen a)&&(← frozen b) then unsupported .addressObserved
   else do
    if a.block != b.block then do
     noView a;noView b
     if ← mayBeOne a b then return Value.bool ((← choose (.extern "sameAddr.stringBytes" 2))==1)
    pure (Value.bool (a.block==b.block&&a.off<b.off+lb*size&&b.off<a.off+la*size))
  | _,_=>pure (Value.bool false)) w=_
 rcases hn with rfl | rfl | hn
 ·simp [run_underlying ht,hz]
 ·cases A<;>simp [run_underlying ht,hz]
 ·cases A<;>cases B<;>simp [run_underlying ht,hz,hn]
theorem Qfa (hTab:Qc P tab) (h:Rel P tab.ty N w0 F S β st a w) {o:Oper} {f:Operand} {args:Array Operand} {ts:Array TypeId} (ho:o.op=.call { callee:=.value f,args:=args,argTypes:=ts })
  {g:FuncId} (hf:Qb st.slots f=.cv (.one (.gfn g))) (he:Qc9 tab (Q0 st.objs) g (args.toList.map (Qb st.slots))=some ()):Xc P tab N w0 F S β st a w o (.cv (.one (.lit false))) [] []:=by
 cases hal:args.toList with
 | nil=>rw [hal] at he;cases he
 | cons x r=>
 cases r with
 | nil=>rw [hal] at he;simp only [List.map_cons,List.map_nil] at he;unfold Qc9 at he;split at he<;>first | (rename_i hh;simp at hh;done) | cases he
 | cons y r=>
 cases r with
 | cons _ _=>rw [hal] at he;simp only [List.map_cons] at he;unfold Qc9 at he;split at he<;>first | (rename_i hh;simp at hh;done) | cases he
 | nil=>
 rw [hal] at he
 simp only [List.map_cons,List.map_nil] at he
 unfold Qc9 at he
 split at he
 case h_2=>cases he
 case h_1 l m lo n sz heq=>
 simp only [List.cons.injEq,and_true] at heq
 obtain ⟨hx,hy⟩:=heq
 split at he
 case h_2=>cases he
 case h_1 f0 eT e xs eT' e' ys n0 ex htd hol hom=>
 cases hlm:(Xl l m||!(Nat.beq f0 g)) with
 | true=>rw [hlm] at he;cases he
 | false=>
  rw [Bool.or_eq_false_iff,Bool.not_eq_false'] at hlm
  have hfg:=Nat.eq_of_beq_eq_true hlm.2
  subst hfg
  have hne:=X5.1 hlm.1
  have hxr:=Q4 h x
  rw [hx] at hxr
  have hyr:=Q4 h y
  rw [hy] at hyr
  obtain ⟨hβl,_⟩:=hxr
  obtain ⟨A,n0',c0,A',hβm,hle,hyv,hA⟩:=hyr
  obtain ⟨hpos,cells,hown,hrc⟩:=h.objs l _ hol
  obtain ⟨hpos',A2,c,hv2,k1,k2,k3,k4,k5⟩:=h.objs m _ hom
  obtain ⟨fn,tS,tR,e0,i0,hfn,hname,hbody,hnx,hlk,hor,hps,hrs,hu,hi0⟩:=hTab.ovl _ _ htd
  have hfind:Extern.find fn=some (Extern.SlicesOverlaps.overlaps #[tS,tS] #[tR]):=by
   have e1:Extern.find fn=(Q3v fn fn.name <|> Q3v fn fn.origin):=rfl
   have e2:=Qgq fn
   rw [e1,Option.isNone_iff_eq_none.1 hlk,hor,e2,hps,hrs];rfl
  rw [hv2] at hβm
  injection hβm with q1 q2 q3
  subst q1;subst q2;subst q3
  have hsz:∀ w,(sizeOf e0).run P w=.ok i0.size w:=fun w=>by simp [sizeOf,typeInfo,hi0]
  have key:∀ v,a.eval x=v→(Extern.SlicesOverlaps.overlaps #[tS,tS] #[tR] #[v,.slice A' n (c - lo)]).run P w=.ok (.bool false) w:=by
   intro v hv
   rw [← hβl] at hv
   rcases hown.2 with ⟨h1,h0⟩ | ⟨gl,cap,cur,h1,_,hg,hn,hc,hcs,htk⟩
   ·rw [← hv,h1]
    exact Q2q tS tR e0 hu i0.size hsz none A' _ _ _ _ (.inl rfl)
   ·rw [← hv,h1]
    cases hA':A' with
    | none=>exact Q2q tS tR e0 hu i0.size hsz _ none _ _ _ _ (.inr (.inl rfl))
    | some ad=>
     by_cases hz:xs.length=0∨n=0∨i0.size=0
     ·exact Q2q tS tR e0 hu i0.size hsz _ _ _ _ _ _ (.inr (.inr hz))
     ·have hlo:lo<c:=by omega
      have hA2:=hA (.inl hlo)
      rcases k5 with ⟨_,hc0⟩ | ⟨gm,cur2,rfl,hg2,hcs2,_⟩
      ·omega
      rw [hA'] at hA2
      simp only [Option.map_some] at hA2
      rw [Zq,Nat.zero_add] at hA2
      have hA2:=Option.some.inj hA2
      subst hA2
      have hgg:gl≠gm:=fun e=>h.dist l m _ _ hol hom hne gl (by rw [h1];rfl) (by rw [hv2,e];rfl)
      refine Lib.run_overlaps_apart w tS tR e0 hu i0.size hsz ⟨gl,0,none⟩ _ xs.length cap n (c - lo) hgg eT eT' (cur.size) (cur2.size) (by simp [World.shape?,hg]) (by simp [World.shape?,hg2]) ?_ (by simp [World.frozen?,hg]) (by simp [World.frozen?,hg])
      rw [hcs2]
      exact Nat.ne_of_gt (Nat.mul_pos (by omega) hpos')
  intro Q K hK
  have hargs:args=#[x,y]:=Q2y hal
  subst hargs
  have hfe:a.eval f=.func (.func f0) #[] #[]:=by have:=Q4 h f;rw [hf] at this;exact this
  have hr:(execOp a.eval o).run P w=.ok (.value (.bool false)) w:=by
   unfold execOp
   simp only [ho]
   have:=run_callFunc_extern (w:=w) hfn hname hbody hnx hfind #[a.eval x,a.eval y]
   rw [hyv,key _ rfl] at this
   simp [resolve,hfe,Deferred.ofValue,invoke,hyv,this,Result.andThen]
  unfold Oper.wp
  rw [hr]
  exact hK _ _ (fun st' hst'=>h.noUpd (v:=.cv (.one (.lit false))) rfl hst')
theorem Qfr (hTab:Qc P tab) (h:Rel P tab.ty N w0 F S β st a w) {o:Oper} {f:Operand} {args:Array Operand} {ts:Array TypeId} (ho:o.op=.call { callee:=.value f,args:=args,argTypes:=ts })
  {g:FuncId} (hf:Qb st.slots f=.cv (.one (.gfn g))) {z:Bool × IV × Lab × Int × Nat} (he:Qeo tab (Q0 st.objs) g (args.toList.map (Qb st.slots))=some z) :
  (z.1=true→Xc P tab N w0 F S β st a w o (.tupn z.2.1) [] [])∧(z.1=false→Xc P tab N w0 F S β st a w o (.tupe z.2.2.1 z.2.2.2.1 z.2.2.2.2) [] []):=by
 have hfe:=Q4 h f
 rw [hf] at hfe
 have hfe:a.eval f=.func (.func g) #[] #[]:=hfe
 have hargs:=Q3y h args.toList
 generalize hal:args.toList.map (Qb st.slots)=svs at he hargs
 unfold Qeo at he
 split at he
 case h_2=>cases he
 case h_1 l v=>
 obtain ⟨x1,vr,e1,hx1,x2,vr2,e2,hx2,e3⟩:=hargs
 subst e2
 have e3:vr2=[]:=e3
 subst e3
 obtain ⟨p,hp,he⟩:=Option.bind_eq_some_iff.1 he
 have hx2:=Qv hp hx2
 subst hx2
 obtain ⟨b,hb1,hb2⟩:=hx1
 subst hb2
 split at he
 case h_2=>cases he
 case h_1 f' W k c sz T' m vs htd hol=>
 split at he
 case h_2=>cases he
 case h_1 eT e xs hom=>
 cases hq:(Nat.beq f' g&&Qgy tab W k c&&Nat.beq sz e.cells&&Nat.beq (Qq p.1) 3) with
 | false=>rw [hq] at he;cases he
 | true=>
 rw [hq] at he
 have he:=Option.some.inj he
 subst he
 simp only [Bool.and_eq_true] at hq
 obtain ⟨⟨⟨q1,q2⟩,q3⟩,q4⟩:=hq
 have q1:=Nat.eq_of_beq_eq_true q1
 have q3:=Nat.eq_of_beq_eq_true q3
 subst q1;subst q3
 have hk:p.1=.i64:=Jz (Nat.eq_of_beq_eq_true q4)
 obtain ⟨hok,helt⟩:=hTab.elt _ _ _ _ _ _ htd
 obtain ⟨b2,T2,cs,hβ,hh,hrels⟩:=h.objs l _ hol
 rw [hβ] at hb1
 simp only [Value.pointer.injEq,Option.some.injEq,Addr.mk.injEq] at hb1
 obtain ⟨rfl,_⟩:=hb1
 obtain ⟨c0,cr,hcs,hm,_⟩:=hrels
 obtain ⟨hβm,A,n,cp,hv⟩:=hm
 subst hv
 have hc0:cs[0]?=some (.slice A n cp):=by rw [← Array.getElem?_toList,hcs];rfl
 obtain ⟨hpos,cells,hown,hrc⟩:=h.objs m _ hom
 have hn:n=xs.length∧n≤maxLen:=by
  rcases hown.2 with ⟨e5,e6⟩ | ⟨g,cap,cur,e5,_,hh2,e6,e7,e8,e9⟩
  ·rw [hβm] at e5;injection e5 with _ e5 _;exact ⟨by omega,by rw [e5];simp [maxLen]⟩
  ·rw [hβm] at e5;injection e5 with _ e5 _;exact ⟨e5,by omega⟩
 have hargs2:args.map a.eval++#[]=#[.pointer (some ⟨b2,0,none⟩),.int .i64 p.2]:=by
  apply Array.ext'
  rw [Array.append_empty,Array.toList_map,e1,hk]
 obtain ⟨g1,g2⟩:=helt w b2 cs T2 A n cp p.2 hh hc0 hn.2
 refine ⟨fun hq=>?_,fun hq=>?_⟩
 ·simp only [Bool.or_eq_true,decide_eq_true_eq] at hq
  intro Q K hK
  refine Q5c ho hfe hok Q K ?_
  rw [hargs2]
  refine (g1 (hq.imp id (fun h=>by rw [hn.1];exact h))).mono ?_
  rintro ex w' ⟨⟨u,rfl⟩,hfr⟩
  refine ⟨_,rfl,hK _ _ (fun st' hst=>?_)⟩
  have e:Qs (delAll st []) (o.dst.getD 999999999) []=some st:=rfl
  rw [e] at hst
  have:=Option.some.inj hst
  subst this
  refine ⟨S,β,fun _ hk=>hk,fun _ _=>rfl,h.grow' hfr,u,rfl,fun t ht=>?_⟩
  unfold Qgy at q2
  rw [ht] at q2
  simp only at q2
  split at q2
  ·rename_i x hx;exact ⟨x,hx⟩
  ·cases q2
 ·simp only [Bool.or_eq_false_iff,decide_eq_false_iff_not] at hq
  intro Q K hK
  refine Q5c ho hfe hok Q K ?_
  rw [hargs2]
  have hA:∃ g,A=some ⟨g,0,none⟩:=by
   rcases hown.2 with ⟨e5,e6⟩ | ⟨g,cap,cur,e5,_⟩
   ·have e6:xs.length=0:=e6
    omega
   ·rw [hβm] at e5;injection e5 with e5 _ _;exact ⟨g,e5⟩
  obtain ⟨g,rfl⟩:=hA
  refine (g2 (by omega) (by rw [hn.1];omega) g rfl).mono ?_
  rintro ex w' ⟨rfl,hfr⟩
  refine ⟨_,rfl,hK _ _ (fun st' hst=>?_)⟩
  have e:Qs (delAll st []) (o.dst.getD 999999999) []=some st:=rfl
  rw [e] at hst
  have:=Option.some.inj hst
  subst this
  exact ⟨S,β,fun _ hk=>hk,fun _ _=>rfl,h.grow' hfr,g,by rw [hβm];rfl,rfl⟩
end
end Go.PE
set_option linter.unusedVariables false
set_option linter.unusedSimpArgs false
namespace Go.PE
section
variable {P:Program} {tab:Tab} {N:NN} {w0:World} {F:FF} {S:Nat→Prop} {β:Lab→Value} {st:St} {a:Act} {w:World}
theorem Q0m:∀ {ls:List Lab} {st st':St} {S:Nat→Prop},Rel P tab.ty N w0 F S β st a w→Q1o st ls=some st'→∃ S',(∀ k,S k→S' k)∧Rel P tab.ty N w0 F S' β st' a w
 | [],st,st',S,h,he=>by have:=Option.some.inj he;subst this;exact ⟨S,fun _ x=>x,h⟩
 | l::r,st,st',S,h,he=>by
  unfold Q1o at he
  split at he
  ·obtain ⟨s,hs,he⟩:=Option.bind_eq_some_iff.1 he
   obtain ⟨S1,h1,h2⟩:=h.frz hs
   obtain ⟨S2,h3,h4⟩:=Q0m h2 he
   exact ⟨S2,fun k hk=>h3 k (h1 k hk),h4⟩
  ·exact Q0m h he
def Jk (τ:TypeId→Option Ty) (S:Nat→Prop) (w:World):List ((t:Ty) × t.den)→List Value→Prop
 | [],vs=>vs=[]
 | ⟨t,x⟩::r,vs=>∃ v vr,vs=v::vr∧Jb τ S w t x v∧Jk τ S w r vr
theorem Jk.mono {τ:TypeId→Option Ty} {S S':Nat→Prop} (hS:∀ k,S k→S' k):∀ {cs:List ((t:Ty) × t.den)} {vs:List Value},Jk τ S w cs vs→Jk τ S' w cs vs
 | [],vs,h=>h
 | ⟨t,x⟩::r,vs,h=>by obtain ⟨v,vr,rfl,h1,h2⟩:=h;exact ⟨v,vr,rfl,Jb.frame hS (Nat.le_refl _) (fun _ _ _=>rfl) h1,Jk.mono hS h2⟩
theorem Jk.snoc {τ:TypeId→Option Ty} {S:Nat→Prop} {t:Ty} {x:t.den} {v:Value} (hv:Jb τ S w t x v):∀ {cs:List ((t:Ty) × t.den)} {vs:List Value},Jk τ S w cs vs→Jk τ S w (cs++[⟨t,x⟩]) (vs++[v])
 | [],vs,h=>by have h:vs=[]:=h;subst h;exact ⟨v,[],rfl,hv,rfl⟩
 | ⟨t',x'⟩::r,vs,h=>by obtain ⟨v',vr,rfl,h1,h2⟩:=h;exact ⟨v',vr++[v],rfl,h1,Jk.snoc hv h2⟩
theorem Qcs {τ:TypeId→Option Ty} {S:Nat→Prop}:∀ {ts:List Ty} {cs:List ((t:Ty) × t.den)} {y:Zg ts} {vals:List Value},Qha ts cs=some y →
  Jk τ S w cs vals→Q1n τ S w ts y vals
 | [],[],y,vals,h,hc=>hc
 | [],_::_,y,vals,h,hc=>by cases h
 | _::_,[],y,vals,h,hc=>by cases h
 | t::r,⟨t',x⟩::q,y,vals,h,hc=>by
  obtain ⟨y1,h1,h⟩:=Option.bind_eq_some_iff.1 h
  obtain ⟨z,h2,h⟩:=Option.bind_eq_some_iff.1 h
  have:=Option.some.inj h
  subst this
  obtain ⟨v,vr,rfl,g1,g2⟩:=hc
  exact ⟨v,vr,rfl,Jb.cast h1 g1,Qcs h2 g2⟩
theorem Q0v.mono (hlt:∀ k,S k→k<w.heap.size) {S':Nat→Prop} (hS:∀ k,S k→S' k):∀ {svs:List SV} {vs:List Value},Q0v P tab.ty S β w svs vs→Q0v P tab.ty S' β w svs vs
 | [],vs,h=>h
 | x::r,vs,h=>by obtain ⟨v,vr,rfl,h1,h2⟩:=h;exact ⟨v,vr,rfl,h1.frame hS (Nat.le_refl _) (fun _ _ _=>rfl) hlt (fun _ _=>rfl),Q0v.mono hlt hS h2⟩
theorem Q0u {Γ:Ctx} (hΓ:Jc tab.ty P Γ) {f:FuncId}:∀ {svs:List SV} {st st':St} {S:Nat→Prop} {cs:List ((t:Ty) × t.den)} {lv:LV} {vals cvals:List Value},
  Rel P tab.ty N w0 F S β st a w→Jx Γ tab f st svs cs=some (st',lv)→Q0v P tab.ty S β w svs vals→Jk tab.ty S w cs cvals →
  ∃ S',(∀ k,S k→S' k)∧Rel P tab.ty N w0 F S' β st' a w∧Qm P tab.ty S' β w lv (.func (.func f) #[] (cvals++vals).toArray)
 | [],st,st',S,cs,lv,vals,cvals,h,he,hv,hc=>by
  have hv:vals=[]:=hv
  subst hv
  obtain ⟨e,heg,he⟩:=Option.bind_eq_some_iff.1 he
  have he:(bif Xh e.ps&&e.rs.all Q0f then (Qha (Qu e.ps).2 cs).bind fun y=>some (st,LV.clo (Qu e.ps).1 (e.rs.map (·.t)) (Qbe e y (e.rs.map (·.t)))) else none)=some (st',lv):=he
  cases hq:(Xh e.ps&&e.rs.all Q0f) with
  | false=>rw [hq] at he;cases he
  | true=>
   rw [hq] at he
   obtain ⟨y,hy,he⟩:=Option.bind_eq_some_iff.1 he
   obtain ⟨rfl,rfl⟩:=Prod.mk.inj (Option.some.inj he)
   simp only [Bool.and_eq_true] at hq
   rw [List.append_nil]
   exact ⟨S,fun _ x=>x,h,(hΓ f e heg).clo hq.1 hq.2 (Qcs hy hc)⟩
 | sv::r,st,st',S,cs,lv,vals,cvals,h,he,hv,hc=>by
  obtain ⟨v,vr,rfl,h1,h2⟩:=hv
  cases sv with
  | dead=>cases he
  | skip=>cases he
  | tup _=>cases he
  | ap _ _ _ _=>cases he
  | win _ _ _ _=>cases he
  | tupe _ _ _=>cases he
  | tupn _=>cases he
  | ep t x=>
   have he:Jx Γ tab f st r (cs++[⟨t,x⟩])=some (st',lv):=he
   have:=Q0u hΓ h he h2 (hc.snoc h1)
   rw [List.append_assoc] at this
   exact this
  | cv c=>
   cases c with
   | agg _=>cases he
   | one u=>
    cases u<;>try (cases he;done)
    case ptr l off=>
    cases off with
    | succ n=>cases he
    | zero=>
     obtain ⟨⟨st1,t,x⟩,hf,he⟩:=Option.bind_eq_some_iff.1 he
     obtain ⟨S1,g1,g2,g3⟩:=h.frzBox hf h1
     obtain ⟨S2,k1,k2,k3⟩:=Q0u hΓ g2 he (h2.mono h.sb g1) ((hc.mono g1).snoc g3)
     rw [List.append_assoc] at k3
     exact ⟨S2,fun k hk=>k1 k (g1 k hk),k2,k3⟩
def Qab (P:Program) (tab:Tab) (N:NN) (w0:World) (F:FF) (S:Nat→Prop) (β:Lab→Value) (a:Act) (w:World) (o:Oper) {R:Type} (k:St→List Lab→Option R) (res:R):Prop:=
 ∀ (Q:Exit→Act→World→Prop) (K:Act→World→Prop),
  (∀ x w' S' β' s W,(∀ k,S k→S' k)→(∀ l:Lab,l.1≠o.dst.getD 999999999→β' l=β l)→Rel P tab.ty N w0 F S' β' s (a.put o.dst x) w'→k s W=some res→K (a.put o.dst x) w')→o.wp P a w K Q
theorem Xc.fin {o:Oper} {v:SV} {del:List Lab} {u:Upd} {R:Type} {k:St→List Lab→Option R} {res:R} (hg:Xc P tab N w0 F S β st a w o v del u) (hd:∀ d,o.dst=some d→okD N d)
  (hf:Z3 st o v del u k=some res):Qab P tab N w0 F S β a w o k res:=by
 obtain ⟨s,hs,hk⟩:=Option.bind_eq_some_iff.1 hf
 intro Q K hK
 refine hg Q K (fun x w' hx=>?_)
 obtain ⟨S',β',h1,hβ,h2,h3⟩:=hx s hs
 exact hK x w' S' β' _ _ h1 hβ (h2.put hd h3) hk
theorem Qab.mono {o:Oper} {R:Type} {k:St→List Lab→Option R} {res:R} {S1:Nat→Prop} (hS:∀ k,S k→S1 k) (h:Qab P tab N w0 F S1 β a w o k res):Qab P tab N w0 F S β a w o k res:=
 fun Q K hK=>h Q K (fun x w' S' β' s W h1 h2 h3 h4=>hK x w' S' β' s W (fun k hk=>h1 k (hS k hk)) h2 h3 h4)
theorem Qj0 {v:IV} {T:TypeId} (h:IV.is v T=true):∃ cs,v=.mk T cs:=by
 cases v with
 | nil=>cases h
 | mk T' cs=>have:=Nat.eq_of_beq_eq_true h;subst this;exact ⟨cs,rfl⟩
theorem Q6d {Γ:Ctx} (hΓ:Jc tab.ty P Γ) (hTab:Qc P tab) (h:Rel P tab.ty N w0 F S β st a w) {o:Oper} {r:Operand} {m:String} {args:Array Operand} {ts:Array TypeId} (ho:o.op=.call { callee:=.invoke r m,args:=args,argTypes:=ts })
  {v:IV} (hr:Qb st.slots r=.cv (.one (.pure .ifc v))) {R:Type} {k:SV→List Lab→Upd→Option R} {res:R}:∀ {l:List TypeId},J0 Γ tab (Q0 st.objs) (o.dst.getD 999999999) m v (args.toList.map (Qb st.slots)) k l=some res →
   ∃ x del u,k x del u=some res∧Xc P tab N w0 F S β st a w o x del u
 | [],he=>by cases he
 | T::l,he=>by
  unfold J0 at he
  split at he
  case h_2=>cases he
  case h_1 T' n f t htd hty=>
  cases hq:(decide (n=m)&&t.isAgg&&Nat.beq T' T) with
  | false=>rw [hq] at he;cases he
  | true=>
   rw [hq] at he
   simp only [cond_true] at he
   simp only [Bool.and_eq_true,decide_eq_true_eq] at hq
   obtain ⟨⟨hnm,hagg⟩,hTT⟩:=hq
   have hTT:=Nat.eq_of_beq_eq_true hTT
   subst hnm;subst hTT
   cases his:IV.is v T' with
   | false=>rw [his] at he;exact Q6d hΓ hTab h ho hr he
   | true=>
    rw [his] at he
    simp only [cond_true] at he
    obtain ⟨e,heg,he⟩:=Option.bind_eq_some_iff.1 he
    obtain ⟨cs,rfl⟩:=Qj0 his
    have hx:=Q4 h r
    rw [hr] at hx
    obtain ⟨hv,hok⟩:=hx
    have hv:a.eval r=.iface T' (.agg (cs.map AT.val).toArray):=List.singleton_inj.1 hv
    obtain ⟨y,hy⟩:=hok t hty
    have hval:IV.val (IV.mk T' cs) t=y:=by simp only [IV.val,hy]
    rw [hval] at he
    have hrep:Rep tab.ty S w t y (cs.map AT.val):=by
     obtain ⟨l1,e1,hr1⟩:=Q9j (S:=S) (w:=w) (τ:=tab.ty) hy
     rw [List.append_nil] at e1
     subst e1
     exact hr1
    exact Q9c hΓ h heg (svs:=.cv (.agg (lvs t y))::args.toList.map (Qb st.slots)) (vals:=.agg (cs.map AT.val).toArray::args.toList.map a.eval) ⟨_,_,rfl,⟨cs.map AT.val,rfl,Qau hrep⟩,Q3y h args.toList⟩
     (fun Q K hc=>Qhs ho hv (hTab.mth _ _ n f htd) (hΓ f e heg).1 Q K hc) he
theorem Qap {Γ:Ctx} (hΓ:Jc tab.ty P Γ) (hTab:Qc P tab) {kn:List (Nat × Bool)} (hk:Q4p kn a) {S1:Nat→Prop} {st1:St} (h:Rel P tab.ty N w0 F S1 β st1 a w) {o:Oper} (hd:∀ d,o.dst=some d→okD N d) {R:Type} {k:St→List Lab→Option R} {res:R}
  (he:Zp Γ tab kn st1 o k=some res):Qab P tab N w0 F S1 β a w o k res:=by
 unfold Zp at he
 have simple:(ev1 tab kn (Qb st1.slots) (Q0 st1.objs) (o.dst.getD 999999999) o.op o.type).bind (fun r=>bif r.1 then Z3 st1 o r.2.1 [] r.2.2 k else none)=some res→Qab P tab N w0 F S1 β a w o k res:=by
  intro he
  obtain ⟨⟨c,v,u⟩,hr,he⟩:=Option.bind_eq_some_iff.1 he
  cases hc:c with
  | false=>rw [hc] at he;cases he
  | true=>
   rw [hc] at he
   exact (Qfj hTab hk h hr hc).toO.fin hd he
 cases ho:o.op<;>rw [ho] at he simple<;>try exact simple he
 case convert sT dT x=>
  simp only at he
  cases hb0:(bif Q6m Γ then Q3a tab (o.dst.getD 999999999) sT dT (Qb st1.slots x) else none) with
  | some r=>
   obtain ⟨c,v,u⟩:=r
   rw [hb0] at he
   simp only at he
   cases hc:c with
   | false=>rw [hc] at he;cases he
   | true=>
    rw [hc] at he
    cases hw:Q6m Γ with
    | false=>rw [hw] at hb0;cases hb0
    | true=>
     rw [hw] at hb0
     exact (Qah hTab h ho hb0 hc).fin hd he
  | none=>
  rw [hb0] at he
  simp only at he
  cases hb:Q5d tab (Q0 st1.objs) sT dT (Qb st1.slots x) with
  | none=>rw [hb] at he;exact simple he
  | some r=>
   obtain ⟨c,v,del⟩:=r
   rw [hb] at he
   simp only at he
   cases hc:c with
   | false=>rw [hc] at he;cases he
   | true=>
    rw [hc] at he
    exact (Qbb hTab h ho hb hc).fin hd he
 case slice T x lo hi mx=>
  simp only at he
  cases hw:(Q6m Γ&&Qgk (Q0 st1.objs) (Qb st1.slots x)) with
  | false=>rw [hw] at he;exact simple he
  | true=>
   rw [hw] at he
   clear simple
   simp only [cond_true] at he
   obtain ⟨n,hn,he⟩:=Option.bind_eq_some_iff.1 he
   obtain ⟨l,hl,he⟩:=Option.bind_eq_some_iff.1 he
   obtain ⟨m,hm,he⟩:=Option.bind_eq_some_iff.1 he
   obtain ⟨q,hq,he⟩:=Option.bind_eq_some_iff.1 he
   obtain ⟨⟨c,v,u⟩,hr,he⟩:=Option.bind_eq_some_iff.1 he
   cases hc:c with
   | false=>rw [hc] at he;cases he
   | true=>
    rw [hc] at he
    exact (Qa1 hTab h ho hn hl hm hq hr hc).fin hd he
 case makeFunc fn first captured=>
  clear simple
  cases fn<;>try (cases he;done)
  case func f=>
  cases hfirst:first.toList with
  | cons _ _=>simp only [hfirst] at he;cases he
  | nil=>
   simp only [hfirst] at he
   obtain ⟨⟨st2,lv⟩,hm,he⟩:=Option.bind_eq_some_iff.1 he
   obtain ⟨S2,g1,g2,g3⟩:=Q0u hΓ h hm (Q3y h captured.toList) (cs:=[]) (cvals:=[]) rfl
   refine Qab.mono g1 (Xc.fin (Qa.toO (Qa.plain g2 (x:=.func (.func f) #[] (captured.map a.eval)) ?_ ?_)) hd he)
   ·unfold execOp
    have e1:first=#[]:=by apply Array.ext';simpa using hfirst
    subst e1
    simp [ho,Instr.makeFunc]
   ·have e2:captured.map a.eval=([]++captured.toList.map a.eval).toArray:=by apply Array.ext';simp
    rw [e2]
    exact g3
 case call cl=>
  obtain ⟨callee,args,argTypes⟩:=cl
  cases callee with
  | invoke r m=>
   clear simple
   simp only at he
   split at he
   case h_2=>cases he
   case h_1 v hr=>
   obtain ⟨x,del,u,hfin,hg⟩:=Q6d hΓ hTab h ho hr he
   exact hg.fin hd hfin
  | builtin b=>
   cases b<;>try exact simple he
   case cap=>
    clear simple
    simp only [Jl,X8] at he
    split at he
    case h_2=>cases he
    case h_1 x T ha ht=>
    obtain ⟨r,hr,he⟩:=Option.bind_eq_some_iff.1 he
    cases hq:(Q2h tab T r.eT r.e&&r.ex) with
    | false=>rw [hq] at he;cases he
    | true=>
     rw [hq] at he
     simp only [Bool.and_eq_true] at hq
     exact (Qf6 h ho ha ht (Q3u hTab hq.1).1 hr hq.2).fin hd he
   case copy=>
    clear simple
    simp only [Jl,X8] at he
    split at he
    case h_2=>cases he
    case h_1 x y T T' ha ht=>
    obtain ⟨r,hr,he⟩:=Option.bind_eq_some_iff.1 he
    cases hq:Q2h tab T r.eT r.e with
    | false=>rw [hq] at he;cases he
    | true=>
     rw [hq] at he
     obtain ⟨zs,hz,he⟩:=Option.bind_eq_some_iff.1 he
     exact (Qdu hTab h ho ha ht hr hq hz).fin hd he
   case clear=>
    clear simple
    simp only [Jl,X8] at he
    split at he
    case h_2=>cases he
    case h_1 x T ha ht=>
    obtain ⟨r,hr,he⟩:=Option.bind_eq_some_iff.1 he
    cases hq:Q2h tab T r.eT r.e with
    | false=>rw [hq] at he;cases he
    | true=>
     rw [hq] at he
     exact (Qcq hTab h ho ha ht hr hq).fin hd he
   case append=>
   clear simple
   simp only [Jl,X8] at he
   split at he
   case h_2=>cases he
   case h_1 s x T T' ha ht=>
   split at he
   case h_1 l0 lo0 n0 sz0 hws=>
    obtain ⟨r,hr,he⟩:=Option.bind_eq_some_iff.1 he
    cases hq:(Q2h tab T r.eT r.e&&Nat.beq r.lo 0) with
    | false=>rw [hq] at he;cases he
    | true=>
     rw [hq] at he
     simp only [cond_true] at he
     simp only [Bool.and_eq_true] at hq
     have hlo:=Nat.eq_of_beq_eq_true hq.2
     split at he
     ·rename_i z hz
      obtain ⟨c0,zs⟩:=z
      cases hc:(c0&&r.ex&&Nat.blt r.ys.length (r.n+zs.length)&&Nat.ble (r.ys.length+zs.length) 536870912) with
      | false=>rw [hc] at he;cases he
      | true=>
       rw [hc] at he
       simp only [Bool.and_eq_true] at hc
       exact (Q8n hTab h ho ha ht hr hq.1 hlo hz hc.1.1.1 hc.1.1.2 (Q2.1 hc.1.2) (Q2.1 hc.2)).fin hd he
     ·obtain ⟨zs,hz,he⟩:=Option.bind_eq_some_iff.1 he
      cases hc:Nat.ble (r.n+zs.length) r.ys.length with
      | true=>
       rw [hc] at he
       exact (Q9r hTab h ho ha ht hr hq.1 hlo hz (Q2.1 hc)).fin hd he
      | false=>
       rw [hc] at he
       simp only [cond_false] at he
       cases hc2:(r.ex&&Nat.ble (r.n+zs.length) 1073741824) with
       | false=>rw [hc2] at he;cases he
       | true=>
        rw [hc2] at he
        simp only [Bool.and_eq_true] at hc2
        obtain ⟨xs,hxs,he⟩:=Option.bind_eq_some_iff.1 he
        have hno:r.ys.length<r.n+zs.length:=by
         rcases Nat.lt_or_ge r.ys.length (r.n+zs.length) with hlt | hge
         ·exact hlt
         ·rw [Q2.2 hge] at hc;cases hc
        exact (Q8s hTab h ho ha ht hr hq.1 hlo hz hno hc2.1 (Q2.1 hc2.2) hxs).fin hd he
   case h_2=>
   split at he
   case h_1=>
    obtain ⟨v,del,u,hfin,hg⟩:=Q8p hTab h ho ha ht he
    exact hg.fin hd hfin
   case h_2=>
   obtain ⟨⟨c,v,del,u⟩,hr,he⟩:=Option.bind_eq_some_iff.1 he
   cases hc:c with
   | false=>rw [hc] at he;cases he
   | true=>
    rw [hc] at he
    cases hil:isL (Q0 st1.objs) (Qb st1.slots x) with
    | true=>rw [hil] at hr;exact (Q8m hTab h ho ha ht hr).fin hd he
    | false=>rw [hil] at hr;exact (Qao hTab h ho ha ht hr hc).fin hd he
  | value f=>
   clear simple
   simp only at he
   split at he
   case h_3=>cases he
   case h_1 g hf=>
    split at he
    ·rename_i e heg
     obtain ⟨v,del,u,hfin,hg⟩:=Qcw hΓ h ho hf heg he
     exact hg.fin hd hfin
    ·split at he
     ·rename_i z hz
      obtain ⟨g1,g2⟩:=Qfr hTab h ho hf hz
      cases hq:z.1 with
      | true=>rw [hq] at he;exact (g1 hq).fin hd he
      | false=>rw [hq] at he;exact (g2 hq).fin hd he
     ·obtain ⟨_,hov,he⟩:=Option.bind_eq_some_iff.1 he
      exact (Qfa hTab h ho hf hov).fin hd he
   case h_2 ps rs g hf=>
    obtain ⟨⟨x,rd⟩,hx,he⟩:=Option.bind_eq_some_iff.1 he
    cases hq:rd.all (Q0g (Q0 st1.objs)) with
    | false=>simp only [hq] at he;cases he
    | true=>
     simp only [hq,cond_true] at he
     obtain ⟨r,hr,he⟩:=Option.bind_eq_some_iff.1 he
     exact (Qft h ho hf hx hq hr).fin hd he
theorem Q7b {Γ:Ctx} (hΓ:Jc tab.ty P Γ) (hTab:Qc P tab) {kn:List (Nat × Bool)} (hk:Q4p kn a) (h0:Rel P tab.ty N w0 F S β st a w) {o:Oper} (hd:∀ d,o.dst=some d→okD N d) {R:Type} {k:St→List Lab→Option R} {res:R}
  (he:Q41 Γ tab kn st o k=some res):Qab P tab N w0 F S β a w o (fun s W=>k s ((bif Qgn st (Q6x Γ (Q0 st.objs) (Qb st.slots) o)||Jw o then st.objs.map (·.1) else [])++W)) res:=by
 unfold Q41 at he
 obtain ⟨st1,hz,he⟩:=Option.bind_eq_some_iff.1 he
 obtain ⟨S1,hS1,h⟩:=Q0m h0 hz
 exact Qab.mono hS1 (Qap hΓ hTab hk h hd he)
end
end Go.PE
set_option linter.unusedVariables false
set_option linter.unusedSimpArgs false
namespace Go.PE
section
variable {P:Program} {tab:Tab} {N:NN} {w0:World} {F:FF} {S:Nat→Prop} {β:Lab→Value} {st:St} {a:Act} {w:World}
theorem Q4p.cons {kn:List (Nat × Bool)} (h:Q4p kn a) {t:Nat} {b:Bool} (hb:a.tmps.getD t undef=.bool b):Q4p ((t,b)::kn) a:=by
 intro u c hu
 simp only [Q5e] at hu
 cases hq:Nat.beq t u with
 | true=>
  rw [hq] at hu
  have e:=Nat.eq_of_beq_eq_true hq
  subst e
  have:=Option.some.inj hu
  subst this
  exact hb
 | false=>rw [hq] at hu;exact h u c hu
theorem Qfl {kn:List (Nat × Bool)} {d:Option Nat} {t:Nat} {b:Bool} (h:Q5e (Q27 kn d) t=some b):Q5e kn t=some b∧d≠some t:=by
 cases d with
 | none=>exact ⟨h,by simp⟩
 | some d=>
  simp only [Q27] at h
  induction kn with
  | nil=>cases h
  | cons p r ih=>
   obtain ⟨u,c⟩:=p
   rw [List.filter_cons] at h
   by_cases hq:u=d
   ·rw [show (!(Nat.beq u d))=false by rw [Z7.2 hq];rfl] at h
    obtain ⟨h1,h2⟩:=ih h
    refine ⟨?_,h2⟩
    simp only [Q5e]
    have:u≠t:=fun e=>h2 (by rw [← hq,e])
    rw [Qz.2 this]
    exact h1
   ·rw [show (!(Nat.beq u d))=true by rw [Qz.2 hq];rfl] at h
    simp only [if_true,Q5e] at h ⊢
    cases hb:Nat.beq u t with
    | true=>
     rw [hb] at h
     refine ⟨h,fun e=>hq ?_⟩
     have:=Option.some.inj e
     rw [this];exact Nat.eq_of_beq_eq_true hb
    | false=>
     rw [hb] at h
     exact ih h
theorem Q4p.del {kn:List (Nat × Bool)} (h:Q4p kn a) {d:Option Nat} {x:Value}:Q4p (Q27 kn d) (a.put d x):=by
 intro t b ht
 obtain ⟨h1,h2⟩:=Qfl ht
 have:=h t b h1
 cases d with
 | none=>exact this
 | some d=>
  have hne:d≠t:=fun e=>h2 (by rw [e])
  simp only [Act.put,Array.getD_eq_getD_getElem?,Array.getElem?_setIfInBounds]
  rw [if_neg hne]
  rw [Array.getD_eq_getD_getElem?] at this
  exact this
theorem Qbi {R:Type} {x y:Option R} {r:R} (h:Q3f x y=some r):x=some r∧y=some r:=by
 unfold Q3f at h
 split at h
 ·rename_i e _;exact ⟨h,by rw [← e];exact h⟩
 ·cases h
theorem Q5f {kn:List (Nat × Bool)} (hk:Q4p kn a) {t:Nat} {v:SV} (hv:Qf P tab.ty S β w v (a.tmps.getD t undef)) {R:Type} {k:List (Nat × Bool)→Bool→Option R} {res:R}
  (he:Q62 kn t v k=some res):∃ kn' b,Q4p kn' a∧a.tmps.getD t undef=.bool b∧k kn' b=some res:=by
 unfold Q62 at he
 split at he
 ·rename_i b hb;exact ⟨kn,b,hk,hk t b hb,he⟩
 ·split at he
  ·rename_i b;exact ⟨kn,b,hk,hv,he⟩
  ·rename_i x
   have hx:a.tmps.getD t undef=.bool x:=List.singleton_inj.1 hv
   cases hxb:(show Bool from x) with
   | true=>
    have hxb:x=true:=hxb
    subst hxb
    exact ⟨(t,true)::kn,true,hk.cons hx,hx,he⟩
   | false=>
    have hxb:x=false:=hxb
    subst hxb
    exact ⟨(t,false)::kn,false,hk.cons hx,hx,he⟩
  ·rename_i ne
   obtain ⟨b,hb,hne⟩:=hv
   cases ne with
   | true=>
    have:=hne rfl
    subst this
    exact ⟨(t,false)::kn,false,hk.cons hb,hb,he⟩
   | false=>
    obtain ⟨h1,h2⟩:=Qbi he
    cases b with
    | true=>exact ⟨(t,true)::kn,true,hk.cons hb,hb,h1⟩
    | false=>exact ⟨(t,false)::kn,false,hk.cons hb,hb,h2⟩
  ·cases he
theorem Q87 {ops:Array Oper} {i t:Nat} {b:Bool} (ht:(ops.toList[i]?).bind (·.dst)=some t) (hb:a.tmps.getD t undef=.bool b):yielded ops a.tmps i=some b:=by
 unfold yielded
 rw [Array.getElem?_toList] at ht
 rw [ht]
 simp only [Option.bind_some]
 rw [Array.getD_eq_getD_getElem?] at hb
 cases hq:a.tmps[t]? with
 | none=>rw [hq] at hb;cases hb
 | some v=>rw [hq] at hb;have hb:v=.bool b:=hb;rw [hb]
theorem Q4e {ops:Array Oper} {i t:Nat} (ht:(ops.toList[i]?).bind (·.dst)=some t) (hb:a.tmps.getD t undef=undef):yielded ops a.tmps i=none:=by
 unfold yielded
 rw [Array.getElem?_toList] at ht
 rw [ht]
 simp only [Option.bind_some]
 rw [Array.getD_eq_getD_getElem?] at hb
 cases hq:a.tmps[t]? with
 | none=>rfl
 | some v=>rw [hq] at hb;have hb:v=undef:=hb;rw [hb];rfl
theorem Q1a {Γ:Ctx} (hΓ:Jc tab.ty P Γ) (hTab:Qc P tab) {ops:Array Oper} {R:Type} {k:St→Option R} {res:R} {Q:Exit→Act→World→Prop}:∀ {l:List Oper} {kn:List (Nat × Bool)} {st:St} {S:Nat→Prop} {β:Lab→Value} {a:Act} {w:World},
  (∀ o∈l,∀ d,o.dst=some d→okD N d)→Q4p kn a→Rel P tab.ty N w0 F S β st a w→Q1h Γ tab ops.toList l kn st k=some res →
  (∀ a' w' S' β' s,(∀ k,S k→S' k)→Rel P tab.ty N w0 F S' β' s a' w'→k s=some res→Q .normal a' w')→wpList P ops Q l a w
 | [],kn,st,S,β,a,w,hd,hk,h,he,hQ=>hQ a w S β st (fun _ x=>x) h he
 | o::r,kn,st,S,β,a,w,hd,hk,h,he,hQ=>by
  have hdo:=hd o (List.mem_cons_self ..)
  have hdr:∀ o∈r,∀ d,o.dst=some d→okD N d:=fun o ho=>hd o (List.mem_cons_of_mem _ ho)
  have run:∀ kn',Q4p kn' a→Q41 Γ tab kn' st o (fun s _=>Q1h Γ tab ops.toList r (Q27 kn' o.dst) s k)=some res→o.wp P a w (wpList P ops Q r) Q:=by
   intro kn' hk' he
   refine Q7b hΓ hTab hk' h hdo he Q _ (fun x w' S' β' s W h1 _ h2 h3=>?_)
   exact Q1a hΓ hTab hdr hk'.del h2 h3 (fun a' w'' S'' β'' s' g1 g2 g3=>hQ a' w'' S'' β'' s' (fun k hk=>g1 k (h1 k hk)) g2 g3)
  have skip:∀ kn',Q4p kn' a→Q1h Γ tab ops.toList r (Q27 kn' o.dst) (Q26 st o.dst .skip) k=some res→wpList P ops Q r (a.put o.dst undef) w:=by
   intro kn' hk' he
   exact Q1a hΓ hTab hdr hk'.del (h.put hdo (v:=.skip) rfl) he hQ
  simp only [wpList]
  unfold Q1h at he
  cases hg:o.guard with
  | none=>
   rw [hg] at he
   have:Region.wanted o (yielded ops a.tmps)=true:=by simp [Region.wanted,hg]
   rw [if_pos this]
   exact .inl (run kn hk he)
  | some gw=>
   obtain ⟨i,want⟩:=gw
   rw [hg] at he
   cases ht:(ops.toList[i]?).bind (·.dst) with
   | none=>simp only [ht] at he;cases he
   | some t=>
    simp only [ht] at he
    by_cases hsk:Q9 st.slots t=.skip
    ·simp only [hsk] at he
     have hv:a.tmps.getD t undef=undef:=by have:=h.slots t;rw [hsk] at this;exact this
     have hy:=Q4e ht hv
     have hw:Region.wanted o (yielded ops a.tmps)=false:=by simp [Region.wanted,hg,hy]
     rw [if_neg (by rw [hw];decide)]
     exact skip kn hk he
    have he:Q62 kn t (Q9 st.slots t) (fun kn' b=>
     match b,want with
     | true,true=>Q41 Γ tab kn' st o fun s _=>Q1h Γ tab ops.toList r (Q27 kn' o.dst) s k
     | false,false=>Q41 Γ tab kn' st o fun s _=>Q1h Γ tab ops.toList r (Q27 kn' o.dst) s k
     | _,_=>Q1h Γ tab ops.toList r (Q27 kn' o.dst) (Q26 st o.dst .skip) k)=some res:=by
     cases hsv:Q9 st.slots t<;>first | (exact absurd hsv hsk) | (rw [hsv] at he;exact he)
    obtain ⟨kn',b,hk',hb,he⟩:=Q5f hk (h.slots t) he
    have hy:=Q87 ht hb
    have hw:Region.wanted o (yielded ops a.tmps)=(some b==some want):=by simp [Region.wanted,hg,hy]
    cases b<;>cases want<;>simp only at he
    ·rw [if_pos (by rw [hw];rfl)];exact .inl (run kn' hk' he)
    ·rw [if_neg (by rw [hw];decide)];exact skip kn' hk' he
    ·rw [if_neg (by rw [hw];decide)];exact skip kn' hk' he
    ·rw [if_pos (by rw [hw];rfl)];exact .inl (run kn' hk' he)
theorem Q53 (t:Nat) (v:SV) (u:Nat):∀ (s:List (Nat × SV)),Q9 (s.map fun p=>bif Nat.beq p.1 t then (t,v) else p) u=.dead ∨
  (u≠t∧Q9 (s.map fun p=>bif Nat.beq p.1 t then (t,v) else p) u=Q9 s u)∨(u=t∧Q9 (s.map fun p=>bif Nat.beq p.1 t then (t,v) else p) u=v)
 | []=>.inl rfl
 | (m,x)::r=>by
  have ih:=Q53 t v u r
  rw [List.map_cons]
  cases hm:Nat.beq m t with
  | true=>
   have e:=Nat.eq_of_beq_eq_true hm
   subst e
   simp only [cond_true]
   rw [Qk,Qk]
   by_cases hu:m=u
   ·rw [if_pos hu];exact .inr (.inr ⟨hu.symm,rfl⟩)
   ·rw [if_neg hu,if_neg hu];exact ih
  | false=>
   simp only [cond_false]
   rw [Qk,Qk]
   have hne:=Qz.1 hm
   by_cases hu:m=u
   ·rw [if_pos hu,if_pos hu];exact .inr (.inl ⟨fun e=>hne (hu.trans e),rfl⟩)
   ·rw [if_neg hu,if_neg hu];exact ih
theorem Rel.slotSet (h:Rel P tab.ty N w0 F S β st a w) {t:Nat} {v:SV} (hv:Qf P tab.ty S β w v (a.tmps.getD t undef)):Rel P tab.ty N w0 F S β (PE.slotSet st t v) a w:=by
 refine ⟨h.sb,fun u=>?_,h.objs,h.excl,h.dist,h.fr,h.size,h.nodef,h.within,h.par⟩
 show Qf P tab.ty S β w (Q9 (st.slots.map fun p=>bif Nat.beq p.1 t then (t,v) else p) u) _
 rcases Q53 t v u st.slots with e | ⟨_,e⟩ | ⟨rfl,e⟩
 ·rw [e];trivial
 ·rw [e];exact h.slots u
 ·rw [e];exact hv
theorem Rel.newNil (h:Rel P tab.ty N w0 F S β st a w) {m:Lab} (hf:Zy st m=true) {eT:TypeId} {e:Ty} (hp:0<e.cells) :
  Rel P tab.ty N w0 F S (Q00 β m (.slice none 0 0)) { st with objs:=(m,.row eT e [])::st.objs } a w:=by
 obtain ⟨h1,h2,h3⟩:=Z4 hf
 refine h.setObj (ob:=.row eT e []) (X:=fun _=>False) (Fr.refl _ w) (fun _ _ x=>x.elim) (.inr ⟨h2,fun k ob hk _=>h3 k ob hk⟩) (.inr (by simp [Z0])) ⟨hp,[],World.ownsRow_nil w 0 eT e.cells,rfl⟩ (fun b hb=>by cases hb) (fun k=>by rw [Q3])
theorem Rel.renOb (h:Rel P tab.ty N w0 F S β st a w) {l m:Lab} (hlm:l≠m) {ob1:Ob} (hol:Q0 st.objs l=some ob1) (hf:Zy st m=true) :
  ∃ β',Rel P tab.ty N w0 F S β' { slots:=st.slots.map fun p=>(p.1,Q11 (Js l m) (fun k=>bif Xl k l then m else k) p.2),objs:=(Jr st.objs l).map (fun p=>(p.1,Q0a (Js l m) p.2))++[(m,ob1)] } a w∧(∀ k,k≠m→β' k=β k):=by
 obtain ⟨h1,h2,h3⟩:=Z4 hf
 have hother:∀ k,k≠m→Q00 β m (β l) k=β k:=fun k hk=>Qn hk
 have hlv:∀ v c,(∀ k∈Qx v,k≠m)→Qm P tab.ty S β w v c→Qm P tab.ty S (Q00 β m (β l)) w (Js l m v) c:=by
  intro v c hm hv
  cases v<;>try exact hv.frame (fun _ x=>x) (Nat.le_refl _) (fun _ _ _=>rfl) h.sb (fun k hk=>hother k (hm k hk))
  case ref k=>
   simp only [Js]
   cases hkl:Xl k l with
   | true=>
    have:=Zd.1 hkl
    subst this
    exact ⟨by rw [Qh];exact hv.1,hv.2⟩
   | false=>exact ⟨by rw [hother k (hm k (by simp [Qx]))];exact hv.1,hv.2⟩
 have hlvs:∀ vs cs,(∀ k∈vs.flatMap Qx,k≠m)→Q5 P tab.ty S β w vs cs→Q5 P tab.ty S (Q00 β m (β l)) w (vs.map (Js l m)) cs:=by
  intro vs
  induction vs with
  | nil=>intro cs _ hv;exact hv
  | cons v r ih=>
   intro cs hm hv
   obtain ⟨c,cr,rfl,g1,g2⟩:=hv
   exact ⟨c,cr,rfl,hlv v c (fun k hk=>hm k (by simp [hk])) g1,ih cr (fun k hk=>hm k (by simp only [List.flatMap_cons,List.mem_append];exact .inr hk)) g2⟩
 have hcv:∀ c v,(∀ k∈Q0z c,k≠m)→Xk P tab.ty S β w c v→Xk P tab.ty S (Q00 β m (β l)) w (Qbf (Js l m) c) v:=by
  intro c v hm hv
  cases c with
  | one u=>exact hlv u v hm hv
  | agg vs=>obtain ⟨cs,e1,hc⟩:=hv;exact ⟨cs,e1,hlvs vs cs hm hc⟩
 refine ⟨Q00 β m (β l),⟨h.sb,fun t=>?_,fun k ob hk=>?_,fun k ob hk b hb=>?_,fun k k' ob ob' hk hk' hne b hb=>?_,h.fr,h.size,h.nodef,h.within,h.par⟩,hother⟩
 ·have e1:Q9 (st.slots.map fun p=>(p.1,Q11 (Js l m) (fun k=>bif Xl k l then m else k) p.2)) t=Q11 (Js l m) (fun k=>bif Xl k l then m else k) (Q9 st.slots t):=
   Q8k (fun v=>Q11 (Js l m) (fun k=>bif Xl k l then m else k) v) rfl st.slots t
  show Qf P tab.ty S _ w (Q9 (st.slots.map fun p=>(p.1,Q11 (Js l m) (fun k=>bif Xl k l then m else k) p.2)) t) _
  rw [e1]
  have hs:=h.slots t
  have hm:=h2 t
  revert hs hm
  generalize Q9 st.slots t=sv
  intro hs hm
  have hm':∀ k∈Qe sv,k≠m:=fun k hk e=>hm (e▸hk)
  cases sv with
  | dead=>trivial
  | skip=>exact hs
  | cv c=>exact hcv c _ hm' hs
  | ep t x=>exact hs
  | tup cs=>
   obtain ⟨vs,e2,hc⟩:=hs
   refine ⟨vs,e2,?_⟩
   clear e2
   have hm'':∀ k∈cs.flatMap Q0z,k≠m:=hm'
   clear hm hm' e1
   induction cs generalizing vs with
   | nil=>exact hc
   | cons c r ih=>
    obtain ⟨v,vr,rfl,g1,g2⟩:=hc
    exact ⟨v,vr,rfl,hcv c v (fun k hk=>hm'' k (by simp [hk])) g1,ih vr g2 (fun k hk=>hm'' k (by simp only [List.flatMap_cons,List.mem_append];exact .inr hk))⟩
  | tupe k i sz=>
   obtain ⟨b,g1,g2⟩:=hs
   refine ⟨b,?_,g2⟩
   cases hkl:Xl k l with
   | true=>
    have:=Zd.1 hkl
    subst this
    show blk (Q00 β m (β k) (bif Xl k k then m else k))=some b
    rw [hkl,cond_true,Qh];exact g1
   | false=>
    show blk (Q00 β m (β l) (bif Xl k l then m else k))=some b
    rw [hkl,cond_false,hother k (hm' k (by simp [Qe]))];exact g1
  | tupn x=>exact hs
  | ap k i off sz=>
   obtain ⟨b,g1,g2⟩:=hs
   refine ⟨b,?_,g2⟩
   cases hkl:Xl k l with
   | true=>
    have:=Zd.1 hkl
    subst this
    show blk (Q00 β m (β k) (bif Xl k k then m else k))=some b
    rw [hkl,cond_true,Qh];exact g1
   | false=>
    show blk (Q00 β m (β l) (bif Xl k l then m else k))=some b
    rw [hkl,cond_false,hother k (hm' k (by simp [Qe]))];exact g1
  | win k lo n sz=>
   obtain ⟨A,n0,c0,A',g1,g2⟩:=hs
   refine ⟨A,n0,c0,A',?_,g2⟩
   cases hkl:Xl k l with
   | true=>
    have:=Zd.1 hkl
    subst this
    show Q00 β m (β k) (bif Xl k k then m else k)=_
    rw [hkl,cond_true,Qh];exact g1
   | false=>
    show Q00 β m (β l) (bif Xl k l then m else k)=_
    rw [hkl,cond_false,hother k (hm' k (by simp [Qe]))];exact g1
 all_goals
  have look:∀ k ob,Q0 ((Jr st.objs l).map (fun p=>(p.1,Q0a (Js l m) p.2))++[(m,ob1)]) k=some ob →
    (k=m∧ob=ob1)∨(k≠m∧k≠l∧∃ ob0,Q0 st.objs k=some ob0∧ob=Q0a (Js l m) ob0):=by
   intro k ob hk
   rw [Q33] at hk
   have e1:Q0 ((Jr st.objs l).map fun p=>(p.1,Q0a (Js l m) p.2)) k=(Q0 (Jr st.objs l) k).map (Q0a (Js l m)):=Q2z _ _ _
   rw [e1,Zw] at hk
   by_cases hkl:l=k
   ·rw [if_pos hkl] at hk
    simp only [Option.map_none,Q3] at hk
    split at hk
    ·rename_i e2;exact .inl ⟨e2.symm,(Option.some.inj hk).symm⟩
    ·cases hk
   ·rw [if_neg hkl] at hk
    cases ho:Q0 st.objs k with
    | none=>
     rw [ho] at hk
     simp only [Option.map_none,Q3] at hk
     split at hk
     ·rename_i e2;exact .inl ⟨e2.symm,(Option.some.inj hk).symm⟩
     ·cases hk
    | some ob0=>
     rw [ho] at hk
     have hk:=Option.some.inj hk
     exact .inr ⟨(fun e2=>by rw [e2,h1] at ho;cases ho),(fun e2=>hkl e2.symm),ob0,rfl,hk.symm⟩
 ·rcases look k ob hk with ⟨rfl,rfl⟩ | ⟨hkm,hkl,ob0,ho,rfl⟩
  ·rw [Qh]
   exact (h.objs l _ hol).frame (fun _ x=>x) (Nat.le_refl _) (fun _ _ _=>rfl) h.sb (fun k hk=>hother k (fun e=>h3 l _ hol (e▸hk))) (fun _ _=>rfl)
  ·rw [hother k hkm]
   have hob:=h.objs k ob0 ho
   have hrf:=h3 k ob0 ho
   cases ob0 with
   | row eT' e' xs'=>exact hob
   | arr eT' e' xs'=>exact hob
   | mem _ _ _ _ _=>exact hob
   | lrow eT' vs=>
    obtain ⟨cells,g1,g3⟩:=hob
    exact ⟨cells,(by rw [List.length_map];exact g1),hlvs vs _ (fun k' hk' e=>hrf (e▸hk')) g3⟩
   | box T vs=>
    obtain ⟨b,T',cs,g1,g2,g3⟩:=hob
    exact ⟨b,T',cs,g1,g2,hlvs vs _ (fun k' hk' e=>hrf (e▸hk')) g3⟩
 ·rcases look k ob hk with ⟨rfl,rfl⟩ | ⟨hkm,hkl,ob0,ho,rfl⟩
  ·rw [Qh] at hb;exact h.excl l _ hol b hb
  ·rw [hother k hkm] at hb;exact h.excl k ob0 ho b hb
 ·rcases look k ob hk with ⟨rfl,rfl⟩ | ⟨hkm,hkl,ob0,ho,rfl⟩
  ·rcases look k' ob' hk' with ⟨rfl,rfl⟩ | ⟨hkm',hkl',ob0',ho',rfl⟩
   ·exact absurd rfl hne
   ·rw [Qh] at hb
    rw [hother k' hkm']
    exact h.dist l k' _ ob0' hol ho' (fun e=>hkl' e.symm) b hb
  ·rcases look k' ob' hk' with ⟨rfl,rfl⟩ | ⟨hkm',hkl',ob0',ho',rfl⟩
   ·rw [hother k hkm] at hb
    rw [Qh]
    exact h.dist k l ob0 _ ho hol hkl b hb
   ·rw [hother k hkm] at hb
    rw [hother k' hkm']
    exact h.dist k k' ob0 ob0' ho ho' hne b hb
theorem Rel.ren (h:Rel P tab.ty N w0 F S β st a w) {l m:Lab} {st':St} (hr:PE.ren st l m=some st'):∃ β',Rel P tab.ty N w0 F S β' st' a w∧(∀ k,k≠m→β' k=β k):=by
 unfold PE.ren at hr
 cases hq:Xl l m with
 | true=>rw [hq] at hr;have:=Option.some.inj hr;subst this;exact ⟨β,h,fun _ _=>rfl⟩
 | false=>
  rw [hq] at hr
  have hlm:=X5.1 hq
  simp only [cond_false] at hr
  split at hr
  case h_3=>cases hr
  case h_1 eT e xs hol=>
   cases hf:Zy st m with
   | false=>rw [hf] at hr;cases hr
   | true=>
    rw [hf] at hr
    have:=Option.some.inj hr
    subst this
    exact h.renOb hlm hol hf
  case h_2 eT vs hol=>
   cases hf:(Zy st m&&!(Xu l (vs.flatMap Qx))) with
   | false=>rw [hf] at hr;cases hr
   | true=>
    rw [hf] at hr
    have:=Option.some.inj hr
    subst this
    simp only [Bool.and_eq_true] at hf
    exact h.renOb hlm hol hf.1
end
end Go.PE
set_option linter.unusedVariables false
set_option linter.unusedSimpArgs false
namespace Go.PE
section
variable {P:Program} {tab:Tab} {N:NN} {w0:World} {F:FF} {S:Nat→Prop} {β:Lab→Value} {st:St} {a:Act} {w:World}
theorem X9 {fi:Fi} {t:Nat} {l:Lab}:∀ {vs:List LV} {tys:List Ty} {j:Nat} {st st':St} {S:Nat→Prop} {β:Lab→Value},Rel P tab.ty N w0 F S β st a w→Jp fi t l vs tys j st=some st' →
  ∃ S' β',(∀ k,S k→S' k)∧Rel P tab.ty N w0 F S' β' st' a w
 | [],tys,j,st,st',S,β,h,he=>by
  have he:some st=some st':=by cases tys<;>exact he
  have:=Option.some.inj he;subst this;exact ⟨S,β,fun _ x=>x,h⟩
 | v::r,[],j,st,st',S,β,h,he=>by
  have he:some st=some st':=by cases v<;>exact he
  have:=Option.some.inj he;subst this;exact ⟨S,β,fun _ x=>x,h⟩
 | v::r,ty::q,j,st,st',S,β,h,he=>by
  cases v<;>try exact X9 (vs:=r) (tys:=q) (j:=j+1) h he
  case ref m=>
   have he:(bif Q5h (t,j+1) fi.vals then (frz st m).bind fun s=>Jp fi t l r q (j+1) s else (ren st m (l.1,j+1)).bind fun s=>Jp fi t l r q (j+1) s)=some st':=he
   cases hp:Q5h (t,j+1) fi.vals with
   | true=>
    rw [hp] at he
    obtain ⟨s,hs,he⟩:=Option.bind_eq_some_iff.1 he
    obtain ⟨S1,g1,g2⟩:=h.frz hs
    obtain ⟨S2,β2,g3,g4⟩:=X9 g2 he
    exact ⟨S2,β2,fun k hk=>g3 k (g1 k hk),g4⟩
   | false=>
    rw [hp] at he
    obtain ⟨s,hs,he⟩:=Option.bind_eq_some_iff.1 he
    obtain ⟨β1,g2,_⟩:=h.ren hs
    exact X9 g2 he
  case nil=>
   cases ty<;>try (cases he;done)
   case sl eT e=>
   have he:(match Q0 st.objs l with
    | some (.box T' vs)=>match vs[j]? with
     | some .nil=>bif Q5h (t,j+1) fi.vals then Jp fi t l r q (j+1) { st with objs:=Q43 st.objs l (.box T' (vs.set j (.pure (.sl eT e) []))) }
      else bif Zy st (l.1,j+1)&&Nat.blt 0 e.cells then
       Jp fi t l r q (j+1) { st with objs:=((l.1,j+1),.row eT e [])::Q43 st.objs l (.box T' (vs.set j (.ref (l.1,j+1)))) }
      else none
     | _=>none
    | _=>none)=some st':=he
   cases hol:Q0 st.objs l with
   | none=>rw [hol] at he;cases he
   | some ob=>
    rw [hol] at he
    cases ob<;>try (cases he;done)
    case box T' vs=>
    simp only at he
    cases hvj:vs[j]? with
    | none=>rw [hvj] at he;cases he
    | some u=>
     rw [hvj] at he
     cases u<;>try (cases he;done)
     case nil=>
     simp only at he
     obtain ⟨b,T'',cs,hβ,hh,hrels⟩:=h.objs l _ hol
     obtain ⟨c,hcj,hc⟩:=hrels.get j hvj
     have hc:c=.slice none 0 0:=hc
     subst hc
     have hset:cs.toList.set j (.slice none 0 0)=cs.toList:=by
      apply List.ext_getElem?
      intro i
      rw [List.getElem?_set]
      split
      ·rename_i e1;subst e1
       split
       ·exact hcj.symm
       ·rename_i hlt;rw [List.getElem?_eq_none (by omega)]
      ·rfl
     have hgo:∀ ob m,(if l=m then some ob else Q0 st.objs m)=(if l=m then (Q0 st.objs l).map (fun _=>ob) else Q0 st.objs m):=fun ob m=>by rw [hol];rfl
     cases hp:Q5h (t,j+1) fi.vals with
     | true=>
      rw [hp] at he
      have h1:Rel P tab.ty N w0 F S (Q00 β l (β l)) { st with objs:=Q43 st.objs l (.box T' (vs.set j (.pure (.sl eT e) []))) } a w:=by
       refine h.setObj (ob:=.box T' (vs.set j (.pure (.sl eT e) []))) (X:=fun _=>False) (Fr.refl _ w) (fun _ _ x=>x.elim) (.inl rfl) (.inl rfl) ⟨b,T'',cs,hβ,hh,?_⟩ (fun k hk=>⟨.inr ⟨⟨_,hol⟩,hk⟩,(h.excl l _ hol k hk).2.2⟩) (fun m=>by rw [Jd,hgo])
       have:=hrels.set j (v:=.pure (.sl eT e) []) (c:=.slice none 0 0) ⟨none,0,rfl,Nat.le_refl _,by simp [maxLen],fun h=>absurd h (by simp)⟩
       rw [hset] at this
       exact this
      exact X9 h1 he
     | false=>
      rw [hp] at he
      cases hq:(Zy st (l.1,j+1)&&Nat.blt 0 e.cells) with
      | false=>rw [hq] at he;cases he
      | true=>
       rw [hq] at he
       simp only [Bool.and_eq_true] at hq
       have h1:=h.newNil hq.1 (eT:=eT) (Q2.1 hq.2)
       have hlm:l≠(l.1,j+1):=fun e1=>by
        have:=(Z4 hq.1).1
        rw [← e1,hol] at this;cases this
       have hol1:Q0 (((l.1,j+1),Ob.row eT e [])::st.objs) l=some (.box T' vs):=by rw [Q3,if_neg (fun e1=>hlm e1.symm)];exact hol
       have h2:Rel P tab.ty N w0 F S (Q00 (Q00 β (l.1,j+1) (.slice none 0 0)) l (Q00 β (l.1,j+1) (.slice none 0 0) l)) { st with objs:=((l.1,j+1),.row eT e [])::Q43 st.objs l (.box T' (vs.set j (.ref (l.1,j+1)))) } a w:=by
        obtain ⟨b',T3,cs3,hβ3,hh3,hrels3⟩:=h1.objs l _ hol1
        have e3:Q00 β (l.1,j+1) (.slice none 0 0) l=β l:=Qn hlm
        rw [e3,hβ] at hβ3
        simp only [Value.pointer.injEq,Option.some.injEq,Addr.mk.injEq] at hβ3
        obtain ⟨rfl,_⟩:=hβ3
        rw [hh] at hh3
        have e4:=Option.some.inj hh3
        injection e4 with e5 e6 _
        subst e5;subst e6
        refine h1.setObj (ob:=.box T' (vs.set j (.ref (l.1,j+1)))) (X:=fun _=>False) (Fr.refl _ w) (fun _ _ x=>x.elim) (.inl rfl) (.inl rfl) ⟨b,T'',cs,by rw [e3];exact hβ,hh,?_⟩ (fun k hk=>⟨.inr ⟨⟨_,hol1⟩,hk⟩,(h1.excl l _ hol1 k hk).2.2⟩) (fun m=>?_)
        ·have:=hrels3.set j (v:=.ref (l.1,j+1)) (c:=.slice none 0 0) ⟨Qh ..,_,_,_,rfl⟩
         rw [hset] at this
         exact this
        ·rw [Q3,Jd,hol]
         show _=if l=m then _ else Q0 (((l.1,j+1),Ob.row eT e [])::st.objs) m
         rw [Q3]
         by_cases e1:(l.1,j+1)=m
         ·rw [if_pos e1,if_neg (fun e2=>hlm (e2.trans e1.symm)),if_pos e1]
         ·rw [if_neg e1,if_neg e1];rfl
       exact X9 h2 he
theorem Q2m {t:Nat}:∀ {vs:List LV} {i:Nat} {st st':St} {β:Lab→Value},Rel P tab.ty N w0 F S β st a w→Q9u t vs i st=some st'→∃ β',Rel P tab.ty N w0 F S β' st' a w
 | [],i,st,st',β,h,he=>by have:=Option.some.inj he;subst this;exact ⟨β,h⟩
 | v::r,i,st,st',β,h,he=>by
  cases v<;>try exact Q2m (vs:=r) (i:=i+1) h he
  case ref k=>
   obtain ⟨s,hs,he⟩:=Option.bind_eq_some_iff.1 he
   obtain ⟨β1,g,_⟩:=h.ren hs
   exact Q2m g he
theorem Qbh {t:Nat} {st st':St} {β:Lab→Value} (h:Rel P tab.ty N w0 F S β st a w) (he:Qfy t st=some st'):∃ β',Rel P tab.ty N w0 F S β' st' a w:=by
 unfold Qfy at he
 split at he
 ·exact Q2m h he
 ·have:=Option.some.inj he;subst this;exact ⟨β,h⟩
theorem Q6a {e:Ty}:∀ {us:List LV} {xs:List e.den} {cs:List Value},Q6v e us=some xs→Q5 P tab.ty S β w us cs→us.length=xs.length∧Q1 tab.ty S w e xs cs
 | [],xs,cs,he,h=>by
  have:=Option.some.inj he
  subst this
  exact ⟨rfl,h⟩
 | v::r,xs,cs,he,h=>by
  cases v<;>try (cases he;done)
  case pure t x=>
   simp only [Q6v,Option.bind_eq_some_iff,Option.some.injEq] at he
   obtain ⟨y,hy,l,hl,rfl⟩:=he
   obtain ⟨c,cr,rfl,h1,h2⟩:=h
   obtain ⟨g1,g2⟩:=Q6a hl h2
   exact ⟨by simp [g1],[c],cr,rfl,Xx hy h1,g2⟩
theorem Qci {st st':St} {S:Nat→Prop} {β:Lab→Value} {l:Lab} (h:Rel P tab.ty N w0 F S β st a w) (he:Qh7 st l=some st'):∃ S' β',(∀ k,S k→S' k)∧Rel P tab.ty N w0 F S' β' st' a w:=by
 unfold Qh7 at he
 split at he
 ·obtain ⟨s,hs,he⟩:=Option.bind_eq_some_iff.1 he
  obtain ⟨S1,h1,h2⟩:=Q0m h hs
  split at he
  ·rename_i eT us hol
   obtain ⟨e,_,he⟩:=Option.bind_eq_some_iff.1 he
   obtain ⟨xs,hxs,he⟩:=Option.bind_eq_some_iff.1 he
   cases hq:Nat.beq e.cells 1 with
   | false=>rw [hq] at he;cases he
   | true=>
    rw [hq] at he
    have:=Option.some.inj he
    subst this
    have hc:=Nat.eq_of_beq_eq_true hq
    obtain ⟨cells,hown,hrels⟩:=h2.objs l _ hol
    obtain ⟨g1,g2⟩:=Q6a hxs hrels
    refine ⟨S1,Q00 β l (β l),h1,h2.setObj (ob:=.row eT e xs) (X:=fun _=>False) (Fr.refl _ w) (fun _ _ x=>x.elim) (.inl rfl) (.inl rfl) ⟨by omega,cells,?_,g2⟩ (fun k hk=>⟨.inr ⟨⟨_,hol⟩,hk⟩,(h2.excl l _ hol k hk).2.2⟩) (fun m=>?_)⟩
    ·rw [hc,← g1];exact hown
    ·rw [Jd,hol];rfl
  ·cases he
 ·have:=Option.some.inj he;subst this;exact ⟨S,β,fun _ x=>x,h⟩
theorem Qbz {st:St} {S:Nat→Prop} {β:Lab→Value} {l:Lab} (h:Rel P tab.ty N w0 F S β st a w):∃ S' β',(∀ k,S k→S' k)∧Rel P tab.ty N w0 F S' β' (Qgm st l) a w:=by
 unfold Qgm
 split
 ·rename_i eT e xs hol
  refine ⟨S,Q00 β l (β l),fun _ x=>x,h.setObj (ob:=.mem eT e (xs.map some) xs.length false) (X:=fun _=>False) (Fr.refl _ w) (fun _ _ x=>x.elim) (.inl rfl) (.inl rfl) (Qej (h.objs l _ hol) _) (fun k hk=>⟨.inr ⟨⟨_,hol⟩,hk⟩,(h.excl l _ hol k hk).2.2⟩) (fun m=>?_)⟩
  rw [Jd,hol];rfl
 ·exact ⟨S,β,fun _ x=>x,h⟩
theorem Xq:∀ {ms:List (Nat × Nat)} {id:Nat} {st st':St} {S:Nat→Prop} {β:Lab→Value},Rel P tab.ty N w0 F S β st a w→Q3c ms id st=some st'→∃ S' β',(∀ k,S k→S' k)∧Rel P tab.ty N w0 F S' β' st' a w
 | [],id,st,st',S,β,h,he=>by have:=Option.some.inj he;subst this;exact ⟨S,β,fun _ x=>x,h⟩
 | (i,t)::r,id,st,st',S,β,h,he=>by
  unfold Q3c at he
  cases hq:Nat.beq i id with
  | false=>rw [hq] at he;exact Xq h he
  | true=>
   rw [hq] at he
   simp only [cond_true] at he
   cases hq2:Nat.ble 1000000 t with
   | true=>
    rw [hq2] at he
    simp only [cond_true] at he
    split at he
    ·obtain ⟨S1,β1,g1,g2⟩:=Qbz h (l:=‹_›)
     obtain ⟨S2,β2,g3,g4⟩:=Xq g2 he
     exact ⟨S2,β2,fun k hk=>g3 k (g1 k hk),g4⟩
    ·exact Xq h he
   | false=>
   rw [hq2] at he
   simp only [cond_false] at he
   split at he
   ·obtain ⟨s,hs,he⟩:=Option.bind_eq_some_iff.1 he
    obtain ⟨S1,β1,g1,g2⟩:=Qci h hs
    obtain ⟨S2,β2,g3,g4⟩:=Xq g2 he
    exact ⟨S2,β2,fun k hk=>g3 k (g1 k hk),g4⟩
   ·exact Xq h he
theorem Qo (hTab:Qc P tab) {fi:Fi}:∀ {ks:List Nat} {st st':St} {S:Nat→Prop} {β:Lab→Value},Rel P tab.ty N w0 F S β st a w→Zz tab fi ks st=some st' →
  ∃ S' β',(∀ k,S k→S' k)∧Rel P tab.ty N w0 F S' β' st' a w
 | [],st,st',S,β,h,he=>by have:=Option.some.inj he;subst this;exact ⟨S,β,fun _ x=>x,h⟩
 | t::r,st,st',S,β,h,he=>by
  have hs:=h.slots t
  unfold Zz at he
  split at he
  ·rename_i hsl
   rw [hsl] at hs
   have hv:a.tmps.getD t undef=.slice none 0 0:=hs
   cases hraw:Q5h (t,999) fi.vals with
   | true=>rw [hraw] at he;exact Qo hTab h he
   | false=>
   rw [hraw] at he
   simp only [cond_false] at he
   obtain ⟨T,hT,he⟩:=Option.bind_eq_some_iff.1 he
   split at he
   case h_2=>cases he
   case h_1 eT htd=>
   obtain ⟨e,hte,he⟩:=Option.bind_eq_some_iff.1 he
   cases hp:Q5h (t,0) fi.vals with
   | true=>
    rw [hp] at he
    refine Qo hTab (h.slotSet (v:=.cv (.one (.pure (.sl eT e) []))) ?_) he
    exact ⟨none,0,by rw [hv];rfl,Nat.le_refl _,by simp [maxLen],fun h=>absurd h (by simp)⟩
   | false=>
    rw [hp] at he
    cases hf:Zy st (Q8h t) with
    | false=>rw [hf] at he;cases he
    | true=>
     rw [hf] at he
     have h1:=h.newNil hf (eT:=eT) (hTab.pos T eT e htd hte)
     have h2:=h1.slotSet (t:=t) (v:=.cv (.one (.ref (Q8h t)))) ⟨by rw [hv];exact Qh ..,_,_,_,hv⟩
     exact Qo hTab h2 he
  ·rename_i l hsl
   cases hp:Q5h (t,0) fi.vals with
   | true=>
    rw [hp] at he
    obtain ⟨s,hs',he⟩:=Option.bind_eq_some_iff.1 he
    obtain ⟨S1,g1,g2⟩:=h.frz hs'
    obtain ⟨S2,β2,g3,g4⟩:=Qo hTab g2 he
    exact ⟨S2,β2,fun k hk=>g3 k (g1 k hk),g4⟩
   | false=>
    rw [hp] at he
    obtain ⟨s,hs',he⟩:=Option.bind_eq_some_iff.1 he
    obtain ⟨β1,g2,_⟩:=h.ren hs'
    obtain ⟨s2,hs2,he⟩:=Option.bind_eq_some_iff.1 he
    obtain ⟨β2,g3⟩:=Qbh g2 hs2
    exact Qo hTab g3 he
  ·rename_i b hsl
   rw [hsl] at hs
   have hv:a.tmps.getD t undef=.bool b:=hs
   exact Qo hTab (h.slotSet (v:=.cv (.one (.pure .bool b))) (by rw [hv];exact (rfl:[_]=[_]))) he
  ·rename_i l hsl
   obtain ⟨s,hs',he⟩:=Option.bind_eq_some_iff.1 he
   split at hs'
   ·rename_i T vs hol
    obtain ⟨ty,hty,hs'⟩:=Option.bind_eq_some_iff.1 hs'
    obtain ⟨S1,β1,g1,g2⟩:=X9 h hs'
    obtain ⟨S2,β2,g3,g4⟩:=Qo hTab g2 he
    exact ⟨S2,β2,fun k hk=>g3 k (g1 k hk),g4⟩
   ·have:=Option.some.inj hs'
    subst this
    exact Qo hTab h he
  ·exact Qo hTab h he
theorem Q0n (st:St):∀ (ls:List Lab) (l:Lab) (ob:Ob),Q0 (ls.filterMap fun l=>(Q0 st.objs l).map fun b=>(l,b)) l=some ob→Q0 st.objs l=some ob
 | [],l,ob,h=>by cases h
 | m::r,l,ob,h=>by
  rw [List.filterMap_cons] at h
  cases hm:Q0 st.objs m with
  | none=>rw [hm] at h;exact Q0n st r l ob h
  | some b=>
   rw [hm] at h
   simp only [Option.map_some,Q3] at h
   split at h
   ·rename_i e;subst e;rw [hm];exact h
   ·exact Q0n st r l ob h
theorem Q83 (hTab:Qc P tab) {fi:Fi} {ks:List Nat} {st':St} (h:Rel P tab.ty N w0 F S β st a w) (he:Qfk tab fi ks st=some st'):∃ S' β',(∀ k,S k→S' k)∧Rel P tab.ty N w0 F S' β' st' a w:=by
 obtain ⟨s,hs,he⟩:=Option.bind_eq_some_iff.1 he
 have:=Option.some.inj he
 subst this
 obtain ⟨S1,β1,g1,g2⟩:=Qo hTab (st:=Q88 { st with slots:=trim ks st.slots } (Q4d (Qg0 { st with slots:=trim ks st.slots }))) ((h.trim ks).weaken (fun t=>.inr rfl) (fun l ob hl=>Q0n { st with slots:=trim ks st.slots } _ l ob hl)) hs
 exact ⟨S1,β1,g1,g2.weaken (fun t=>.inr rfl) (fun l ob hl=>Q0n s _ l ob hl)⟩
def Qa3:EX→Exit
 | .normal=>.normal
 | .exit id=>.exit id
 | .ret=>.ret
def Q7i (P:Program) (Γ:Ctx) (tab:Tab) (N:NN):Prop:=∀ (w0:World) (F:FF) (S:Nat→Prop) (β:Lab→Value) (st:St) (a:Act) (w:World) (id:Nat) (ops:Array Oper) (R:Type) (k:St→Option R) (res:R) (Q:Exit→Act→World→Prop),
 (∀ o∈ops.toList,∀ d,o.dst=some d→okD N d)→Rel P tab.ty N w0 F S β st a w→Qe5 Γ tab ops st k=some res →
 (∀ a' w' S' β' s,(∀ k,S k→S' k)→Rel P tab.ty N w0 F S' β' s a' w'→k s=some res→Q .normal a' w')→(Code.region id ops true).wp P Q a w
theorem Q7h (hTab:Qc P tab) {c:Code} {R:Type} {body:St→(EX→St→Option R)→Option R} {nm:St→Option St} {res:R}
  (hnm:∀ {st st':St} {S:Nat→Prop} {β:Lab→Value} {a:Act} {w:World},Rel P tab.ty N w0 F S β st a w→nm st=some st'→∃ S' β',(∀ k,S k→S' k)∧Rel P tab.ty N w0 F S' β' st' a w)
  (hb:∀ {st:St} {S:Nat→Prop} {β:Lab→Value} {a:Act} {w:World} {k:EX→St→Option R} {Q:Exit→Act→World→Prop},Rel P tab.ty N w0 F S β st a w→body st k=some res →
   (∀ e a' w' S' β' s,(∀ k,S k→S' k)→Rel P tab.ty N w0 F S' β' s a' w'→k e s=some res→Q (Qa3 e) a' w')→c.wp P Q a w) :
  ∀ (n:Nat) {st:St} {S:Nat→Prop} {β:Lab→Value} {a:Act} {w:World} {k:EX→St→Option R} {Q:Exit→Act→World→Prop},Rel P tab.ty N w0 F S β st a w→Q75 body nm n st k=some res →
   (∀ e a' w' S' β' s,(∀ k,S k→S' k)→Rel P tab.ty N w0 F S' β' s a' w'→k e s=some res→Q (Qa3 e) a' w')→Code.rounds P c Q n a w
 | 0,st,S,β,a,w,k,Q,h,he,hQ=>by cases he
 | n+1,st,S,β,a,w,k,Q,h,he,hQ=>by
  rw [rounds_succ]
  refine hb h he (fun e a' w' S' β' s hS h' hk=>?_)
  cases e with
  | normal=>
   obtain ⟨s',hs',hk⟩:=Option.bind_eq_some_iff.1 hk
   obtain ⟨S1,β1,g1,g2⟩:=hnm h' hs'
   exact Q7h hTab hnm hb n g2 hk (fun e a'' w'' S'' β'' s'' g3 g4 g5=>hQ e a'' w'' S'' β'' s'' (fun k hk=>g3 k (g1 k (hS k hk))) g4 g5)
  | exit id=>exact hQ (.exit id) a' w' S' β' s hS h' hk
  | ret=>exact hQ .ret a' w' S' β' s hS h' hk
theorem Q0h {n0:Nat} (hn0:n0≤N.1) {Γ:Ctx} (hΓ:Jc tab.ty P Γ) (hTab:Qc P tab) (hD:Q7i P Γ tab N) {fi:Fi} {n:Nat} {R:Type} {res:R}:∀ {c:Code} {st:St} {S:Nat→Prop} {β:Lab→Value} {a:Act} {w:World} {k:EX→St→Option R} {Q:Exit→Act→World→Prop},
  X7 n0 (N.2.map (·.1)) c=true→Rel P tab.ty N w0 F S β st a w→Xb Γ tab fi n c st k=some res →
  (∀ e a' w' S' β' s,(∀ k,S k→S' k)→Rel P tab.ty N w0 F S' β' s a' w'→k e s=some res→Q (Qa3 e) a' w')→c.wp P Q a w:=by
 intro c
 induction c with
 | skip=>intro st S β a w k Q hd h he hQ;exact wp_skip (hQ .normal a w S β st (fun _ x=>x) h he)
 | exit id=>intro st S β a w k Q hd h he hQ;exact wp_exit (hQ (.exit id) a w S β st (fun _ x=>x) h he)
 | ret=>intro st S β a w k Q hd h he hQ;exact wp_ret (hQ .ret a w S β st (fun _ x=>x) h he)
 | seq x y ihx ihy=>
  intro st S β a w k Q hd h he hQ
  simp only [X7,Bool.and_eq_true] at hd
  refine wp_seq (ihx hd.1 h he (fun e a' w' S' β' s hS h' hk=>?_))
  cases e with
  | normal=>exact ihy hd.2 h' hk (fun e a'' w'' S'' β'' s' g1 g2 g3=>hQ e a'' w'' S'' β'' s' (fun k hk=>g1 k (hS k hk)) g2 g3)
  | exit id=>exact hQ (.exit id) a' w' S' β' s hS h' hk
  | ret=>exact hQ .ret a' w' S' β' s hS h' hk
 | cond c x y ihx ihy=>
  intro st S β a w k Q hd h he hQ
  simp only [X7,Bool.and_eq_true] at hd
  cases c<;>try (cases he;done)
  case const v=>
   cases v<;>try (cases he;done)
   case bool b=>
   cases b with
   | true=>exact wp_cond (t:=true) rfl (ihx hd.1 h he hQ)
   | false=>exact wp_cond (t:=false) rfl (ihy hd.2 h he hQ)
  case tmp t=>
  have he:Q62 [] t (Q9 st.slots t) (fun _ q=>match q with | true=>Xb Γ tab fi n x st k | false=>Xb Γ tab fi n y st k)=some res:=he
  obtain ⟨kn',b,_,hb,he⟩:=Q5f (kn:=[]) (fun t b ht=>by cases ht) (h.slots t) he
  cases b with
  | true=>exact wp_cond (t:=true) hb (ihx hd.1 h he hQ)
  | false=>exact wp_cond (t:=false) hb (ihy hd.2 h he hQ)
 | block id b ih=>
  intro st S β a w k Q hd h he hQ
  refine wp_block (ih hd h he (fun e a' w' S' β' s hS h' hk=>?_))
  cases e with
  | normal=>exact hQ .normal a' w' S' β' s hS h' hk
  | ret=>exact hQ .ret a' w' S' β' s hS h' hk
  | exit j=>
   simp only at hk
   show Exit.inBlock id Q (.exit j) a' w'
   simp only [Exit.inBlock]
   cases hj:Nat.beq j id with
   | true=>
    rw [hj] at hk
    rw [if_pos (Nat.eq_of_beq_eq_true hj)]
    exact hQ .normal a' w' S' β' s hS h' hk
   | false=>
    rw [hj] at hk
    rw [if_neg (Qz.1 hj)]
    exact hQ (.exit j) a' w' S' β' s hS h' hk
 | loop b ih=>
  intro st S β a w k Q hd h he hQ
  obtain ⟨s,hs,he⟩:=Option.bind_eq_some_iff.1 he
  obtain ⟨S1,β1,g1,g2⟩:=Q83 hTab h hs
  refine wp_loop_rounds n (Q7h hTab (fun h hn=>Q83 hTab h hn) (fun h hb hQ=>ih hd h hb hQ) n g2 he (fun e a' w' S' β' s' g3 g4 g5=>hQ e a' w' S' β' s' (fun k hk=>g3 k (g1 k hk)) g4 g5))
 | region id ops draw=>
  intro st S β a w k Q hd h he hQ
  have hdd:∀ o∈ops.toList,∀ d,o.dst=some d→okD N d:=fun o ho d hod=>by
   have:=List.all_eq_true.1 hd o ho
   rw [hod] at this
   simp only [Bool.and_eq_true,Bool.not_eq_true'] at this
   refine ⟨Nat.lt_of_lt_of_le (Q2.1 this.1) hn0,fun p hp e=>?_⟩
   have h2:=this.2
   rw [← Bool.not_eq_true,Q22] at h2
   exact h2 (by rw [← e];exact List.mem_map.2 ⟨p,hp,rfl⟩)
  obtain ⟨stm,hm,he⟩:=Option.bind_eq_some_iff.1 he
  obtain ⟨Sm,βm,hSm,h⟩:=Xq h hm
  cases draw with
  | false=>
   refine wp_region_list (Q1a hΓ hTab hdd (fun t b ht=>by cases ht) h he (fun a' w' S' β' s hS h' hk=>?_))
   exact hQ .normal a' w' S' β' _ (fun k hk=>hS k (hSm k hk)) (h'.trim _) hk
  | true=>
   refine hD w0 F Sm βm stm a w id ops R _ res Q hdd h he (fun a' w' S' β' s hS h' hk=>?_)
   exact hQ .normal a' w' S' β' _ (fun k hk=>hS k (hSm k hk)) (h'.trim _) hk
 | _=>intro st S β a w k Q hd h he hQ;cases he
end
end Go.PE
set_option linter.unusedVariables false
set_option linter.unusedSimpArgs false
namespace Go.PE
section
variable {P:Program} {tab:Tab} {N:NN} {w0:World} {F:FF} {S:Nat→Prop} {β:Lab→Value} {st:St} {a:Act} {w:World}
theorem Q3t {τ:TypeId→Option Ty} (c:Nat):∀ {ps:List PK} {x:PDs ps} {vals:List Value} {B:List Nat} (i:Nat),Jo ps=true→X3 τ P S w ps x vals B →
  ∃ vs,Ji P τ S w (Zl c i ps x) vs B (fun β=>∀ t,(t<i→Q9 (Zk i ps x) t=.dead)∧Qf P τ S β w (Q9 (Zk i ps x) t) (vals.getD (t - i) undef))
 | [],x,vals,B,i,_,h=>by
  obtain ⟨rfl,rfl⟩:=h
  exact ⟨[],Ji.none (fun β t=>⟨fun _=>rfl,trivial⟩)⟩
 | p::r,x,vals,B,i,hno,h=>by
  obtain ⟨v,vr,B1,B2,rfl,rfl,h1,h2⟩:=h
  have hno':Jo r=true:=by cases p<;>first | exact hno | cases hno
  obtain ⟨v2,f2⟩:=Q3t c (i+1) hno' h2
  have step:∀ (sv:SV) (β:Lab→Value),Qf P τ S β w sv v→(∀ t,(t<i+1→Q9 (Zk (i+1) r x.2) t=.dead)∧Qf P τ S β w (Q9 (Zk (i+1) r x.2) t) (vr.getD (t - (i+1)) undef)) →
    ∀ t,(t<i→Q9 ((i,sv)::Zk (i+1) r x.2) t=.dead)∧Qf P τ S β w (Q9 ((i,sv)::Zk (i+1) r x.2) t) ((v::vr).getD (t - i) undef):=by
   intro sv β hv hr t
   rw [Qk]
   refine ⟨fun hlt=>?_,?_⟩
   ·rw [if_neg (by omega)];exact (hr t).1 (by omega)
   ·by_cases e:i=t
    ·subst e;rw [if_pos rfl];simpa using hv
    ·rw [if_neg e]
     by_cases hlt:t<i
     ·rw [(hr t).1 (by omega)];trivial
     ·have:t - i=(t - (i+1))+1:=by omega
      rw [this]
      simpa using (hr t).2
  cases p with
  | val t=>
   obtain ⟨h1,rfl⟩:=h1
   exact ⟨v2,f2.mono (fun β hg=>step _ β (Q37 h1) hg)⟩
  | rbox t=>
   obtain ⟨h1,rfl⟩:=h1
   exact ⟨v2,f2.mono (fun β hg=>step (.ep t x.1) β h1 hg)⟩
  | fn ps' rs'=>
   obtain ⟨h1,rfl⟩:=h1
   exact ⟨v2,f2.mono (fun β hg=>step (.cv (.one (.clo ps' rs' x.1))) β h1 hg)⟩
  | own eT e=>
   obtain ⟨hpos,⟨cells,hown,hrc⟩,rfl⟩:=h1
   have f1:Ji P τ S w [((i,0),Ob.row eT e x.1)] [((i,0),v)] ((blk v).toList) (fun β=>Qf P τ S β w (.cv (.one (.ref (i,0)))) v):=by
    refine ⟨rfl,by simp [Q6q],fun β hβ=>?_⟩
    have h0:=hβ ((i,0),v) (List.mem_cons_self ..)
    refine ⟨fun q hq=>?_,h0,X1 hown⟩
    have:=List.mem_singleton.1 hq
    subst this
    show Z6 P τ S β w (.row eT e x.1) (β (i,0))
    rw [h0]
    exact ⟨hpos,cells,hown,hrc⟩
   exact ⟨_,(f1.append f2).mono (fun β hg=>step _ β hg.1 hg.2)⟩
  | io eT e=>
   obtain ⟨hpos,⟨cells,hown,hrc⟩,rfl⟩:=h1
   have f1:Ji P τ S w [((i,0),Ob.row eT e x.1)] [((i,0),v)] ((blk v).toList) (fun β=>Qf P τ S β w (.cv (.one (.ref (i,0)))) v):=by
    refine ⟨rfl,by simp [Q6q],fun β hβ=>?_⟩
    have h0:=hβ ((i,0),v) (List.mem_cons_self ..)
    refine ⟨fun q hq=>?_,h0,X1 hown⟩
    have:=List.mem_singleton.1 hq
    subst this
    show Z6 P τ S β w (.row eT e x.1) (β (i,0))
    rw [h0]
    exact ⟨hpos,cells,hown,hrc⟩
   exact ⟨_,(f1.append f2).mono (fun β hg=>step _ β hg.1 hg.2)⟩
  | ownc eT e=>cases hno
  | ownh eT e=>cases hno
  | box T t own=>
   obtain ⟨v1,f1,_⟩:=Q7g (P:=P) i 1 (i,0) T h1
   exact ⟨_,(f1.append f2).mono (fun β hg=>step (.cv (.one (.ptr (i,0) 0))) β hg.1 hg.2)⟩
theorem Qgb {α:Type} (l:List (Option α)) (c:Nat):(List.append l (List.replicate c none)).length=l.length+c:=by
 show (l++_).length=_
 rw [List.length_append,List.length_replicate]
theorem Qgd {α:Type} {l:List (Option α)} {c i:Nat} {y:α} (hi:(List.append l (List.replicate c none))[i]?=some (some y)):l[i]?=some (some y):=by
 have hi:(l++List.replicate c none)[i]?=some (some y):=hi
 rcases Nat.lt_or_ge i l.length with hlt | hge
 ·rw [List.getElem?_append_left hlt] at hi;exact hi
 ·rw [List.getElem?_append_right hge,List.getElem?_replicate] at hi
  split at hi
  ·exact absurd (Option.some.inj hi) (by simp)
  ·cases hi
theorem Qge {α:Type} (l:List α) (c:Nat):(l.map some++List.replicate c none:List (Option α)).length=l.length+c:=by simp
def Q2t:List PK→List Value→Nat
 | .ownc _ _::_,.slice _ n c::_=>c - n
 | .ownh _ _::_,.slice _ n c::_=>c - n
 | _,_=>0
theorem Qgj {τ:TypeId→Option Ty} {ps:List PK} {x:PDs ps} {vals:List Value} {B:List Nat} (h:X3 τ P S w ps x vals B):Q2t ps vals≤maxLen:=by
 cases ps with
 | nil=>exact Nat.zero_le _
 | cons p r=>
  cases p<;>try exact Nat.zero_le _
  case ownc eT e=>
   obtain ⟨v,vr,B1,B2,rfl,rfl,⟨hpos,⟨cells,hown,hrc⟩,rfl⟩,h2⟩:=h
   rcases hown.2 with ⟨e1,e2⟩ | ⟨g,cap,cur,e1,_,_,e2,e3,_⟩
   ·rw [e1];exact Nat.zero_le _
   ·rw [e1];exact Nat.le_trans (Nat.sub_le _ _) e3
  case ownh eT e=>
   obtain ⟨v,vr,B1,B2,rfl,rfl,⟨hpos,⟨A,c,hv,h1,h2,_⟩,rfl⟩,_⟩:=h
   rw [hv];exact Nat.le_trans (Nat.sub_le _ _) h2
theorem Qdy {τ:TypeId→Option Ty} {ps:List PK} {x:PDs ps} {vals:List Value} {B:List Nat} (h1:Qca ps=true) (h:X3 τ P S w ps x vals B) :
  ∃ vs,Ji P τ S w (Zl (Q2t ps vals) 0 ps x) vs B (fun β=>∀ t,Qf P τ S β w (Q9 (Zk 0 ps x) t) (vals.getD t undef)):=by
 have plain:Jo ps=true→∃ vs,Ji P τ S w (Zl (Q2t ps vals) 0 ps x) vs B (fun β=>∀ t,Qf P τ S β w (Q9 (Zk 0 ps x) t) (vals.getD t undef)):=fun hno=>by
  obtain ⟨vs,hf⟩:=Q3t (P:=P) (Q2t ps vals) 0 hno h
  exact ⟨vs,hf.mono (fun β hg t=>by have:=(hg t).2;simpa using this)⟩
 cases ps with
 | nil=>exact plain h1
 | cons p r=>
  cases p with
  | ownh eT e=>
   obtain ⟨v,vr,B1,B2,rfl,rfl,⟨hpos,⟨A,cp,hv,hle1,hle2,hblk⟩,rfl⟩,h2⟩:=h
   have hno:Jo r=true:=h1
   subst hv
   generalize hcap:Q2t (.ownh eT e::r) (.slice A (List.length (α:=Option e.den) x.1) cp::vr)=c
   obtain ⟨v2,f2⟩:=Q3t (P:=P) c 1 hno h2
   have hcap:cp - (List.length (α:=Option e.den) x.1)=c:=hcap
   have hml:(List.append (α:=Option e.den) x.1 (List.replicate c none)).length=List.length (α:=Option e.den) x.1+c:= Qgb (α:=e.den) x.1 c
   have f1:Ji P τ S w [((600000,0),Ob.mem eT e (List.append (α:=Option e.den) x.1 (List.replicate c none)) (List.length (α:=Option e.den) x.1) true)] [((600000,0),.slice A (List.length (α:=Option e.den) x.1) cp)] ((blk (.slice A (List.length (α:=Option e.den) x.1) cp)).toList) (fun β=>Qf P τ S β w (.win (600000,0) 0 (List.length (α:=Option e.den) x.1) e.cells) (.slice A (List.length (α:=Option e.den) x.1) cp)):=by
    refine ⟨rfl,by simp [Q6q],fun β hβ=>?_⟩
    have h0:=hβ ((600000,0),.slice A (List.length (α:=Option e.den) x.1) cp) (List.mem_cons_self ..)
    have hle1':List.length (α:=Option e.den) x.1≤cp:=hle1
    refine ⟨fun q hq=>?_,A,List.length (α:=Option e.den) x.1,cp,A,h0,by omega,by simp,fun _=>by cases A<;>simp [Addr.add]⟩
    have:=List.mem_singleton.1 hq
    subst this
    show Z6 P τ S β w (.mem eT e _ _ true) (β (600000,0))
    rw [h0]
    refine ⟨hpos,A,cp,rfl,by rw [hml];omega,hle1',hle2,fun _=>by rw [hml];omega,?_⟩
    rcases hblk with hn | ⟨g,cur,e6,hg,e4,hm⟩
    ·exact .inl hn
    ·refine .inr ⟨g,cur,e6,hg,e4,fun i y hi=>?_⟩
     exact hm i y (Qgd (α:=e.den) hi)
   refine ⟨_,(f1.append f2).mono (fun β hg t=>?_)⟩
   show Qf P τ S β w (Q9 ((0,_)::Zk 1 r x.2) t) _
   rw [Qk]
   by_cases e:0=t
   ·subst e;rw [if_pos rfl];simpa using hg.1
   ·rw [if_neg e]
    have:=(hg.2 t).2
    obtain ⟨q,rfl⟩:∃ q,t=q+1:=⟨t - 1,by omega⟩
    simpa using this
  | ownc eT e=>
   obtain ⟨v,vr,B1,B2,rfl,rfl,⟨hpos,⟨cells,hown,hrc⟩,rfl⟩,h2⟩:=h
   have hno:Jo r=true:=h1
   generalize hcap:Q2t (.ownc eT e::r) (v::vr)=c
   obtain ⟨v2,f2⟩:=Q3t (P:=P) c 1 hno h2
   obtain ⟨A,n,cp,hv⟩:=X1 hown
   subst hv
   have hcap:cp - n=c:=hcap
   have hnx:n=x.1.length:=by
    rcases hown.2 with ⟨e1,e2⟩ | ⟨g,cap,cur,e1,_⟩
    ·injection e1 with _ e3 _;omega
    ·injection e1
   have f1:Ji P τ S w [((600000,0),Ob.mem eT e (List.map some x.1++List.replicate c none) (List.length x.1) true)] [((600000,0),.slice A n cp)] ((blk (.slice A n cp)).toList) (fun β=>Qf P τ S β w (.win (600000,0) 0 (List.length x.1) e.cells) (.slice A n cp)):=by
    refine ⟨rfl,by simp [Q6q],fun β hβ=>?_⟩
    have h0:=hβ ((600000,0),.slice A n cp) (List.mem_cons_self ..)
    have hle:n≤cp∧cp≤maxLen:=by
     rcases hown.2 with ⟨e1,e2⟩ | ⟨g,cap,cur,e1,_,_,e2,e3,_⟩
     ·injection e1 with _ e3 e4;subst e4;exact ⟨by omega,by simp [maxLen]⟩
     ·injection e1 with _ e4 e5;subst e5;exact ⟨by omega,e3⟩
    refine ⟨fun q hq=>?_,A,n,cp,A,h0,by omega,by rw [hnx];simp,fun _=>by cases A<;>simp [Addr.add]⟩
    have:=List.mem_singleton.1 hq
    subst this
    show Z6 P τ S β w (.mem eT e _ _ true) (β (600000,0))
    rw [h0]
    have hml:(List.map some x.1++List.replicate c none:List (Option e.den)).length=List.length x.1+c:=Qge (x.1:List e.den) c
    refine ⟨hpos,A,cp,by rw [hnx],by rw [hml];omega,by omega,hle.2,fun _=>by rw [hml];omega,?_⟩
    rcases hown.2 with ⟨e1,e2⟩ | ⟨g,cap,cur,e1,_,hg,e2,e3,e4,e5⟩
    ·injection e1 with e6 _ e7;exact .inl ⟨e6,e7⟩
    ·injection e1 with e6 e7 e8
     subst e8
     exact .inr ⟨g,cur,e6,hg,e4,Q8.of_row hrc (by rw [hrc.length];exact e5) c⟩
   refine ⟨_,(f1.append f2).mono (fun β hg t=>?_)⟩
   show Qf P τ S β w (Q9 ((0,_)::Zk 1 r x.2) t) _
   rw [Qk]
   by_cases e:0=t
   ·subst e;rw [if_pos rfl];simpa using hg.1
   ·rw [if_neg e]
    have:=(hg.2 t).2
    obtain ⟨q,rfl⟩:∃ q,t=q+1:=⟨t - 1,by omega⟩
    simpa using this
  | val _=>exact plain h1
  | box _ _ _=>exact plain h1
  | rbox _=>exact plain h1
  | fn _ _=>exact plain h1
  | own _ _=>exact plain h1
  | io _ _=>exact plain h1
theorem Q9o {ps:List PK} {x:PDs ps} {vals:List Value} {B:List Nat} (hlt:∀ k,S k→k<w.heap.size) (h:X3 tab.ty P S w ps x vals B) (hnd:B.Nodup) (hB:∀ k∈B,¬ S k∧k<w.heap.size)
  (h1c:Qca ps=true) (hd:Zt ((Zl (Q2t ps vals) 0 ps x).map (·.1))=true) (a:Act) (hdf:a.defers=[]) (ha:∀ t,Q9 (Zk 0 ps x) t≠.dead→a.tmps.getD t undef=vals.getD t undef) (hN:a.tmps.size=N.1) (hp:∀ p∈N.2,a.tmps.getD p.1 undef=p.2) :
  ∃ β,Rel P tab.ty N w (fun k=>k∈B,S) S β { slots:=Zk 0 ps x,objs:=Zl (Q2t ps vals) 0 ps x } a w:=by
 obtain ⟨vs,hlab,hblk,hfit⟩:=Qdy (P:=P) h1c h
 have hvd:Zt (vs.map (·.1))=true:=by rw [hlab];exact hd
 obtain ⟨h1,h2⟩:=hfit (Qce vs) (fun p hp=>Q23 hvd p hp)
 have mem:∀ l ob,Q0 (Zl (Q2t ps vals) 0 ps x) l=some ob→∃ p∈vs,p.1=l:=fun l ob hl=>by
  have:l∈vs.map (·.1):=by rw [hlab];exact List.mem_map.2 ⟨(l,ob),Zn hl,rfl⟩
  exact List.mem_map.1 this
 refine ⟨Qce vs,hlt,fun t=>?_,fun l ob hl=>h1 (l,ob) (Zn hl),fun l ob hl b hb=>?_,fun l l' ob ob' hl hl' hne b hb=>?_,Fr.refl _ w,hN,hdf,fun k hk=>.inl hk,hp⟩
 ·have:=h2 t
  by_cases hdd:Q9 (Zk 0 ps x) t=.dead
  ·show Qf P tab.ty S _ w (Q9 (Zk 0 ps x) t) _
   rw [hdd];trivial
  ·rw [ha t hdd];exact this
 ·obtain ⟨p,hp',rfl⟩:=mem l ob hl
  rw [Q23 hvd p hp'] at hb
  have hbm:b∈B:=by rw [← hblk];exact List.mem_flatMap.2 ⟨p,hp',by rw [hb];simp⟩
  exact ⟨(hB b hbm).1,.inr hbm,(hB b hbm).2⟩
 ·obtain ⟨p,hp',rfl⟩:=mem l ob hl
  obtain ⟨q,hq',rfl⟩:=mem l' ob' hl'
  rw [Q23 hvd p hp'] at hb
  rw [Q23 hvd q hq']
  exact Q4i (by rw [hblk];exact hnd) p hp' q hq' hne b hb
theorem Qgw (h:Rel P tab.ty N w0 F S β st a w) {S':Nat→Prop} (hS:∀ k,S k→S' k) {k:RK} {sv:SV} {v:Value} {x:k.t.den} {own rd:List Lab} (he:Qio (Q0 st.objs) k sv=some (x,own,rd)) (hv:Qf P tab.ty S β w sv v)
  (hr:∀ l∈rd,∀ b,blk (β l)=some b→S' b):Q2b tab.ty S' w k x v (Qp β own):=by
 unfold Qio at he
 unfold Q2b
 split at he
 ·rename_i c hp
  rw [hp]
  obtain ⟨y,hy,he⟩:=Option.bind_eq_some_iff.1 he
  cases hq:(Q3d (Q0 st.objs) (Qg (Xs c) k.own)&&Q0x (lvs k.t y) k.own) with
  | false=>rw [hq] at he;cases he
  | true=>
   rw [hq] at he
   obtain ⟨e1,e2⟩:=Prod.mk.inj (Option.some.inj he)
   obtain ⟨e2,e3⟩:=Prod.mk.inj e2
   subst e1;subst e2;subst e3
   simp only [Bool.and_eq_true] at hq
   cases c with
   | one u=>
    have hy':(bif k.t.isAgg then none else Jj (Q0 st.objs) k.t u)=some y:=hy
    cases ha:k.t.isAgg with
    | true=>rw [ha] at hy';cases hy'
    | false=>
     rw [ha] at hy'
     have hl:lvs k.t y=[.pure k.t y]:=by
      generalize k.t=t at *
      cases t<;>first | rfl | cases ha
     refine ⟨[v],(fun h=>by cases h),(fun _=>rfl),?_⟩
     refine Q5j h.objs hS (vs:=[u]) ?_ ⟨v,[],rfl,hv,rfl⟩ hq.1 hq.2 hr
     rw [hl]
     exact ⟨hy',trivial⟩
   | agg us=>
    have hw:∀ o,k.t.isAgg=true→Q1f o k.t (.agg us)=some y→Q17 o k.t us=some y:=by
     intro o ha hy
     unfold Q1f at hy
     rw [ha] at hy
     simp only [cond_true] at hy
     unfold Q17
     split at hy
     ·rename_i h2;first | (rw [h2];exact hy) | exact hy
     ·cases hy
    cases ha:k.t.isAgg with
    | false=>unfold Q1f at hy;rw [ha] at hy;cases hy
    | true=>
     obtain ⟨cs,e1,hc⟩:=hv
     refine ⟨cs,(fun _=>e1),(fun h=>by cases h),?_⟩
     exact Q5j h.objs hS (vs:=us) (Q1u (hw _ ha hy)) hc hq.1 hq.2 hr
 ·rename_i T l hp
  rw [hp]
  obtain ⟨⟨y,vs⟩,hy,he⟩:=Option.bind_eq_some_iff.1 he
  obtain ⟨e1,e2⟩:=Prod.mk.inj (Option.some.inj he)
  obtain ⟨e2,e3⟩:=Prod.mk.inj e2
  subst e1;subst e2;subst e3
  exact (Q4j h hS hy hv hr).1
 ·cases he
theorem Q8o (h:Rel P tab.ty N w0 F S β st a w) {t:Nat} {st':St} (hc:Q5a st t=some st'):∃ β',Rel P tab.ty N w0 F S β' st' a w:=by
 unfold Q5a at hc
 split at hc
 case h_2=>have:=Option.some.inj hc;subst this;exact ⟨β,h⟩
 case h_1 l n sz hs=>
 split at hc
 case h_2=>cases hc
 case h_1 eT e ys n0 ex ho=>
 cases hq:(Nat.beq sz e.cells&&Zy st (777000,t)&&Nat.ble n ys.length) with
 | false=>rw [hq] at hc;cases hc
 | true=>
  rw [hq] at hc
  simp only [cond_true] at hc
  simp only [Bool.and_eq_true] at hq
  obtain ⟨⟨q1,q2⟩,q3⟩:=hq
  have q1:=Nat.eq_of_beq_eq_true q1
  have q3:=Q2.1 q3
  subst q1
  obtain ⟨xs,hxs,hc⟩:=Option.bind_eq_some_iff.1 hc
  have hc:=Option.some.inj hc
  subst hc
  obtain ⟨f1,f2,f3⟩:=Z4 q2
  have hsl:=h.slots t
  rw [hs] at hsl
  obtain ⟨A,n0',c0,A',hβ,hle,hv,hA⟩:=hsl
  have hAA:=hA (.inr rfl)
  rw [Nat.zero_mul] at hAA
  have hA2:A'=A:=by rw [hAA];cases A<;>simp [Addr.add]
  subst hA2
  obtain ⟨hpos,A2,c,hv2,k1,k2,k3,k4,k5⟩:=h.objs l _ ho
  rw [hv2] at hβ
  injection hβ with g1 g2 g3
  subst g1;subst g2;subst g3
  have hxl:xs.length=n:=Q18 (lo:=0) (by rw [List.drop_zero];exact hxs) (by omega)
  have hob:∀ β':Lab→Value,Z6 P tab.ty S β' w (.row eT e xs) (.slice A2 n c):=fun β'=>by
   rcases k5 with ⟨rfl,hc0⟩ | ⟨g,cur,rfl,hg,hcs,hm⟩
   ·have hn0:n=0:=by omega
    subst hn0
    have hx0:xs=[]:=List.eq_nil_of_length_eq_zero hxl
    subst hx0
    subst hc0
    exact ⟨hpos,[],World.ownsRow_nil w 0 eT e.cells,rfl⟩
   ·have hrc:=hm.slice (lo:=0) (n:=n) (xs:=xs) (by rw [List.drop_zero];exact hxs)
    rw [Nat.zero_mul,List.drop_zero] at hrc
    exact ⟨hpos,_,⟨hrc.length,.inr ⟨g,c,cur,by rw [hxl],Nat.zero_le _,hg,by omega,k3,hcs,rfl⟩⟩,hrc⟩
  have h1:=h.del l
  have hodel:∀ m ob',Q0 (Jr st.objs l) m=some ob'→m≠l∧Q0 st.objs m=some ob':=fun m ob' hm=>by
   rw [Zw] at hm
   split at hm
   ·cases hm
   ·rename_i hne;exact ⟨fun e=>hne e.symm,hm⟩
  have h2:=h1.reβ (β':=Q00 β (777000,t) (.slice A2 n c)) (fun u m hm=>Qn (fun e=>f2 u (by rw [← e];exact hm)))
   (fun m ob' hm=>by
    obtain ⟨_,hm'⟩:=hodel m ob' hm
    exact ⟨Qn (fun e=>by rw [e,f1] at hm';cases hm'),fun k hk=>Qn (fun e=>f3 m ob' hm' (by rw [← e];exact hk))⟩)
  have h3:=h2.add1 (l:=(777000,t)) (ob:=.row eT e xs) (objs':=((777000,t),.row eT e xs)::Jr st.objs l) (by rw [Qh];exact hob _) (fun b hb=>by
   rw [Qh] at hb
   have hb':blk (β l)=some b:=by
    rw [hv2]
    cases A2 with
    | none=>cases hb
    | some ad=>exact hb
   obtain ⟨e1,e2,e3⟩:=h.excl l _ ho b hb'
   refine ⟨e1,e2,e3,fun m ob' hm ho'=>?_⟩
   obtain ⟨hml,hm'⟩:=hodel m ob' ho'
   rw [Qn hm]
   exact fun hbm=>h.dist m l ob' _ hm' ho hml b hbm hb') (fun m=>by rw [Q3])
  refine ⟨_,⟨h3.sb,fun u=>?_,h3.objs,h3.excl,h3.dist,h3.fr,h3.size,h3.nodef,h3.within,h3.par⟩⟩
  show Qf P tab.ty S _ w (Q9 ((t,_)::st.slots) u) _
  rw [Qk]
  split
  ·rename_i e
   subst e
   refine ⟨?_,A2,n,c,by rw [hv];rfl⟩
   rw [Qh,hv];rfl
  ·exact h3.slots u
theorem Q0t:∀ {rs:List ResultVar} {st st':St} {β:Lab→Value},Rel P tab.ty N w0 F S β st a w→Q20 rs st=some st'→∃ β',Rel P tab.ty N w0 F S β' st' a w
 | [],st,st',β,h,hc=>by have:=Option.some.inj hc;subst this;exact ⟨β,h⟩
 | .tmp t::r,st,st',β,h,hc=>by
  obtain ⟨s,hs,hc⟩:=Option.bind_eq_some_iff.1 hc
  obtain ⟨β1,h1⟩:=Q8o h hs
  exact Q0t h1 hc
 | .cell _ _::r,st,st',β,h,hc=>Q0t (rs:=r) h hc
def Qcd {A B:Type} (r:A→B→Prop):List A→List B→Prop
 | [],[]=>True
 | x::p,y::q=>r x y∧Qcd r p q
 | _,_=>False
def Qck (P:Program) (a:Act) (w:World):ResultVar→Value→Prop
 | .tmp t,v=>v=a.tmps.getD t undef
 | .cell c T,v=>(do loadVar T (← asAddr (a.tmps.getD c undef)):Sem Value).run P w=.ok v w
theorem Qdx (hTab:Qc P tab) (h:Rel P tab.ty N w0 F S β st a w) {r:ResultVar} {sv:SV} (he:Qfu tab st r=some sv):∃ v,Qck P a w r v∧Qf P tab.ty S β w sv v:=by
 cases r with
 | tmp t=>have:=Option.some.inj he;subst this;exact ⟨_,rfl,h.slots t⟩
 | cell c T=>
  obtain ⟨⟨q,v,u⟩,hl,he⟩:=Option.bind_eq_some_iff.1 he
  cases hq:q with
  | false=>rw [hq] at he;cases he
  | true=>
   rw [hq] at he hl
   have he:=Option.some.inj he
   subst he
   obtain ⟨t,b,off,cs,hT,hx,hlen,hca,hv,_⟩:=Q90 hTab h (x:=.tmp c) hl rfl
   refine ⟨_,?_,hv⟩
   have hx:a.tmps.getD c undef=.pointer (some ⟨b,off,none⟩):=hx
   unfold Qck
   simp [hx,asAddr,Q6h hT hlen hca]
theorem Q8v (hTab:Qc P tab) (h:Rel P tab.ty N w0 F S β st a w) {S':Nat→Prop} (hS:∀ k,S k→S' k):∀ {rs:List RK} {l:List ResultVar} {z:RDs rs} {own rd:List Lab},Qh1 tab st rs l=some (z,own,rd) →
  (∀ l∈rd,∀ b,blk (β l)=some b→S' b)→∃ vs,Qcd (Qck P a w) l vs∧Xd tab.ty S' w rs z vs (Qp β own)
 | [],[],z,own,rd,he,hr=>by
  obtain ⟨e1,e2⟩:=Prod.mk.inj (Option.some.inj he)
  obtain ⟨e2,e3⟩:=Prod.mk.inj e2
  subst e2
  exact ⟨[],trivial,rfl,rfl⟩
 | [],_::_,z,own,rd,he,hr=>by cases he
 | _::_,[],z,own,rd,he,hr=>by cases he
 | k::r,x::q,z,own,rd,he,hr=>by
  obtain ⟨sv,hsv,he⟩:=Option.bind_eq_some_iff.1 he
  obtain ⟨⟨y,o1,r1⟩,hy,he⟩:=Option.bind_eq_some_iff.1 he
  obtain ⟨⟨z2,o2,r2⟩,hz,he⟩:=Option.bind_eq_some_iff.1 he
  obtain ⟨e1,e2⟩:=Prod.mk.inj (Option.some.inj he)
  obtain ⟨e2,e3⟩:=Prod.mk.inj e2
  subst e1;subst e2;subst e3
  obtain ⟨v,hv,hvr⟩:=Qdx hTab h hsv
  obtain ⟨vs,g1,g2⟩:=Q8v hTab h hS hz (fun l hl=>hr l (List.mem_append.2 (.inr hl)))
  exact ⟨v::vs,⟨hv,g1⟩,v,vs,_,_,rfl,Qw β o1 o2,Qgw h hS hy hvr (fun l hl=>hr l (List.mem_append.2 (.inl hl))),g2⟩
def Q5w (a:Act):Nat→List PK→List Value→Prop
 | _,[],_=>True
 | i,.box _ _ _::r,vs=>∃ v vr,vs=v::vr∧a.tmps.getD i undef=v∧Q5w a (i+1) r vr
 | i,.val _::r,vs=>Q5w a (i+1) r vs.tail
 | i,.rbox _::r,vs=>Q5w a (i+1) r vs.tail
 | i,.fn _ _::r,vs=>Q5w a (i+1) r vs.tail
 | i,.own _ _::r,vs=>Q5w a (i+1) r vs.tail
 | i,.ownc _ _::r,vs=>Q5w a (i+1) r vs.tail
 | i,.ownh _ _::r,vs=>Q5w a (i+1) r vs.tail
 | i,.io _ _::r,vs=>∃ v vr,vs=v::vr∧a.tmps.getD i undef=v∧Q5w a (i+1) r vr
theorem Xp (h:Rel P tab.ty N w0 F S β st a w) {S':Nat→Prop} (hS:∀ k,S k→S' k):∀ {ps:List PK} {i:Nat} {vals:List Value} {x:ODs ps} {own rd:List Lab},Q2u st i ps=some (x,own,rd)→Q5w a i ps vals →
  (∀ l∈rd,∀ b,blk (β l)=some b→S' b)→Qt tab.ty S' w ps vals x (Qp β own)
 | [],i,vals,x,own,rd,he,hp,hr=>by
  obtain ⟨e1,e2⟩:=Prod.mk.inj (Option.some.inj he)
  obtain ⟨e2,e3⟩:=Prod.mk.inj e2
  subst e2
  rfl
 | .box T t ow::r,i,vals,x,own,rd,he,hp,hr=>by
  obtain ⟨v,vr,rfl,hv,hp⟩:=hp
  have hs:=h.slots i
  have he:(match Q9 st.slots i with
   | .cv (.one (.ptr l 0))=>(Q5s (Q0 st.objs) T t ow l).bind fun x=>
    (Q2u st (i+1) r).bind fun z=>some (((x.1,z.1),l::Zs (Qg x.2 ow)++z.2.1,Qi (Qg x.2 ow)++z.2.2):ODs (.box T t ow::r) × List Lab × List Lab)
   | _=>none)=some (x,own,rd):=he
  split at he
  ·rename_i l hsl
   rw [hsl,hv] at hs
   obtain ⟨⟨y,us⟩,hy,he⟩:=Option.bind_eq_some_iff.1 he
   obtain ⟨⟨z,o2,r2⟩,hz,he⟩:=Option.bind_eq_some_iff.1 he
   obtain ⟨e1,e2⟩:=Prod.mk.inj (Option.some.inj he)
   obtain ⟨e2,e3⟩:=Prod.mk.inj e2
   subst e1;subst e2;subst e3
   exact ⟨v,vr,_,_,rfl,Qw β (l::Zs (Qg us ow)) o2,(Q4j h hS hy hs (fun m hm=>hr m (List.mem_append.2 (.inl hm)))).1,Xp h hS hz hp (fun m hm=>hr m (List.mem_append.2 (.inr hm)))⟩
  ·cases he
 | .val t::r,i,vals,x,own,rd,he,hp,hr=>Xp h hS (ps:=r) he hp hr
 | .rbox t::r,i,vals,x,own,rd,he,hp,hr=>Xp h hS (ps:=r) he hp hr
 | .fn ps rs::r,i,vals,x,own,rd,he,hp,hr=>Xp h hS (ps:=r) he hp hr
 | .own eT e::r,i,vals,x,own,rd,he,hp,hr=>Xp h hS (ps:=r) he hp hr
 | .ownc eT e::r,i,vals,x,own,rd,he,hp,hr=>Xp h hS (ps:=r) he hp hr
 | .ownh eT e::r,i,vals,x,own,rd,he,hp,hr=>Xp h hS (ps:=r) he hp hr
 | .io eT e::r,i,vals,x,own,rd,he,hp,hr=>by
  obtain ⟨v,vr,rfl,hv,hp⟩:=hp
  have hs:=h.slots i
  have he:(match Q9 st.slots i with
   | .cv (.one (.ref l))=>bif Nat.blt 0 e.cells then (Q0b (Q0 st.objs) eT e (.ref l)).bind fun x=>(Q2u st (i+1) r).bind fun z=>some (((x.1,z.1),x.2++z.2.1,z.2.2):ODs (.io eT e::r) × List Lab × List Lab) else none
   | _=>none)=some (x,own,rd):=he
  split at he
  ·rename_i l hsl
   rw [hsl,hv] at hs
   cases hq:Nat.blt 0 e.cells with
   | false=>rw [hq] at he;cases he
   | true=>
    rw [hq] at he
    obtain ⟨⟨y,us⟩,hy,he⟩:=Option.bind_eq_some_iff.1 he
    obtain ⟨⟨z,o2,r2⟩,hz,he⟩:=Option.bind_eq_some_iff.1 he
    obtain ⟨e1,e2⟩:=Prod.mk.inj (Option.some.inj he)
    obtain ⟨e2,e3⟩:=Prod.mk.inj e2
    subst e1;subst e2;subst e3
    exact ⟨v,vr,_,_,rfl,Qw β us o2,Q2o h hS (Q2.1 hq) hy hs,Xp h hS hz hp hr⟩
  ·cases he
theorem Q9m {g:ResultVar→Sem Value}:∀ {l:List ResultVar} {vs:List Value},Qcd (fun r v=>(g r).run P w=.ok v w) l vs→(l.mapM g).run P w=.ok vs w
 | [],[],_=>rfl
 | [],_::_,h=>h.elim
 | _::_,[],h=>h.elim
 | x::r,v::q,h=>by
  have ih:=Q9m h.2
  simp [List.mapM_cons,h.1,ih]
theorem Qcd.mono {A B:Type} {r r':A→B→Prop} (h:∀ x y,r x y→r' x y):∀ {l:List A} {q:List B},Qcd r l q→Qcd r' l q
 | [],[],_=>trivial
 | [],_::_,h'=>h'.elim
 | _::_,[],h'=>h'.elim
 | x::p,y::q,h'=>⟨h x y h'.1,Qcd.mono h h'.2⟩
theorem Qbu {fn:Func} {vs:List Value} (h:Qcd (Qck P a w) fn.results.toList vs):(results fn a.tmps).run P w=.ok (Q5n vs) w:=by
 have key:∀ (g:ResultVar→Sem Value),(∀ r v,Qck P a w r v→(g r).run P w=.ok v w) →
   (do let vs ← fn.results.mapM g;pure (if h:vs.size=1 then vs[0] else .tuple vs):Sem Value).run P w=.ok (Q5n vs) w:=by
  intro g hg
  have h1:=Q9m (g:=g) (P:=P) (w:=w) (h.mono hg)
  simp only [Array.mapM_eq_mapM_toList]
  simp only [Sem.run_bind,Sem.run_map,h1,Result.andThen_ok]
  cases vs with
  | nil=>rfl
  | cons v q=>
   cases q with
   | nil=>rfl
   | cons _ _=>rfl
 exact key _ (fun r v hv=>by
  cases r with
  | tmp t=>have hv:v=a.tmps.getD t undef:=hv;subst hv;rfl
  | cell c T=>exact hv)
def Q1q:Nat→List PK→List Value→List (Nat × Value)
 | i,.box _ _ _::r,v::vr=>(i,v)::Q1q (i+1) r vr
 | i,.io _ _::r,v::vr=>(i,v)::Q1q (i+1) r vr
 | i,_::r,vs=>Q1q (i+1) r vs.tail
 | _,[],_=>[]
theorem Qcp {τ:TypeId→Option Ty}:∀ {ps:List PK} {x:PDs ps} {vals:List Value} {B:List Nat} (i:Nat),X3 τ P S w ps x vals B→(Q1q i ps vals).map (·.1)=Q2p i ps
 | [],x,vals,B,i,h=>by cases vals<;>rfl
 | p::r,x,vals,B,i,h=>by
  obtain ⟨v,vr,B1,B2,rfl,rfl,h1,h2⟩:=h
  have ih:=Qcp (i+1) h2
  cases p<;>simp [Q1q,Q2p,ih]
theorem Xy {vals:List Value}:∀ {ps:List PK} {vs:List Value} (i:Nat),vs=vals.drop i→∀ p∈Q1q i ps vs,vals.getD p.1 undef=p.2
 | [],vs,i,hv,p,hp=>by cases vs<;>simp [Q1q] at hp
 | q::r,[],i,hv,p,hp=>by
  have hn:vals.drop (i+1)=[]:=by rw [List.drop_eq_nil_iff] at *;have:=hv.symm;rw [List.drop_eq_nil_iff] at this;omega
  have hp:p∈Q1q (i+1) r []:=by cases q<;>exact hp
  exact Xy (i+1) hn.symm p hp
 | q::r,v::vr,i,hv,p,hp=>by
  have hd:vr=vals.drop (i+1):=by rw [← List.drop_drop,← hv];rfl
  have h0:vals.getD i undef=v:=by
   have:=congrArg (·[0]?) hv
   simp only [List.getElem?_cons_zero,List.getElem?_drop,Nat.add_zero] at this
   rw [List.getD_eq_getElem?_getD,← this];rfl
  cases q with
  | box T t own=>
   rcases List.mem_cons.1 hp with rfl | hp
   ·exact h0
   ·exact Xy (i+1) hd p hp
  | val t=>exact Xy (i+1) hd p hp
  | rbox t=>exact Xy (i+1) hd p hp
  | fn a b=>exact Xy (i+1) hd p hp
  | own eT e=>exact Xy (i+1) hd p hp
  | ownc eT e=>exact Xy (i+1) hd p hp
  | ownh eT e=>exact Xy (i+1) hd p hp
  | io eT e=>
   rcases List.mem_cons.1 hp with rfl | hp
   ·exact h0
   ·exact Xy (i+1) hd p hp
theorem Q0k {τ:TypeId→Option Ty} {a:Act}:∀ {ps:List PK} {x:PDs ps} {vals:List Value} {B:List Nat} (i:Nat),X3 τ P S w ps x vals B→(∀ p∈Q1q i ps vals,a.tmps.getD p.1 undef=p.2)→Q5w a i ps vals
 | [],x,vals,B,i,h,hp=>trivial
 | p::r,x,vals,B,i,h,hp=>by
  obtain ⟨v,vr,B1,B2,rfl,rfl,h1,h2⟩:=h
  cases p with
  | box T t own=>exact ⟨v,vr,rfl,hp (i,v) (List.mem_cons_self ..),Q0k (i+1) h2 (fun p hp'=>hp p (List.mem_cons_of_mem _ hp'))⟩
  | val t=>exact Q0k (i+1) h2 hp
  | rbox t=>exact Q0k (i+1) h2 hp
  | fn a b=>exact Q0k (i+1) h2 hp
  | own eT e=>exact Q0k (i+1) h2 hp
  | ownc eT e=>exact Q0k (i+1) h2 hp
  | ownh eT e=>exact Q0k (i+1) h2 hp
  | io eT e=>exact ⟨v,vr,rfl,hp (i,v) (List.mem_cons_self ..),Q0k (i+1) h2 (fun p hp'=>hp p (List.mem_cons_of_mem _ hp'))⟩
theorem Qg6 {τ:TypeId→Option Ty}:∀ {ps:List PK} {x:PDs ps} {vals:List Value} {B:List Nat},X3 τ P S w ps x vals B→vals.length=ps.length
 | [],x,vals,B,h=>by obtain ⟨rfl,_⟩:=h;rfl
 | p::r,x,vals,B,h=>by obtain ⟨v,vr,B1,B2,rfl,rfl,h1,h2⟩:=h;simp [Qg6 h2]
theorem Qfc (hTab:Qc P tab) {B:List Nat} {S0:Nat→Prop} {w1:World} (h:Rel P tab.ty N w1 (fun k=>k∈B,S0) S β st a w) (hS0:∀ k,S0 k→S k) {ps:List PK} {rs:List RK} {fn:Func} {r:RDs rs × ODs ps} (he:Qa2 tab ps rs fn st=some r)
  {vals:List Value} (hp:Q5w a 0 ps vals) {R:Ending→World→Prop}
  (hR:∀ vs S' B1 B2,Xd tab.ty S' w rs r.1 vs B1→Qt tab.ty S' w ps vals r.2 B2→(B1++B2).Nodup →
   (∀ k∈B1++B2,¬ S' k∧k<w.heap.size∧(w1.heap.size≤k∨k∈B))→(∀ k,S0 k→S' k)→(∀ k,S' k→k<w.heap.size∧(S0 k∨w1.heap.size≤k∨k∈B))→Fr (fun k=>k∈B) w1 w→R (.returned (Q5n vs)) w) :
  ∃ v,(results fn a.tmps).run P w=.ok v w∧R (.returned v) w:=by
 unfold Qa2 at he
 obtain ⟨⟨x,o1,r1⟩,h1,he⟩:=Option.bind_eq_some_iff.1 he
 obtain ⟨⟨y,o2,r2⟩,h2,he⟩:=Option.bind_eq_some_iff.1 he
 cases hq:(Zt (o1++o2)&&Q2v (o1++o2) (r1++r2)&&(o1++o2).all (Q0g (Q0 st.objs))&&(r1++r2).all (Q0g (Q0 st.objs))) with
 | false=>simp only [hq] at he;cases he
 | true=>
  simp only [hq,cond_true] at he
  have he:=Option.some.inj he
  subst he
  simp only [Bool.and_eq_true] at hq
  obtain ⟨⟨⟨q1,q2⟩,q3⟩,q4⟩:=hq
  have hown:∀ l∈o1++o2,∃ ob,Q0 st.objs l=some ob:=fun l hl=>Q3k (List.all_eq_true.1 q3 l hl)
  have hrd:∀ l∈r1++r2,∃ ob,Q0 st.objs l=some ob:=fun l hl=>Q3k (List.all_eq_true.1 q4 l hl)
  have hsub:∀ k,S k→(S k∨Q07 st β (r1++r2) k):=fun k hk=>.inl hk
  have hin:∀ l∈r1++r2,∀ b,blk (β l)=some b→(S b∨Q07 st β (r1++r2) b):=fun l hl b hb=>by
   obtain ⟨ob,ho⟩:=hrd l hl
   exact .inr ⟨l,hl,ob,ho,hb⟩
  obtain ⟨vs,g1,g2⟩:=Q8v hTab h hsub h1 (fun l hl=>hin l (List.mem_append.2 (.inl hl)))
  have g3:=Xp h hsub h2 hp (fun l hl=>hin l (List.mem_append.2 (.inr hl)))
  refine ⟨_,Qbu g1,hR vs _ _ _ g2 g3 (by rw [← Qw];exact Q1m h q1 hown) (fun k hk=>?_) (fun k hk=>.inl (hS0 k hk)) (fun k hk=>?_) h.fr⟩
  ·rw [← Qw] at hk
   obtain ⟨l,hl,hb⟩:=Q1b.1 hk
   obtain ⟨ob,ho⟩:=hown l hl
   obtain ⟨e1,e2,e3⟩:=h.excl l ob ho k hb
   refine ⟨fun hx=>?_,e3,e2⟩
   rcases hx with hx | ⟨m,hm,ob',ho',hb'⟩
   ·exact e1 hx
   ·exact h.dist l m ob ob' ho ho' (fun e=>Q12 q2 l hl (e▸hm)) k hb hb'
  ·rcases hk with hk | ⟨m,hm,ob',ho',hb'⟩
   ·exact ⟨h.sb k hk,h.within k hk⟩
   ·obtain ⟨_,e2,e3⟩:=h.excl m ob' ho' k hb'
    exact ⟨e3,.inr e2⟩
theorem Q5b (hTab:Qc P tab) {B:List Nat} {S0:Nat→Prop} {w1:World} (h:Rel P tab.ty N w1 (fun k=>k∈B,S0) S β st a w) (hS0:∀ k,S0 k→S k) {ps:List PK} {rs:List RK} {fn:Func} {r:RDs rs × ODs ps} (he:Q4a tab ps rs fn st=some r)
  {vals:List Value} (hp:Q5w a 0 ps vals) {R:Ending→World→Prop}
  (hR:∀ vs S' B1 B2,Xd tab.ty S' w rs r.1 vs B1→Qt tab.ty S' w ps vals r.2 B2→(B1++B2).Nodup →
   (∀ k∈B1++B2,¬ S' k∧k<w.heap.size∧(w1.heap.size≤k∨k∈B))→(∀ k,S0 k→S' k)→(∀ k,S' k→k<w.heap.size∧(S0 k∨w1.heap.size≤k∨k∈B))→Fr (fun k=>k∈B) w1 w→R (.returned (Q5n vs)) w) :
  ∃ v,(results fn a.tmps).run P w=.ok v w∧R (.returned v) w:=by
 rw [Qg7] at he
 obtain ⟨s,hs,he⟩:=Option.bind_eq_some_iff.1 he
 obtain ⟨β',h'⟩:=Q0t h hs
 exact Qfc hTab h' hS0 he hp hR
def Q4f (tab:Tab) (w:World) (S:Nat→Prop) (vals:List Value) (B:List Nat) {ps:List PK} {rs:List RK} (r:RDs rs × ODs ps) (ex:Ending) (w':World):Prop:=
 ∃ vs S' B1 B2,ex=.returned (Q5n vs)∧Xd tab.ty S' w' rs r.1 vs B1∧Qt tab.ty S' w' ps vals r.2 B2∧(B1++B2).Nodup ∧
   (∀ k∈B1++B2,¬ S' k∧k<w'.heap.size∧(w.heap.size≤k∨k∈B))∧(∀ k,S k→S' k) ∧
   (∀ k,S' k→k<w'.heap.size∧(S k∨w.heap.size≤k∨k∈B))∧Fr (fun k=>k∈B) w w'
theorem Qg3 {Γ:Ctx} (hΓ:Jc tab.ty P Γ) (hTab:Qc P tab) (hD:∀ N,Q7i P Γ tab N) {f:FuncId} {fn:Func} (hf:P.funcs[f]?=some fn) (hnm:(fn.name=="runtime.NumGoroutine")=false) (hnb:fn.body.isNone=false) {ps:List PK} {rs:List RK} {fi:Fi} {n:Nat}
  {G:PDs ps→Option (RDs rs × ODs ps)} (hG:∀ c x r,c≤maxLen→G x=some r→Qde Γ tab { fi with cap:=c } n ps rs fn x=some r):Q4u tab.ty P f ⟨ps,rs,G⟩:=by
 cases hb:fn.body with
 | none=>rw [hb] at hnb;cases hnb
 | some c=>
  refine ⟨⟨fn,hf,hnm,by rw [hb];rfl⟩,fun w S x vals B r hlt hargs hnd hB hg=>?_⟩
  have he:=hG (Q2t ps vals) x r (Qgj hargs) hg
  unfold Qde at he
  rw [hb] at he
  simp only at he
  cases hq:(X7 fn.ntmps (Q2p 0 ps) c&&Zt ((Zl (Q2t ps vals) 0 ps x).map (·.1))&&Qca ps) with
  | false=>rw [hq] at he;cases he
  | true=>
   rw [hq] at he
   simp only [cond_true] at he
   simp only [Bool.and_eq_true] at hq
   refine calls_of_wp hf hb ?_
   have htm:∀ t,(vals.toArray++Array.replicate (fn.ntmps - vals.toArray.size) undef).getD t undef=vals.getD t undef:=by
    intro t
    rw [Array.getD_eq_getD_getElem?,List.getD_eq_getElem?_getD,Array.getElem?_append]
    split
    ·simp
    ·rename_i hge
     rw [List.getElem?_eq_none (by simpa using hge)]
     rw [Array.getElem?_replicate]
     split<;>rfl
   obtain ⟨β,h0⟩:=Q9o (N:=((vals.toArray++Array.replicate (fn.ntmps - vals.toArray.size) undef).size,Q1q 0 ps vals)) hlt hargs hnd hB hq.2 hq.1.2
    {tmps:=vals.toArray++Array.replicate (fn.ntmps - vals.toArray.size) undef,defers:=[] } rfl (fun t _=>htm t) rfl (fun p hp=>by rw [htm];exact Xy 0 rfl p hp)
   refine Q0h (n0:=fn.ntmps) (by simp;omega) hΓ hTab (hD _) (by rw [Qcp 0 hargs];exact hq.1.1) h0 he (fun e a' w' S' β' s hS h' hk=>?_)
   have hpin:=Q0k (a:=a') 0 hargs h'.par
   cases e with
   | normal=>exact ⟨h'.nodef,Q5b (R:=Q4f tab w S vals B r) hTab h' hS hk hpin (fun vs S1 B1 B2 g1 g2 g3 g4 g5 g6 g7=>⟨vs,S1,B1,B2,rfl,g1,g2,g3,g4,g5,g6,g7⟩)⟩
   | ret=>exact ⟨h'.nodef,Q5b (R:=Q4f tab w S vals B r) hTab h' hS hk hpin (fun vs S1 B1 B2 g1 g2 g3 g4 g5 g6 g7=>⟨vs,S1,B1,B2,rfl,g1,g2,g3,g4,g5,g6,g7⟩)⟩
   | exit id=>cases hk
end
end Go.PE
set_option linter.unusedVariables false
set_option linter.unusedSimpArgs false
namespace Go.PE
section
variable {P:Program} {tab:Tab} {N:NN} {w0:World} {F:FF} {S:Nat→Prop} {β:Lab→Value} {st:St} {a:Act} {w:World}
theorem Ql {o:Oper} {v:SV} {del:List Lab} {u:Upd} {R:Type} {k:St→List Lab→Option R} {res:R} (h:Z3 st o v del u k=some res) :
  ∃ s W,k s W=some res∧(∀ {R':Type} (k':St→List Lab→Option R'),Z3 st o v del u k'=k' s W)∧∀ l,l ∉ W→Q0 s.objs l=Q0 st.objs l:=by
 obtain ⟨s,hs,hk⟩:=Option.bind_eq_some_iff.1 h
 refine ⟨_,_,hk,fun k'=>by unfold Z3;rw [hs];rfl,fun l hl=>?_⟩
 have hok:=Jf hs
 have e:Q0 (Q26 s o.dst v).objs l=Q0 s.objs l:=by cases o.dst<;>rfl
 rw [e,hok.get l]
 have h1:l ∉ del:=fun hx=>hl (List.mem_append.2 (.inl hx))
 cases hu:Q0 u l with
 | some ob=>exact absurd (List.mem_append.2 (.inr (List.mem_map.2 ⟨(l,ob),Zn hu,rfl⟩))) hl
 | none=>simp only;rw [Zr,if_neg h1]
theorem Qbq {l m:Lab} {T:TypeId} {p:St × (t:Ty) × t.den} (h:frzBox st l T tab=some p) (hm:Q0 st.objs m=none):Q0 p.1.objs m=none:=by
 unfold frzBox at h
 split at h
 ·obtain ⟨t',_,h⟩:=Option.bind_eq_some_iff.1 h
  obtain ⟨x',_,h⟩:=Option.bind_eq_some_iff.1 h
  have h:=Option.some.inj h
  subst h
  simp only [Zw,hm]
  split<;>rfl
 ·cases h
theorem Q1j {Γ:Ctx} {f:FuncId} {m:Lab}:∀ {svs:List SV} {st:St} {cs:List ((t:Ty) × t.den)} {p:St × LV},Jx Γ tab f st svs cs=some p→Q0 st.objs m=none→Q0 p.1.objs m=none
 | [],st,cs,p,h,hm=>by
  obtain ⟨e,heg,h⟩:=Option.bind_eq_some_iff.1 h
  have h:(bif Xh e.ps&&e.rs.all Q0f then (Qha (Qu e.ps).2 cs).bind fun y=>some (st,LV.clo (Qu e.ps).1 (e.rs.map (·.t)) (Qbe e y (e.rs.map (·.t)))) else none)=some p:=h
  cases hq:(Xh e.ps&&e.rs.all Q0f) with
  | false=>rw [hq] at h;cases h
  | true=>
   rw [hq] at h
   obtain ⟨y,hy,h⟩:=Option.bind_eq_some_iff.1 h
   have h:=Option.some.inj h
   subst h
   exact hm
 | sv::r,st,cs,p,h,hm=>by
  cases sv with
  | win _ _ _ _=>cases h
  | tupe _ _ _=>cases h
  | tupn _=>cases h
  | dead=>cases h
  | skip=>cases h
  | tup _=>cases h
  | ap _ _ _ _=>cases h
  | ep t x=>exact Q1j (svs:=r) h hm
  | cv c=>
   cases c with
   | agg _=>cases h
   | one u=>
    cases u<;>try (cases h;done)
    case ptr l off=>
    cases off with
    | succ n=>cases h
    | zero=>
     obtain ⟨⟨st1,t,x⟩,hf,h⟩:=Option.bind_eq_some_iff.1 h
     exact Q1j (svs:=r) h (Qbq hf hm)
theorem Q8d {Γ:Ctx} {o:Lab→Option Ob} {d:Nat} {e:Ent} {args:List SV} {R:Type} {k:SV→List Lab→Upd→Option R} {res:R} (h:Q1l Γ o d e args k=some res) :
  ∃ v del u,k v del u=some res∧∀ {R':Type} (k':SV→List Lab→Upd→Option R'),Q1l Γ o d e args k'=k' v del u:=by
 unfold Q1l at h
 obtain ⟨a,ha,h⟩:=Option.bind_eq_some_iff.1 h
 cases hq:(Zt a.2.1&&Q2v a.2.1 a.2.2&&a.2.1.all (Q0g o)&&a.2.2.all (Q0g o)&&(bif Q8y e then Qit a.2.2 else true)) with
 | false=>rw [hq] at h;cases h
 | true=>
  rw [hq] at h
  obtain ⟨r,hr,h⟩:=Option.bind_eq_some_iff.1 h
  refine ⟨_,_,_,h,fun k'=>?_⟩
  unfold Q1l
  rw [ha]
  simp only [Option.bind_some,hq,cond_true,hr]
theorem Q92 {Γ:Ctx} {o:Lab→Option Ob} {d:Nat} {m:String} {v:IV} {args:List SV} {R:Type} {k:SV→List Lab→Upd→Option R} {res:R}:∀ {l:List TypeId},J0 Γ tab o d m v args k l=some res →
  ∃ x del u,k x del u=some res∧∀ {R':Type} (k':SV→List Lab→Upd→Option R'),J0 Γ tab o d m v args k' l=k' x del u
 | [],h=>by cases h
 | T::l,h=>by
  unfold J0 at h
  split at h
  case h_2=>cases h
  case h_1 T' n f t htd hty=>
  cases hq:(decide (n=m)&&t.isAgg&&Nat.beq T' T) with
  | false=>rw [hq] at h;cases h
  | true=>
   rw [hq] at h
   simp only [cond_true] at h
   cases his:IV.is v T with
   | false=>
    rw [his] at h
    obtain ⟨x,del,u,g1,g2⟩:=Q92 (l:=l) h
    exact ⟨x,del,u,g1,fun k'=>by
     have e:J0 Γ tab o d m v args k' (T::l)=J0 Γ tab o d m v args k' l:=by
      rw [J0,htd,hty];simp only [hq,cond_true,his,cond_false]
     rw [e];exact g2 k'⟩
   | true=>
    rw [his] at h
    simp only [cond_true] at h
    obtain ⟨e,heg,h⟩:=Option.bind_eq_some_iff.1 h
    obtain ⟨x,del,u,g1,g2⟩:=Q8d h
    exact ⟨x,del,u,g1,fun k'=>by
     have e2:J0 Γ tab o d m v args k' (T::l)=Q1l Γ o d e (.cv (.agg (lvs t (IV.val v t)))::args) k':=by
      rw [J0,htd,hty];simp only [hq,cond_true,his,heg,Option.bind_some]
     rw [e2];exact g2 k'⟩
theorem Qb7 {o:Oper} {s x:Operand} {T T':TypeId} {d:Nat} {R:Type} {k:SV→List Lab→Upd→Option R} {res:R} (h:Q01 tab st (Qb st.slots) d s x T T' k=some res) :
  ∃ v del u,k v del u=some res∧∀ {R':Type} (k':SV→List Lab→Upd→Option R'),Q01 tab st (Qb st.slots) d s x T T' k'=k' v del u:=by
 unfold Q01 at h
 split at h
 case h_2=>cases h
 case h_1 eT htd=>
 obtain ⟨e,hte,h⟩:=Option.bind_eq_some_iff.1 h
 obtain ⟨sv,hsv,h⟩:=Option.bind_eq_some_iff.1 h
 obtain ⟨b,hb,h⟩:=Option.bind_eq_some_iff.1 h
 rw [X8] at h
 obtain ⟨ys,hys,h⟩:=Option.bind_eq_some_iff.1 h
 cases hq:((b.1.all fun l=>!(Xu l (Qe (Qb st.slots x))))&&Nat.ble (b.2.length+ys.length) 1073741824) with
 | false=>rw [hq] at h;cases h
 | true=>
  rw [hq] at h
  exact ⟨_,_,_,h,fun k'=>by unfold Q01;rw [htd];simp only [hte,hsv,hb,X8,hys,Option.bind_some,hq,cond_true]⟩
theorem Qda {Γ:Ctx} {kn:List (Nat × Bool)} {o:Oper} {R:Type} {k:St→List Lab→Option R} {res:R} (h:Zp Γ tab kn st o k=some res) :
  ∃ s W,k s W=some res∧(∀ {R':Type} (k':St→List Lab→Option R'),Zp Γ tab kn st o k'=k' s W)∧∀ l,l ∉ W→(Jw o=false∨Q0 st.objs l=none)→Q0 s.objs l=Q0 st.objs l:=by
 have simple:(∀ {R':Type} (k':St→List Lab→Option R'),Zp Γ tab kn st o k'=(ev1 tab kn (Qb st.slots) (Q0 st.objs) (o.dst.getD 999999999) o.op o.type).bind (fun r=>bif r.1 then Z3 st o r.2.1 [] r.2.2 k' else none)) →
   ∃ s W,k s W=some res∧(∀ {R':Type} (k':St→List Lab→Option R'),Zp Γ tab kn st o k'=k' s W)∧∀ l,l ∉ W→(Jw o=false∨Q0 st.objs l=none)→Q0 s.objs l=Q0 st.objs l:=by
  intro hall
  rw [hall] at h
  obtain ⟨⟨c,v,u⟩,hr,he⟩:=Option.bind_eq_some_iff.1 h
  cases hc:c with
  | false=>rw [hc] at he;cases he
  | true=>
   rw [hc] at he hr
   obtain ⟨s,W,g1,g2,g3⟩:=Ql he
   exact ⟨s,W,g1,fun k'=>by rw [hall,hr];exact g2 k',fun l hl _=>g3 l hl⟩
 cases ho:o.op<;>try (refine simple (fun k'=>?_);unfold Zp;rw [ho];done)
 case convert sT dT x=>
  cases hb0:(bif Q6m Γ then Q3a tab (o.dst.getD 999999999) sT dT (Qb st.slots x) else none) with
  | some r=>
   obtain ⟨c,v,u⟩:=r
   have hall:∀ {R':Type} (k':St→List Lab→Option R'),Zp Γ tab kn st o k'=(bif c then Z3 st o v [] u k' else none):=fun k'=>by unfold Zp;simp only [ho,hb0]
   rw [hall] at h
   cases hc:c with
   | false=>rw [hc] at h;cases h
   | true=>
    rw [hc] at h
    obtain ⟨s',W,g1,g2,g3⟩:=Ql h
    exact ⟨s',W,g1,fun k'=>by rw [hall,hc];exact g2 k',fun l hl _=>g3 l hl⟩
  | none=>
  cases hb:Q5d tab (Q0 st.objs) sT dT (Qb st.slots x) with
  | none=>refine simple (fun k'=>?_);unfold Zp;simp only [ho,hb0,hb]
  | some r=>
   obtain ⟨c,v,del⟩:=r
   have hall:∀ {R':Type} (k':St→List Lab→Option R'),Zp Γ tab kn st o k'=(bif c then Z3 st o v del [] k' else none):=fun k'=>by unfold Zp;simp only [ho,hb0,hb]
   rw [hall] at h
   cases hc:c with
   | false=>rw [hc] at h;cases h
   | true=>
    rw [hc] at h
    obtain ⟨s',W,g1,g2,g3⟩:=Ql h
    exact ⟨s',W,g1,fun k'=>by rw [hall,hc];exact g2 k',fun l hl _=>g3 l hl⟩
 case slice T x lo hi mx=>
  cases hw:(Q6m Γ&&Qgk (Q0 st.objs) (Qb st.slots x)) with
  | false=>refine simple (fun k'=>?_);unfold Zp;simp only [ho,hw,cond_false]
  | true=>
   clear simple
   unfold Zp at h ⊢
   simp only [ho,hw,cond_true] at h ⊢
   obtain ⟨n,hn,h⟩:=Option.bind_eq_some_iff.1 h
   obtain ⟨l,hl,h⟩:=Option.bind_eq_some_iff.1 h
   obtain ⟨m,hm,h⟩:=Option.bind_eq_some_iff.1 h
   obtain ⟨q,hq,h⟩:=Option.bind_eq_some_iff.1 h
   obtain ⟨⟨c,v,u⟩,hr,h⟩:=Option.bind_eq_some_iff.1 h
   cases hc:c with
   | false=>rw [hc] at h;cases h
   | true=>
    rw [hc] at h hr
    obtain ⟨s',W,g1,g2,g3⟩:=Ql h
    exact ⟨s',W,g1,fun k'=>by simp only [hn,hl,hm,hq,hr,Option.bind_some];exact g2 k',fun l hl _=>g3 l hl⟩
 case makeFunc fn first captured=>
  clear simple
  unfold Zp at h ⊢
  simp only [ho] at h ⊢
  cases fn<;>try (cases h;done)
  case func f=>
  cases hfirst:first.toList with
  | cons _ _=>simp only [hfirst] at h;cases h
  | nil=>
   simp only [hfirst] at h ⊢
   obtain ⟨⟨st2,lv⟩,hm,h⟩:=Option.bind_eq_some_iff.1 h
   obtain ⟨s,W,g1,g2,g3⟩:=Ql h
   refine ⟨s,W,g1,fun k'=>by rw [hm];exact g2 k',fun l hl hh=>?_⟩
   have hn:Q0 st.objs l=none:=by
    rcases hh with hh | hh
    ·unfold Jw at hh;rw [ho] at hh;cases hh
    ·exact hh
   rw [g3 l hl,hn]
   exact Q1j hm hn
 case call cl=>
  obtain ⟨callee,args,argTypes⟩:=cl
  cases callee with
  | invoke r m=>
   clear simple
   unfold Zp at h ⊢
   simp only [ho] at h ⊢
   split at h
   case h_2=>cases h
   case h_1 v hr=>
   obtain ⟨x,del,u,hfin,hall⟩:=Q92 h
   obtain ⟨s',W,g1,g2,g3⟩:=Ql hfin
   exact ⟨s',W,g1,fun k'=>by first | exact (hall _).trans (g2 k') | (simp only [hr];exact (hall _).trans (g2 k')),fun l hl _=>g3 l hl⟩
  | builtin b=>
   cases b<;>try (refine simple (fun k'=>?_);unfold Zp;rw [ho];done)
   case cap=>
    clear simple
    unfold Zp at h ⊢
    simp only [ho,Jl,X8] at h ⊢
    split at h
    case h_2=>cases h
    case h_1 x T ha ht=>
    obtain ⟨r,hr,h⟩:=Option.bind_eq_some_iff.1 h
    cases hq:(Q2h tab T r.eT r.e&&r.ex) with
    | false=>rw [hq] at h;cases h
    | true=>
     rw [hq] at h
     obtain ⟨s',W,g1,g2,g3⟩:=Ql h
     exact ⟨s',W,g1,fun k'=>by simp only [ha,ht,hr,Option.bind_some,hq,cond_true];exact g2 k',fun l hl _=>g3 l hl⟩
   case copy=>
    clear simple
    unfold Zp at h ⊢
    simp only [ho,Jl,X8] at h ⊢
    split at h
    case h_2=>cases h
    case h_1 x y T T' ha ht=>
    obtain ⟨r,hr,h⟩:=Option.bind_eq_some_iff.1 h
    cases hq:Q2h tab T r.eT r.e with
    | false=>rw [hq] at h;cases h
    | true=>
     rw [hq] at h
     obtain ⟨zs,hz,h⟩:=Option.bind_eq_some_iff.1 h
     obtain ⟨s',W,g1,g2,g3⟩:=Ql h
     exact ⟨s',W,g1,fun k'=>by simp only [ha,ht,hr,Option.bind_some,hq,cond_true,hz];exact g2 k',fun l hl _=>g3 l hl⟩
   case clear=>
    clear simple
    unfold Zp at h ⊢
    simp only [ho,Jl,X8] at h ⊢
    split at h
    case h_2=>cases h
    case h_1 x T ha ht=>
    obtain ⟨r,hr,h⟩:=Option.bind_eq_some_iff.1 h
    cases hq:Q2h tab T r.eT r.e with
    | false=>rw [hq] at h;cases h
    | true=>
     rw [hq] at h
     obtain ⟨s',W,g1,g2,g3⟩:=Ql h
     exact ⟨s',W,g1,fun k'=>by simp only [ha,ht,hr,Option.bind_some,hq,cond_true];exact g2 k',fun l hl _=>g3 l hl⟩
   case append=>
   clear simple
   unfold Zp at h ⊢
   simp only [ho,Jl,X8] at h ⊢
   split at h
   case h_2=>cases h
   case h_1 s x T T' ha ht=>
   split at h
   case h_1 l0 lo0 n0 sz0 hws=>
    obtain ⟨r,hr,h⟩:=Option.bind_eq_some_iff.1 h
    cases hq:(Q2h tab T r.eT r.e&&Nat.beq r.lo 0) with
    | false=>rw [hq] at h;cases h
    | true=>
     rw [hq] at h
     simp only [cond_true] at h
     split at h
     ·rename_i z hz
      cases hc:(z.1&&r.ex&&Nat.blt r.ys.length (r.n+z.2.length)&&Nat.ble (r.ys.length+z.2.length) 536870912) with
      | false=>rw [hc] at h;cases h
      | true=>
       rw [hc] at h
       obtain ⟨s',W,g1,g2,g3⟩:=Ql h
       refine ⟨s',W,g1,fun k'=>?_,fun l hl _=>g3 l hl⟩
       rw [← hws] at *
       simp only [ha,ht,hws,hr,Option.bind_some,hq,cond_true,hz,hc]
       exact g2 k'
     ·rename_i hz
      obtain ⟨zs,hzs,h⟩:=Option.bind_eq_some_iff.1 h
      cases hc:Nat.ble (r.n+zs.length) r.ys.length with
      | true=>
       rw [hc] at h
       obtain ⟨s',W,g1,g2,g3⟩:=Ql h
       refine ⟨s',W,g1,fun k'=>?_,fun l hl _=>g3 l hl⟩
       rw [← hws] at *
       simp only [ha,ht,hws,hr,Option.bind_some,hq,cond_true,hz,hzs,hc]
       exact g2 k'
      | false=>
       rw [hc] at h
       simp only [cond_false] at h
       cases hc2:(r.ex&&Nat.ble (r.n+zs.length) 1073741824) with
       | false=>rw [hc2] at h;cases h
       | true=>
        rw [hc2] at h
        obtain ⟨xs,hxs,h⟩:=Option.bind_eq_some_iff.1 h
        obtain ⟨s',W,g1,g2,g3⟩:=Ql h
        refine ⟨s',W,g1,fun k'=>?_,fun l hl _=>g3 l hl⟩
        rw [← hws] at *
        simp only [ha,ht,hws,hr,Option.bind_some,hq,cond_true,hz,hzs,hc,cond_false,hc2,hxs]
        exact g2 k'
   case h_2 hnw=>
   split at h
   case h_1 l0 lo0 n0 sz0 hwx=>
    obtain ⟨v,del,u,hfin,hall⟩:=Qb7 (o:=o) h
    obtain ⟨s',W,g1,g2,g3⟩:=Ql hfin
    refine ⟨s',W,g1,fun k'=>?_,fun l hl _=>g3 l hl⟩
    first | exact (hall _).trans (g2 k') | (simp only [ha,ht,hwx];exact (hall _).trans (g2 k')) | (simp only [ha,ht];exact (hall _).trans (g2 k'))
   case h_2 hnx=>
   obtain ⟨⟨c,v,del,u⟩,hr,h⟩:=Option.bind_eq_some_iff.1 h
   cases hc:c with
   | false=>rw [hc] at h;cases h
   | true=>
    rw [hc] at h hr
    obtain ⟨s',W,g1,g2,g3⟩:=Ql h
    exact ⟨s',W,g1,fun k'=>by simp only [ha,ht,hr,Option.bind_some];exact g2 k',fun l hl _=>g3 l hl⟩
  | value f=>
   clear simple
   unfold Zp at h ⊢
   simp only [ho] at h ⊢
   split at h
   case h_3=>cases h
   case h_1 g hf=>
    split at h
    ·rename_i e heg
     obtain ⟨v,del,u,hfin,hall⟩:=Q8d h
     obtain ⟨s',W,g1,g2,g3⟩:=Ql hfin
     exact ⟨s',W,g1,fun k'=>by first | exact (hall _).trans (g2 k') | (simp only [hf,heg];exact (hall _).trans (g2 k')),fun l hl _=>g3 l hl⟩
    ·rename_i heg
     cases hel:Qeo tab (Q0 st.objs) g (args.toList.map (Qb st.slots)) with
     | some z=>
      rw [hel] at h
      simp only at h
      cases hz:z.1 with
      | true=>
       rw [hz] at h
       obtain ⟨s',W,g1,g2,g3⟩:=Ql h
       exact ⟨s',W,g1,fun k'=>by simp only [hf,heg,hel,hz];exact g2 k',fun l hl _=>g3 l hl⟩
      | false=>
       rw [hz] at h
       obtain ⟨s',W,g1,g2,g3⟩:=Ql h
       exact ⟨s',W,g1,fun k'=>by simp only [hf,heg,hel,hz];exact g2 k',fun l hl _=>g3 l hl⟩
     | none=>
     rw [hel] at h
     obtain ⟨q,hov,h⟩:=Option.bind_eq_some_iff.1 h
     obtain ⟨s',W,g1,g2,g3⟩:=Ql h
     exact ⟨s',W,g1,fun k'=>by simp only [hf,heg,hel,hov,Option.bind_some];exact g2 k',fun l hl _=>g3 l hl⟩
   case h_2 ps rs g hf=>
    obtain ⟨⟨x,rd⟩,hx,h⟩:=Option.bind_eq_some_iff.1 h
    cases hq:rd.all (Q0g (Q0 st.objs)) with
    | false=>simp only [hq] at h;cases h
    | true=>
     simp only [hq,cond_true] at h
     obtain ⟨r,hr,h⟩:=Option.bind_eq_some_iff.1 h
     obtain ⟨s',W,g1,g2,g3⟩:=Ql h
     exact ⟨s',W,g1,fun k'=>by simp only [hf,hx,Option.bind_some,hq,cond_true,hr];exact g2 k',fun l hl _=>g3 l hl⟩
theorem Q3l {m:Lab}:∀ {ls:List Lab} {st st':St},Q1o st ls=some st'→Q0 st.objs m=none→Q0 st'.objs m=none
 | [],st,st',h,hm=>by have:=Option.some.inj h;subst this;exact hm
 | l::r,st,st',h,hm=>by
  unfold Q1o at h
  split at h
  ·obtain ⟨s,hs,h⟩:=Option.bind_eq_some_iff.1 h
   refine Q3l h ?_
   unfold PE.frz at hs
   split at hs
   ·rename_i eT e xs _
    have hs:=Option.some.inj hs
    subst hs
    have e1:Q0 ((Jr st.objs l).map fun p=>(p.1,Q0a (Q42 l (.pure (.sl eT e) xs)) p.2)) m=(Q0 (Jr st.objs l) m).map (Q0a (Q42 l (.pure (.sl eT e) xs))):=Q2z _ _ _
    show Q0 ((Jr st.objs l).map fun p=>(p.1,Q0a (Q42 l (.pure (.sl eT e) xs)) p.2)) m=none
    rw [e1,Zw,hm]
    split<;>rfl
   ·cases hs
  ·exact Q3l h hm
theorem Q9p:∀ {ls:List Lab} {st st':St},Q1o st ls=some st'→Qgn st ls=false→st'=st
 | [],st,st',h,_=>(Option.some.inj h).symm
 | l::r,st,st',h,hf=>by
  unfold Qgn at hf
  rw [List.any_cons,Bool.or_eq_false_iff] at hf
  unfold Q1o at h
  split at h
  ·rename_i h1
   rw [h1] at hf
   cases hf.1
  ·exact Q9p h hf.2
theorem Q84 {o:List (Lab × Ob)} {l:Lab} (h:l ∉ o.map (·.1)):Q0 o l=none:=by
 cases ho:Q0 o l with
 | none=>rfl
 | some ob=>exact absurd (List.mem_map.2 ⟨(l,ob),Zn ho,rfl⟩) h
theorem Qfx {Γ:Ctx} {kn:List (Nat × Bool)} {o:Oper} {R:Type} {k:St→List Lab→Option R} {res:R} (h:Q41 Γ tab kn st o k=some res) :
  ∃ s W,k s W=some res∧(∀ {R':Type} (k':St→List Lab→Option R'),Q41 Γ tab kn st o k'=k' s W)∧∀ l,l ∉ W→Q0 s.objs l=Q0 st.objs l:=by
 unfold Q41 at h
 obtain ⟨st1,hz,h⟩:=Option.bind_eq_some_iff.1 h
 obtain ⟨s,W,g1,g2,g3⟩:=Qda h
 refine ⟨s,_,g1,fun k'=>by unfold Q41;rw [hz];exact g2 _,fun l hl=>?_⟩
 have hl2:l ∉ W:=fun hx=>hl (List.mem_append.2 (.inr hx))
 cases hq:(Qgn st (Q6x Γ (Q0 st.objs) (Qb st.slots) o)||Jw o) with
 | true=>
  rw [hq] at hl
  have hk:Q0 st.objs l=none:=Q84 (fun hx=>hl (List.mem_append.2 (.inl hx)))
  have h1:=Q3l hz hk
  rw [g3 l hl2 (.inr h1),h1,hk]
 | false=>
  rw [Bool.or_eq_false_iff] at hq
  have:=Q9p hz hq.1
  subst this
  exact g3 l hl2 (.inl hq.2)
theorem Qd1 {Γ:Ctx} (hΓ:Jc tab.ty P Γ) (hTab:Qc P tab) {o:Oper} {s:St} {W:List Lab} (hall:∀ {R':Type} (k':St→List Lab→Option R'),Q41 Γ tab [] st o k'=k' s W) :
  ∀ {N:NN} {w0:World} {F:FF} {S:Nat→Prop} {β:Lab→Value} {a:Act} {w:World},Rel P tab.ty N w0 F S β st a w→(∀ d,o.dst=some d→okD N d) →
  ∀ (Q:Exit→Act→World→Prop) (K:Act→World→Prop),
   (∀ x w' S' β',(∀ k,S k→S' k)→(∀ l:Lab,l.1≠o.dst.getD 999999999→β' l=β l)→Rel P tab.ty N w0 F S' β' s (a.put o.dst x) w'→K (a.put o.dst x) w')→o.wp P a w K Q:=by
 intro N w0 F S β a w h hd Q K hK
 have he:Q41 Γ tab [] st o (fun s W=>some s)=some s:=hall _
 refine Q7b hΓ hTab (fun t b ht=>by cases ht) h hd he Q K (fun x w' S' β' s' W' h1 h2 h3 h4=>?_)
 have:=Option.some.inj h4
 subst this
 exact hK x w' S' β' h1 h2 h3
theorem Qd7 {τ:TypeId→Option Ty} {sl:Nat→SV} {ob:Lab→Option Ob} (h:Qan P τ N w0 F S β sl ob a w) {sub s:St} {ls:List Lab} {o:Oper}
  (hsl:∀ t,Q9 sub.slots t=.dead∨Q9 sub.slots t=sl t) (hob:∀ l,Q0 sub.objs l=if l∈ls then ob l else none)
  (hf1:∀ t,∀ l∈Qe (sl t),l.1≠o.dst.getD 999999999) (hf2:∀ l x,ob l=some x→l.1≠o.dst.getD 999999999∧∀ m∈Z0 x,m.1≠o.dst.getD 999999999)
  (hloc:∀ {w0:World} {F:FF} {S:Nat→Prop} {β:Lab→Value} {a:Act} {w:World},Rel P τ N w0 F S β sub a w→∀ (Q:Exit→Act→World→Prop) (K:Act→World→Prop),
   (∀ x w' S' β',(∀ k,S k→S' k)→(∀ l:Lab,l.1≠o.dst.getD 999999999→β' l=β l)→Rel P τ N w0 F S' β' s (a.put o.dst x) w'→K (a.put o.dst x) w')→o.wp P a w K Q)
  (hs:∀ l x,Q0 s.objs l=some x→l∈ls∨o.dst=some l.1) (Q:Exit→Act→World→Prop) (K:Act→World→Prop)
  (hK:∀ x w' S' β',(∀ k,S k→S' k)→Qan P τ N w0 F S' β' (fun t=>if o.dst=some t then Q9 s.slots t else sl t) (fun l=>if l∈ls∨o.dst=some l.1 then Q0 s.objs l else ob l) (a.put o.dst x) w'→K (a.put o.dst x) w'):o.wp P a w K Q:=by
 have h0:Rel P τ N w (fun k=>∃ l∈ls,∃ x,ob l=some x∧blk (β l)=some k,S) S β sub a w:=by
  have look:∀ l x,Q0 sub.objs l=some x→l∈ls∧ob l=some x:=fun l x hl=>by
   rw [hob] at hl
   split at hl
   ·rename_i hm;exact ⟨hm,hl⟩
   ·cases hl
  refine ⟨h.sb,fun t=>?_,fun l x hl=>h.objs l x (look l x hl).2,fun l x hl b hb=>?_,fun l l' x x' hl hl'=>h.dist l l' x x' (look l x hl).2 (look l' x' hl').2,Fr.refl _ w,h.size,h.nodef,fun k hk=>.inl hk,h.par⟩
  ·rcases hsl t with e | e
   ·rw [e];trivial
   ·rw [e];exact h.slots t
  ·obtain ⟨e1,_,e3⟩:=h.excl l x (look l x hl).2 b hb
   exact ⟨e1,.inr ⟨l,(look l x hl).1,x,(look l x hl).2,hb⟩,e3⟩
 refine hloc h0 Q K (fun x w' S' β' hS hβ h'=>hK x w' S' β' hS ?_)
 have hblk:∀ k,k<w.heap.size→¬ (∃ l∈ls,∃ x,ob l=some x∧blk (β l)=some k)→w'.heap[k]?=w.heap[k]?:=fun k hk hn=>h'.fr.block hk hn
 have hSk:∀ k,S k→k<w.heap.size→w'.heap[k]?=w.heap[k]?:=fun k hs hk=>hblk k hk (fun ⟨l,_,y,hy,hb⟩=>(h.excl l y hy k hb).1 hs)
 have cases':∀ l y,(if l∈ls∨o.dst=some l.1 then Q0 s.objs l else ob l)=some y→Q0 s.objs l=some y∧(l∈ls∨o.dst=some l.1)∨(l ∉ ls∧ob l=some y∧β' l=β l):=fun l y hl=>by
  split at hl
  ·rename_i hc;exact .inl ⟨hl,hc⟩
  ·rename_i hc
   exact .inr ⟨fun hm=>hc (.inl hm),hl,hβ l (hf2 l y hl).1⟩
 have own:∀ l y,Q0 s.objs l=some y→∀ b,blk (β' l)=some b→w.heap.size≤b∨∃ m∈ls,∃ z,ob m=some z∧blk (β m)=some b:=fun l y hl b hb=>(h'.excl l y hl b hb).2.1
 refine ⟨h'.sb,fun t=>?_,fun l y hl=>?_,fun l y hl b hb=>?_,fun l l' y y' hl hl' hne b hb hb'=>?_,?_,h'.size,h'.nodef,fun k hk=>?_,h'.par⟩
 ·show Qf P τ S' β' w' (if o.dst=some t then Q9 s.slots t else sl t) _
  split
  ·exact h'.slots t
  ·rename_i hne
   have e:(a.put o.dst x).tmps.getD t undef=a.tmps.getD t undef:=by
    cases hd:o.dst with
    | none=>rfl
    | some d=>
     have hdt:d≠t:=fun e=>hne (by rw [hd,e])
     simp only [Act.put,Array.getD_eq_getD_getElem?,Array.getElem?_setIfInBounds]
     rw [if_neg hdt]
   rw [e]
   exact (h.slots t).frame hS h'.fr.size hSk h.sb (fun l hl=>hβ l (hf1 t l hl))
 ·rcases cases' l y hl with ⟨hl,_⟩ | ⟨hn,hl,hb⟩
  ·exact h'.objs l y hl
  ·rw [hb]
   refine (h.objs l y hl).frame hS h'.fr.size hSk h.sb (fun m hm=>hβ m ((hf2 l y hl).2 m hm)) (fun b hbl=>hblk b (h.excl l y hl b hbl).2.2 ?_)
   rintro ⟨m,hm,z,hz,hbm⟩
   exact h.dist l m y z hl hz (fun e=>hn (e▸hm)) b hbl hbm
 ·rcases cases' l y hl with ⟨hl,_⟩ | ⟨hn,hl,hbe⟩
  ·obtain ⟨e1,e2,e3⟩:=h'.excl l y hl b hb
   refine ⟨e1,?_,e3⟩
   rcases e2 with e2 | ⟨m,_,z,hz,hbm⟩
   ·exact .inl (Nat.le_trans h.fr.size e2)
   ·exact (h.excl m z hz b hbm).2.1
  ·rw [hbe] at hb
   obtain ⟨e1,e2,e3⟩:=h.excl l y hl b hb
   refine ⟨fun hs'=>?_,e2,Nat.lt_of_lt_of_le e3 h'.fr.size⟩
   rcases h'.within b hs' with h1 | h1 | ⟨m,hm,z,hz,hbm⟩
   ·exact e1 h1
   ·omega
   ·exact h.dist l m y z hl hz (fun e=>hn (e▸hm)) b hb hbm
 ·rcases cases' l y hl with ⟨hl1,_⟩ | ⟨hn,hl1,hbe⟩
  ·rcases cases' l' y' hl' with ⟨hl2,_⟩ | ⟨hn2,hl2,hbe2⟩
   ·exact h'.dist l l' y y' hl1 hl2 hne b hb hb'
   ·rw [hbe2] at hb'
    have:=(h.excl l' y' hl2 b hb').2.2
    rcases own l y hl1 b hb with h1 | ⟨m,hm,z,hz,hbm⟩
    ·omega
    ·exact h.dist l' m y' z hl2 hz (fun e=>hn2 (e▸hm)) b hb' hbm
  ·rw [hbe] at hb
   rcases cases' l' y' hl' with ⟨hl2,_⟩ | ⟨hn2,hl2,hbe2⟩
   ·have:=(h.excl l y hl1 b hb).2.2
    rcases own l' y' hl2 b hb' with h1 | ⟨m,hm,z,hz,hbm⟩
    ·omega
    ·exact h.dist l m y z hl1 hz (fun e=>hn (e▸hm)) b hb hbm
   ·rw [hbe2] at hb'
    exact h.dist l l' y y' hl1 hl2 hne b hb hb'
 ·refine h.fr.trans' h'.fr (fun i hi hx=>?_)
  obtain ⟨m,_,z,hz,hbm⟩:=hx
  rcases (h.excl m z hz i hbm).2.1 with h1 | h1
  ·omega
  ·exact h1
 ·rcases h'.within k hk with h1 | h1 | ⟨m,_,z,hz,hbm⟩
  ·exact h.within k h1
  ·exact .inr (.inl (Nat.le_trans h.fr.size h1))
  ·exact .inr (h.excl m z hz k hbm).2.1
end
end Go.PE
set_option linter.unusedVariables false
set_option linter.unusedSimpArgs false
namespace Go.PE
structure En where
 o:Oper
 act:Bool
 ls:List Lab
 W:List Lab
 sub:St
 s:St
def En.v (e:En):SV:=match e.act,e.o.dst with
 | true,some d=>Q9 e.s.slots d
 | _,_=>.skip
def En.putSl (e:En) (f:Nat→SV) (t:Nat):SV:=if e.o.dst=some t then e.v else f t
def En.putOb (e:En) (f:Lab→Option Ob) (l:Lab):Option Ob:=if e.act=true∧l∈e.W then Q0 e.s.objs l else f l
def Zb (D:Nat→Bool):Nat→List En→(Nat→SV)→Nat→SV
 | _,[],f=>f
 | i,e::r,f=>Zb D (i+1) r (if D i=true then e.putSl f else f)
def Z9 (D:Nat→Bool):Nat→List En→(Lab→Option Ob)→Lab→Option Ob
 | _,[],f=>f
 | i,e::r,f=>Z9 D (i+1) r (if D i=true then e.putOb f else f)
theorem Ja {D D':Nat→Bool} {t:Nat}:∀ {es:List En} {i:Nat} {f f':Nat→SV},f t=f' t→(∀ j e,es[j]?=some e→e.o.dst=some t→D (i+j)=D' (i+j))→Zb D i es f t=Zb D' i es f' t
 | [],i,f,f',h,_=>h
 | e::r,i,f,f',h,hd=>by
  simp only [Zb]
  refine Ja ?_ (fun j e' hj hdj=>by have:=hd (j+1) e' (by simpa using hj) hdj;rw [show i+(j+1)=i+1+j by omega] at this;exact this)
  by_cases hdt:e.o.dst=some t
  ·have:=hd 0 e rfl hdt
   rw [Nat.add_zero] at this
   rw [this]
   split
   ·simp [En.putSl,hdt]
   ·exact h
  ·have e1:∀ g:Nat→SV,e.putSl g t=g t:=fun g=>by simp [En.putSl,hdt]
   split<;>split<;>simp only [e1,h]
theorem X4 {D D':Nat→Bool} {l:Lab}:∀ {es:List En} {i:Nat} {f f':Lab→Option Ob},f l=f' l→(∀ j e,es[j]?=some e→e.act=true→l∈e.W→D (i+j)=D' (i+j))→Z9 D i es f l=Z9 D' i es f' l
 | [],i,f,f',h,_=>h
 | e::r,i,f,f',h,hd=>by
  simp only [Z9]
  refine X4 ?_ (fun j e' hj h1 h2=>by have:=hd (j+1) e' (by simpa using hj) h1 h2;rw [show i+(j+1)=i+1+j by omega] at this;exact this)
  by_cases hdt:e.act=true∧l∈e.W
  ·have:=hd 0 e rfl hdt.1 hdt.2
   rw [Nat.add_zero] at this
   rw [this]
   split
   ·simp [En.putOb,hdt]
   ·exact h
  ·have e1:∀ g:Lab→Option Ob,e.putOb g l=g l:=fun g=>by simp [En.putOb,hdt]
   split<;>split<;>simp only [e1,h]
theorem Q9k {D:Nat→Bool} {t:Nat}:∀ {es:List En} {i j:Nat} {f:Nat→SV} {e:En},es[j]?=some e→e.o.dst=some t→D (i+j)=true→(∀ k e',es[k]?=some e'→e'.o.dst=some t→j<k→D (i+k)=false)→Zb D i es f t=e.v
 | [],i,j,f,e,hj,_,_,_=>by simp at hj
 | x::r,i,0,f,e,hj,hd,hD,hk=>by
  simp at hj
  subst hj
  rw [Nat.add_zero] at hD
  simp only [Zb,hD,if_true]
  have e1:Zb D (i+1) r (x.putSl f) t=Zb (fun _=>false) (i+1) r (x.putSl f) t:=Ja rfl (fun k e' hke hde=>by
   have:=hk (k+1) e' (by simpa using hke) hde (by omega)
   rw [show i+(k+1)=i+1+k by omega] at this
   exact this)
  rw [e1]
  have e2:∀ (es:List En) (i:Nat) (f:Nat→SV),Zb (fun _=>false) i es f=f:=by
   intro es
   induction es with
   | nil=>intro i f;rfl
   | cons y q ih=>intro i f;simp [Zb,ih]
  rw [e2]
  simp [En.putSl,hd]
 | x::r,i,j+1,f,e,hj,hd,hD,hk=>by
  simp only [Zb]
  refine Q9k (j:=j) (by simpa using hj) hd (by rw [show i+1+j=i+(j+1) by omega];exact hD) (fun k e' hke hde hlt=>?_)
  have:=hk (k+1) e' (by simpa using hke) hde (by omega)
  rw [show i+(k+1)=i+1+k by omega] at this
  exact this
theorem Q95 {D:Nat→Bool} {l:Lab}:∀ {es:List En} {i j:Nat} {f:Lab→Option Ob} {e:En},es[j]?=some e→e.act=true→l∈e.W→D (i+j)=true→(∀ k e',es[k]?=some e'→e'.act=true→l∈e'.W→j<k→D (i+k)=false) →
  Z9 D i es f l=Q0 e.s.objs l
 | [],i,j,f,e,hj,_,_,_,_=>by simp at hj
 | x::r,i,0,f,e,hj,hd,hW,hD,hk=>by
  simp at hj
  subst hj
  rw [Nat.add_zero] at hD
  simp only [Z9,hD,if_true]
  have e1:Z9 D (i+1) r (x.putOb f) l=Z9 (fun _=>false) (i+1) r (x.putOb f) l:=X4 rfl (fun k e' hke h1 h2=>by
   have:=hk (k+1) e' (by simpa using hke) h1 h2 (by omega)
   rw [show i+(k+1)=i+1+k by omega] at this
   exact this)
  rw [e1]
  have e2:∀ (es:List En) (i:Nat) (f:Lab→Option Ob),Z9 (fun _=>false) i es f=f:=by
   intro es
   induction es with
   | nil=>intro i f;rfl
   | cons y q ih=>intro i f;simp [Z9,ih]
  rw [e2]
  simp [En.putOb,hd,hW]
 | x::r,i,j+1,f,e,hj,hd,hW,hD,hk=>by
  simp only [Z9]
  refine Q95 (j:=j) (by simpa using hj) hd hW (by rw [show i+1+j=i+(j+1) by omega];exact hD) (fun k e' hke h1 h2 hlt=>?_)
  have:=hk (k+1) e' (by simpa using hke) h1 h2 (by omega)
  rw [show i+(k+1)=i+1+k by omega] at this
  exact this
theorem Q34 (D:Nat→Bool):∀ (a b:List En) (i:Nat) (f:Nat→SV),Zb D i (a++b) f=Zb D (i+a.length) b (Zb D i a f)
 | [],b,i,f=>by simp [Zb]
 | e::r,b,i,f=>by simp only [List.cons_append,Zb,List.length_cons];rw [Q34 D r b];congr 1;omega
theorem Q2x (D:Nat→Bool):∀ (a b:List En) (i:Nat) (f:Lab→Option Ob),Z9 D i (a++b) f=Z9 D (i+a.length) b (Z9 D i a f)
 | [],b,i,f=>by simp [Z9]
 | e::r,b,i,f=>by simp only [List.cons_append,Z9,List.length_cons];rw [Q2x D r b];congr 1;omega
theorem Qd4 (ep er:List En) (f:Nat→SV) (t:Nat):Zb (fun i=>decide (i<ep.length)) 0 (ep++er) f t=Zb (fun _=>true) 0 ep f t:=by
 have h1:Zb (fun i=>decide (i<ep.length)) 0 (ep++er) f t=Zb (fun _=>true) 0 (ep++er) f t∨True:=.inr trivial
 rw [Q34]
 have e2:∀ g:Nat→SV,Zb (fun i=>decide (i<ep.length)) (0+ep.length) er g t=g t:=by
  intro g
  have:Zb (fun i=>decide (i<ep.length)) (0+ep.length) er g t=Zb (fun _=>false) (0+ep.length) er g t:=Ja rfl (fun j e _ _=>by simp)
  rw [this]
  have e3:∀ (es:List En) (i:Nat) (f:Nat→SV),Zb (fun _=>false) i es f=f:=by
   intro es
   induction es with
   | nil=>intro i f;rfl
   | cons y q ih=>intro i f;simp [Zb,ih]
  rw [e3]
 rw [e2]
 refine Ja rfl (fun j e hj _=>?_)
 have:j<ep.length:=(List.getElem?_eq_some_iff.1 hj).1
 simp [this]
theorem Qcy (ep er:List En) (f:Lab→Option Ob) (l:Lab):Z9 (fun i=>decide (i<ep.length)) 0 (ep++er) f l=Z9 (fun _=>true) 0 ep f l:=by
 rw [Q2x]
 have e2:∀ g:Lab→Option Ob,Z9 (fun i=>decide (i<ep.length)) (0+ep.length) er g l=g l:=by
  intro g
  have:Z9 (fun i=>decide (i<ep.length)) (0+ep.length) er g l=Z9 (fun _=>false) (0+ep.length) er g l:=X4 rfl (fun j e _ _ _=>by simp)
  rw [this]
  have e3:∀ (es:List En) (i:Nat) (f:Lab→Option Ob),Z9 (fun _=>false) i es f=f:=by
   intro es
   induction es with
   | nil=>intro i f;rfl
   | cons y q ih=>intro i f;simp [Z9,ih]
  rw [e3]
 rw [e2]
 refine X4 rfl (fun j e hj _ _=>?_)
 have:j<ep.length:=(List.getElem?_eq_some_iff.1 hj).1
 simp [this]
section
variable {P:Program} {tab:Tab} {N:NN}
def Q0o (all:List Oper) (sl:Nat→SV) (o:Oper) (go:Bool):Prop:=
 match o.guard with
 | none=>go=true
 | some (g,want)=>∃ t,(all[g]?).bind (·.dst)=some t∧((sl t=.skip∧go=false)∨∃ b,sl t=.cv (.one (.lit b))∧go=(b==want))
def Qja (P:Program) (tab:Tab) (N:NN) (e:En):Prop:=∀ {w0:World} {F:FF} {S:Nat→Prop} {β:Lab→Value} {a:Act} {w:World},Rel P tab.ty N w0 F S β e.sub a w →
 ∀ (Q:Exit→Act→World→Prop) (K:Act→World→Prop),(∀ x w' S' β',(∀ k,S k→S' k)→(∀ l:Lab,l.1≠e.o.dst.getD 999999999→β' l=β l)→Rel P tab.ty N w0 F S' β' e.s (a.put e.o.dst x) w'→K (a.put e.o.dst x) w')→e.o.wp P a w K Q
structure Qhe (P:Program) (tab:Tab) (N:NN) (bf:List Nat) (all:List Oper) (es:List En) (sl0:Nat→SV) (ob0:Lab→Option Ob) (j:Nat) (e:En):Prop where
 guard:Q0o all (Zb (fun i=>decide (i<j)) 0 es sl0) e.o e.act
 sl:e.act=true→∀ t,Q9 e.sub.slots t=.dead∨(t∈Xf all e.o∧Q9 e.sub.slots t=Zb (fun i=>decide (i<j)) 0 es sl0 t)
 ob:e.act=true→∀ l,Q0 e.sub.objs l=if l∈e.ls then Z9 (fun i=>decide (i<j)) 0 es ob0 l else none
 ls:e.act=true→∀ l∈e.ls,(∃ t∈Xf all e.o,l∈Qe (Zb (fun i=>decide (i<j)) 0 es sl0 t))∨∃ m x,m∈e.ls∧Z9 (fun i=>decide (i<j)) 0 es ob0 m=some x∧l∈Z0 x
 loc:e.act=true→Qja P tab N e
 keep:e.act=true→∀ l,l ∉ e.W→Q0 e.s.objs l=Q0 e.sub.objs l
 refs:e.act=true→(∀ l∈Qe e.v,((l∈e.ls∨e.o.dst=some l.1)∨∃ t∈Xf all e.o,l∈Qe (Zb (fun i=>decide (i<j)) 0 es sl0 t))∨∃ m x,m∈e.ls∧Z9 (fun i=>decide (i<j)) 0 es ob0 m=some x∧l∈Z0 x)∧(∀ l x,Q0 e.s.objs l=some x→(l∈e.ls∨e.o.dst=some l.1)∧∀ m∈Z0 x,(m∈e.ls∨e.o.dst=some m.1)∨∃ q y,q∈e.ls∧Z9 (fun i=>decide (i<j)) 0 es ob0 q=some y∧m∈Z0 y)∧∀ l∈e.W,l∈e.ls∨e.o.dst=some l.1
 tr:e.act=true→∀ i e',es[i]?=some e'→i<j→e'.act=true→Q03 bf i j=true∨((∀ l∈e'.W,l ∉ e.ls)∧(∀ l∈e'.W,l ∉ e.W)∧∀ l∈e.W,l ∉ e'.ls)
end
end Go.PE
