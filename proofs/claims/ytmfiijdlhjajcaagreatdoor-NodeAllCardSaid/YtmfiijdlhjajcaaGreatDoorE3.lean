/-
  The evaluator PE and its soundness, part 3.
  Conditions: none.
-/
import Derived.Lib.Overlaps
import Derived.Lib.AppendZerosOnto
import Derived.LoopN
import Derived.Orders
import Derived.Test.YtmfiijdlhjajcaaGreatDoorE2
set_option linter.unusedVariables false
set_option linter.unusedSimpArgs false
namespace Go.PE
section
variable {P:Program} {tab:Tab} {N:NN} {w0:World} {F:FF} {S:Nat→Prop} {β:Lab→Value} {st:St} {a:Act} {w:World}
theorem Q6p (h:Rel P tab.ty N w0 F S β st a w) {S':Nat→Prop} (hS:∀ k,S k→S' k):∀ {ts:List Ty} {svs:List SV} {vals:List Value} {x:Zj ts} {rd:List Lab},
  Q6y (Q0 st.objs) ts svs=some (x,rd)→Q15 P tab.ty S β w svs vals→(∀ l∈rd,∀ k,blk (β l)=some k→S' k)→Xs tab.ty S' w ts x vals
 | [],[],vals,x,rd,he,hv,hr=>hv
 | [],_::_,vals,x,rd,he,hv,hr=>by cases he
 | _::_,[],vals,x,rd,he,hv,hr=>by cases he
 | t::r,sv::q,vals,x,rd,he,hv,hr=>by
  cases sv<;>try (cases he;done)
  case cv c=>
  obtain ⟨v,vr,rfl,h1,h2⟩:=hv
  obtain ⟨y,hy,he⟩:=bE he
  obtain ⟨z,hz,he⟩:=bE he
  obtain ⟨e1,e2⟩:=Prod.mk.inj (sI he)
  subst e1;subst e2
  refine ⟨v,vr,rfl,(Q65 h.objs hy h1).mono (fun k hk=>?_),Q6p h hS hz h2 (fun l hl=>hr l (List.mem_append.2 (.inr hl)))⟩
  rcases hk with hk | ⟨l,hl,hk⟩
  ·exact hS k hk
  ·exact hr l (List.mem_append.2 (.inl hl)) k hk
theorem Q74:∀ {ts:List Ty} {x:Zj ts} {vs:List Value},Xs tab.ty S w ts x vs→Zu P tab.ty S β w (Qa2 ts x) vs
 | [],x,vs,h=>h
 | t::r,x,vs,h=>by obtain ⟨v,vr,rfl,h1,h2⟩:=h;exact ⟨v,vr,rfl,Q3k h1,Q74 h2⟩
theorem Qd2 {cs:List CV} {vs:List Value} (h:Zu P tab.ty S β w cs vs):Qf P tab.ty S β w (Qdy cs) (Q62 vs):=by
 have hl:=h.len
 match cs,vs,h with
 | [],[],h=>exact ⟨[],rfl,h⟩
 | [c],[v],h=>
  obtain ⟨v',vr,e,h1,_⟩:=h
  have:=List.cons.inj e
  rw [← this.1] at h1
  exact h1
 | c::c2::q,v::v2::r,h=>exact ⟨_,rfl,h⟩
 | [],_::_,h=>cases hl
 | [_],[],h=>cases hl
 | [_],_::_::_,h=>simp at hl
 | _::_::_,[],h=>cases hl
 | _::_::_,[_],h=>simp at hl
theorem Xs.flat {S':Nat→Prop} {w':World}:∀ {ts:List Ty} {x:Zj ts} {vs:List Value},(∀ t∈ts,t.flat=true)→Xs tab.ty S w ts x vs→Xs tab.ty S' w' ts x vs
 | [],x,vs,_,h=>h
 | t::r,x,vs,hf,h=>by
  obtain ⟨v,vr,rfl,h1,h2⟩:=h
  exact ⟨v,vr,rfl,h1.flat (hf t (List.mem_cons_self ..)),Xs.flat (fun t ht=>hf t (List.mem_cons_of_mem _ ht)) h2⟩
theorem Qfu (h:Rel P tab.ty N w0 F S β st a w) {o:Oper} {f:Operand} {args:Array Operand} {ts:Array TypeId} (ho:o.op=.call { callee:=.value f,args:=args,argTypes:=ts })
  {ps rs:List Ty} {g:Zj ps→Option (Zj rs)} (hf:Qb st.slots f=.cv (.one (.clo ps rs g))) {x:Zj ps} {rd:List Lab} (hx:Q6y (Q0 st.objs) ps (args.toList.map (Qb st.slots))=some (x,rd))
  (s:rd.all (Q0j (Q0 st.objs))=true) {r:Zj rs} (hr:g x=some r):Xe P tab N w0 F S β st a w o (Qdy (Qa2 rs r)) [] []:=by
 have j:=Q4 h f
 rw [hf] at j
 obtain ⟨n,u,cap,hv,q,hc⟩:=j
 have d:∀ l∈rd,∃ ob,Q0 st.objs l=some ob:=fun l hl=>Q32 (List.all_eq_true.1 s l hl)
 have b:∀ k,S k→(S k∨Q0b st β rd k):=fun k hk=>.inl hk
 have c:=Q6p h b hx (Q3r h args.toList) (fun l hl k hk=>by obtain ⟨ob,i⟩:=d l hl;exact .inr ⟨l,hl,ob,i,hk⟩)
 intro Q K hK
 refine Q52 ho hv q Q K ?_
 rw [show args.map a.eval=(args.toList.map a.eval).toArray by apply Array.ext';simp]
 refine Calls.mono (hc w _ x _ r b (Nat.le_refl _) (fun _ _ _=>rfl) (fun k hk=>hk.elim (h.sb k) (fun ⟨l,_,ob,i,hb⟩=>(h.excl l ob i k hb).2.2)) c hr) (fun ex w' d=>?_)
 obtain ⟨vs,rfl,t,p⟩:=d
 refine ⟨_,rfl,hK _ _ (fun st' m=>?_)⟩
 have e:Qs (delAll st []) (o.dst.getD 999999999) []=some st:=rfl
 rw [e] at m
 have:=sI m
 subst this
 exact ⟨S,β,fun _ hk=>hk,fun _ _=>rfl,h.grow' p,Qd2 (Q74 (t.flat n))⟩
theorem Qd1 {t:Ty} {v:LV} {x:t.den} {c:Value} (hd:Jp (fun _=>none) t v=some x) (hv:Qm P tab.ty S β w v c):Rep tab.ty S w t x [c]:=by
 have hr:=Q20 (st:={ slots:=[],objs:=[] }) (S:=S) (β:=β) (w:=w) (P:=P) (τ:=tab.ty) (fun l ob ho=>by cases ho) (t:=t) (v:=v) (x:=x) (c:=c) hd hv
 cases v
 case ref l=>cases hd
 all_goals exact hr.mono (fun k hk=>hk.elim id (fun ⟨l,hl,_⟩=>by cases hl))
theorem Q6c:∀ {vs ps:List LV} {cs:List Value},Q7b (fun _=>none) vs ps→Q5 P tab.ty S β w vs cs→Xf tab.ty S w ps cs
 | [],[],cs,_,h=>h
 | [],_::_,_,h,_=>h.elim
 | _::_,[],_,h,_=>h.elim
 | v::r,p::q,cs,hd,h=>by
  cases p<;>try exact hd.elim
  case pure t y=>
  obtain ⟨c,cr,rfl,h1,h2⟩:=h
  exact ⟨c,cr,rfl,Qd1 hd.1 h1,Q6c hd.2 h2⟩
def Qjm (t:Ty) (vs:List LV):Option t.den:=match Q1t (fun _=>none) t vs with | some (x,[])=>some x | _=>none
theorem Qbz {t:Ty} {vs:List LV} {x:t.den} {cs:List Value} (hd:Q14 (fun _=>none) t vs=some x) (hv:Q5 P tab.ty S β w vs cs):Rep tab.ty S w t x cs:=
 Q4i (Q6c (Q1x hd) hv)
theorem Rel.frzBox (h:Rel P tab.ty N w0 F S β st a w) {l:Lab} {T0:TypeId} {st':St} {t:Ty} {x:t.den} (hf:PE.frzBox st l T0 tab=some (st',⟨t,x⟩)) {v:Value} (hv:Qm P tab.ty S β w (.ptr l 0) v) :
  ∃ S',(∀ k,S k→S' k)∧Rel P tab.ty N w0 F S' β st' a w∧Ji tab.ty S' w t x v:=by
 unfold PE.frzBox at hf
 cases hol:Q0 st.objs l with
 | none=>rw [hol] at hf;cases hf
 | some ob=>
  rw [hol] at hf
  cases ob<;>try (cases hf;done)
  case box T' vs=>
  obtain ⟨t',ht,hf⟩:=bE hf
  obtain ⟨x',hx,hf⟩:=bE hf
  obtain ⟨e1,e2⟩:=Prod.mk.inj (sI hf)
  subst e1
  injection e2 with e3 e4
  subst e3
  have e4:=eq_of_heq e4
  subst e4
  obtain ⟨b,r,cs,hβ,hh,i⟩:=h.objs l _ hol
  have n:blk (β l)=some b:=by rw [hβ];rfl
  obtain ⟨g1,g2,g3⟩:=h.excl l _ hol b n
  have c:∀ k,S k→(S k∨k=b):=fun k hk=>.inl hk
  have q:Rep tab.ty S w t' x' cs.toList:=by
   refine Qbz (vs:=vs) (P:=P) (β:=β) ?_ i
   unfold Q14
   exact hx
  have o:∀ u,Qm P tab.ty S β w (.ptr l 0) u→Ji tab.ty (fun k=>S k∨k=b) w t' x' u:=by
   intro u hu
   obtain ⟨b',f,s⟩:=hu
   rw [hβ] at f
   simp only [Value.pointer.injEq,Option.some.injEq,Addr.mk.injEq] at f
   obtain ⟨rfl,_⟩:=f
   refine ⟨b,0,cs.toList,s,.inr rfl,g3,?_,q.mono c⟩
   intro j hj
   rw [cell_of_row w b _ cs r (0,0) hh]
   rw [Array.length_toList] at hj
   rw [Nat.zero_add,List.getD_eq_getElem?_getD,Array.getElem?_toList,Array.getElem?_eq_getElem hj]
   rfl
  refine ⟨fun k=>S k∨k=b,c,⟨?_,fun u=>?_,fun m ob hm=>?_,fun m ob hm k hk=>?_,fun m m' ob y hm d g=>?_,h.fr,h.size,h.nodef,?_,h.par⟩,o v hv⟩
  ·rintro k (hk | rfl)
   ·exact h.sb k hk
   ·exact g3
  ·have e1:Q9 (st.slots.map fun (p:Nat × SV)=>(p.1,Qfg l t' x' p.2)) u=Qfg l t' x' (Q9 st.slots u):=by
    refine Q89 (fun v=>Qfg l t' x' v) ?_ st.slots u
    rfl
   show Qf P tab.ty _ β w (Q9 (st.slots.map fun (p:Nat × SV)=>(p.1,Qfg l t' x' p.2)) u) _
   rw [e1]
   have hs:=h.slots u
   have keep:∀ v,Qf P tab.ty S β w v (a.tmps.getD u undef)→Qf P tab.ty (fun k=>S k∨k=b) β w v (a.tmps.getD u undef):=fun v hv=>
    hv.frame c (Nat.le_refl _) (fun _ _ _=>rfl) h.sb (fun _ _=>rfl)
   revert hs
   generalize Q9 st.slots u=sv
   intro hs
   unfold Qfg
   split
   ·rename_i m
    cases hm:Xh m l with
    | true=>
     have:=Zc.1 hm
     subst this
     exact o _ hs
    | false=>exact keep _ hs
   ·cases Xw l (Qe sv) with
    | true=>trivial
    | false=>exact keep _ hs
  ·simp only [Zw] at hm
   split at hm
   ·cases hm
   ·exact (h.objs m ob hm).frame c (Nat.le_refl _) (fun _ _ _=>rfl) h.sb (fun _ _=>rfl) (fun _ _=>rfl)
  ·simp only [Zw] at hm
   split at hm
   ·cases hm
   ·rename_i g
    obtain ⟨k1,k2,k3⟩:=h.excl m ob hm k hk
    refine ⟨fun hx=>?_,k2,k3⟩
    rcases hx with hx | rfl
    ·exact k1 hx
    ·exact h.dist m l ob _ hm hol (fun e=>g e.symm) k hk n
  ·simp only [Zw] at hm d
   split at hm
   ·cases hm
   ·split at d
    ·cases d
    ·exact h.dist m m' ob y hm d g
  ·rintro k (hk | rfl)
   ·exact h.within k hk
   ·exact .inr g2
def Q1s (τ:TypeId→Option Ty) (S:Nat→Prop) (w:World):(ts:List Ty)→Zj ts→List Value→Prop
 | [],_,cs=>cs=[]
 | t::r,y,cs=>∃ c cr,cs=c::cr∧Ji τ S w t y.1 c∧Q1s τ S w r y.2 cr
theorem Q1s.frame {τ:TypeId→Option Ty} {S S':Nat→Prop} {w w':World} (hS:∀ k,S k→S' k) (a:w.heap.size≤w'.heap.size) (hk:∀ k,S k→k<w.heap.size→w'.heap[k]?=w.heap[k]?) :
  ∀ {ts:List Ty} {y:Zj ts} {cs:List Value},Q1s τ S w ts y cs→Q1s τ S' w' ts y cs
 | [],y,cs,h=>h
 | t::r,y,cs,h=>by obtain ⟨c,cr,rfl,g1,g2⟩:=h;exact ⟨c,cr,rfl,Ji.frame hS a hk g1,Q1s.frame hS a hk g2⟩
def Q1q (p:PK):Bool:=match p with | .rbox _=>true | _=>false
theorem Qga {S:Nat→Prop}:∀ {ps:List PK} {x:Zj (Qt ps).1} {vals:List Value},ps.all Q1q=true→Xs tab.ty S w (Qt ps).1 x vals→vals=[]
 | [],x,vals,_,h=>h
 | .rbox t::r,x,vals,hs,h=>by
  simp only [List.all_cons,Bool.and_eq_true] at hs
  exact Qga (ps:=r) hs.2 h
 | .val t::r,x,vals,hs,h=>by simp [Q1q] at hs
 | .box _ _ _::r,x,vals,hs,h=>by simp [Q1q] at hs
 | .fn _ _::r,x,vals,hs,h=>by simp [Q1q] at hs
 | .own _ _::r,x,vals,hs,h=>by simp [Q1q] at hs
theorem Q48 {S:Nat→Prop}:∀ {ps:List PK} {x:Zj (Qt ps).1} {y:Zj (Qt ps).2} {z:PDs ps} {a:List Value},ps.all Q1q=true →
  Q7h ps x y=some z→Q1s tab.ty S w (Qt ps).2 y a→X5 tab.ty P S w ps z a []
 | [],x,y,z,a,hs,hj,hc=>⟨hc,rfl⟩
 | .rbox t::r,x,y,z,a,hs,hj,hc=>by
  obtain ⟨z',hz,hj⟩:=bE hj
  have:=sI hj
  subst this
  simp only [List.all_cons,Bool.and_eq_true] at hs
  obtain ⟨c,cr,rfl,h1,h2⟩:=hc
  exact ⟨c,cr,[],[],rfl,rfl,⟨h1,rfl⟩,Q48 hs.2 hz h2⟩
 | .val t::r,x,y,z,a,hs,hj,hc=>by simp [Q1q] at hs
 | .box _ _ _::r,x,y,z,a,hs,hj,hc=>by simp [Q1q] at hs
 | .fn _ _::r,x,y,z,a,hs,hj,hc=>by simp [Q1q] at hs
 | .own _ _::r,x,y,z,a,hs,hj,hc=>by simp [Q1q] at hs
theorem Q7j {S:Nat→Prop}:∀ {ps:List PK} {x:Zj (Qt ps).1} {y:Zj (Qt ps).2} {z:PDs ps} {vals a:List Value},Xk ps=true →
  Q7h ps x y=some z→Xs tab.ty S w (Qt ps).1 x vals→Q1s tab.ty S w (Qt ps).2 y a→X5 tab.ty P S w ps z (vals++a) []
 | [],x,y,z,vals,a,hs,hj,hv,hc=>by
  have hv:vals=[]:=hv
  subst hv
  exact ⟨hc,rfl⟩
 | .val t::r,x,y,z,vals,a,hs,hj,hv,hc=>by
  obtain ⟨z',hz,hj⟩:=bE hj
  have:=sI hj
  subst this
  obtain ⟨v,vr,rfl,h1,h2⟩:=hv
  exact ⟨v,vr++a,[],[],rfl,rfl,⟨h1,rfl⟩,Q7j (ps:=r) hs hz h2 hc⟩
 | .rbox t::r,x,y,z,vals,a,hs,hj,hv,hc=>by
  have b:=Qga (ps:=.rbox t::r) hs hv
  subst b
  exact Q48 (ps:=.rbox t::r) hs hj hc
 | .box _ _ _::r,x,y,z,vals,a,hs,hj,hv,hc=>by simp [Xk] at hs
 | .fn _ _::r,x,y,z,vals,a,hs,hj,hv,hc=>by simp [Xk] at hs
 | .own _ _::r,x,y,z,vals,a,hs,hj,hv,hc=>by simp [Xk] at hs
theorem Q4t.clo {f:FuncId} {e:Ent} (hG:Q4t tab.ty P f e) (hs:Xk e.ps=true) (hr:e.rs.all Q0i=true) {y:Zj (Qt e.ps).2} {a:List Value} (hc:Q1s tab.ty S w (Qt e.ps).2 y a) :
  Q3c tab.ty P S w (Qt e.ps).1 (e.rs.map (·.t)) (Qc0 e y (e.rs.map (·.t))) (.func (.func f) #[] a.toArray):=by
 refine ⟨fun t ht=>?_,f,a.toArray,rfl,hG.1,fun w' S' x vals r h1 h2 h3 h4 h5 h6=>?_⟩
 ·obtain ⟨k,hk,rfl⟩:=List.mem_map.1 ht
  have:=List.all_eq_true.1 hr k hk
  unfold Q0i at this
  simp only [Bool.and_eq_true] at this
  exact this.1
 ·unfold Qc0 at h6
  obtain ⟨z,hz,h6⟩:=bE h6
  obtain ⟨z2,h,h6⟩:=bE h6
  have c:Q1s tab.ty S' w' (Qt e.ps).2 y a:=hc.frame h1 h2 h3
  rw [show vals.toArray++a.toArray=(vals++a).toArray by simp]
  refine Calls.mono (hG.2 w' S' z (vals++a) [] z2 h4 (Q7j hs hz h5 c) List.nodup_nil (fun k hk=>by cases hk) h) (fun ex i d=>?_)
  obtain ⟨vs,S1,B1,B2,he,b,_,_,_,_,_,g⟩:=d
  exact ⟨vs,he,Q4l h6 hr b,g.mono (fun k hk=>by cases hk)⟩
end
end Go.PE
namespace Go.PE
section
variable {P:Program} {tab:Tab} {N:NN} {w0:World} {F:FF} {S:Nat→Prop} {β:Lab→Value} {st:St} {a:Act} {w:World}
theorem Qbd {α:Type} {ys:List (Option α)} {p:Nat} {zs:List α} (hp:p+zs.length≤ys.length) (i:Nat) :
  (Q6 ys p zs)[i]?=if p≤i∧i<p+zs.length then (zs[i - p]?).map some else ys[i]?:=by
 unfold Q6
 have h1:(ys.take p).length=p:=by rw [List.length_take];omega
 by_cases hi:i<p
 ·rw [if_neg (by omega),List.append_assoc,List.getElem?_append_left (by omega),List.getElem?_take,if_pos hi]
 ·by_cases hj:i<p+zs.length
  ·rw [if_pos ⟨by omega,hj⟩,List.append_assoc,List.getElem?_append_right (by omega),h1,List.getElem?_append_left (by rw [List.length_map];omega),List.getElem?_map]
  ·rw [if_neg (by omega),List.append_assoc,List.getElem?_append_right (by omega),h1,List.getElem?_append_right (by rw [List.length_map];omega),List.length_map,List.getElem?_drop]
   congr 1
   omega
theorem Q6j {α:Type} {ys:List (Option α)} {p:Nat} {zs:List α} (hp:p+zs.length≤ys.length):(Q6 ys p zs).length=ys.length:=by
 unfold Q6
 simp only [List.length_append,List.length_take,List.length_map,List.length_drop]
 omega
theorem Q8.write {τ:TypeId→Option Ty} {e:Ty} (g:0<e.cells) {ys:List (Option e.den)} {cs:List Value} {p:Nat} {zs:List e.den} {news:List Value} (h:Q8 τ S w e ys cs) (hn:Q1 τ S w e zs news) (hp:p+zs.length≤ys.length)
  (f:ys.length*e.cells≤cs.length):Q8 τ S w e (Q6 ys p zs) (cs.take (p*e.cells)++news++cs.drop (p*e.cells+news.length)):=by
 have hl:=hn.length
 have k:p*e.cells+news.length≤cs.length:=by
  rw [hl,← Nat.add_mul];exact Nat.le_trans (Nat.mul_le_mul_right _ hp) f
 intro i x hi
 rw [Qbd hp] at hi
 by_cases hq:p≤i∧i<p+zs.length
 ·rw [if_pos hq] at hi
  have a:i - p<zs.length:=by omega
  rw [List.getElem?_eq_getElem a] at hi
  have hx:zs.getD (i - p) e.dflt=x:=by
   rw [List.getD_eq_getElem?_getD,List.getElem?_eq_getElem a]
   exact sI (sI hi)
  have hr:=hn.elem (i - p) a
  rw [hx] at hr
  have hb:(i - p)*e.cells+e.cells≤news.length:=by
   rw [hl]
   have:=Nat.mul_le_mul_right e.cells (show i - p+1≤zs.length by omega)
   rw [Nat.add_mul,Nat.one_mul] at this
   exact this
  have e0:i*e.cells=p*e.cells+(i - p)*e.cells:=by rw [← Nat.add_mul];congr 1;omega
  have e1:(cs.take (p*e.cells)).length=p*e.cells:=by rw [List.length_take];omega
  have e2:((cs.take (p*e.cells)++news++cs.drop (p*e.cells+news.length)).drop (i*e.cells)).take e.cells=(news.drop ((i - p)*e.cells)).take e.cells:=by
   rw [e0,List.append_assoc,List.drop_append,List.drop_eq_nil_of_le (by omega),e1,Nat.add_sub_cancel_left,List.nil_append,List.drop_append_of_le_length (by omega),List.take_append_of_le_length (by rw [List.length_drop];omega)]
  rw [e2]
  exact hr
 ·rw [if_neg hq] at hi
  have hr:=h i x hi
  have j:i<ys.length:=by
   rcases Nat.lt_or_ge i ys.length with a | b
   ·exact a
   ·rw [List.getElem?_eq_none b] at hi;cases hi
  have hb:i*e.cells+e.cells≤cs.length:=by
   have:=Nat.mul_le_mul_right e.cells (show i+1≤ys.length by omega)
   rw [Nat.add_mul,Nat.one_mul] at this
   omega
  have e1:(cs.take (p*e.cells)).length=p*e.cells:=by rw [List.length_take];omega
  have e2:((cs.take (p*e.cells)++news++cs.drop (p*e.cells+news.length)).drop (i*e.cells)).take e.cells=(cs.drop (i*e.cells)).take e.cells:=by
   rcases Nat.lt_or_ge i p with a | b
   ·have d:i*e.cells+e.cells≤p*e.cells:=by
     have:=Nat.mul_le_mul_right e.cells (show i+1≤p by omega)
     rw [Nat.add_mul,Nat.one_mul] at this
     exact this
    rw [List.append_assoc,List.drop_append_of_le_length (by omega),List.take_append_of_le_length (by rw [List.length_drop];omega),List.drop_take,List.take_take,show min e.cells (p*e.cells - i*e.cells)=e.cells by omega]
   ·have c:p+zs.length≤i:=by omega
    have d:p*e.cells+news.length≤i*e.cells:=by rw [hl,← Nat.add_mul];exact Nat.mul_le_mul_right _ c
    rw [List.drop_append,List.drop_eq_nil_of_le (by rw [List.length_append];omega),List.nil_append,List.length_append,e1,List.drop_drop,show p*e.cells+news.length+(i*e.cells - (p*e.cells+news.length))=i*e.cells by omega]
  rw [e2]
  exact hr
theorem Q72 (h:Rel P tab.ty N w0 F S β st a w) {d:Nat} {l:Lab} {ob0 ob:Ob} (ho:Q0 st.objs l=some ob0) {w':World} (hf:Fr (fun k=>blk (β l)=some k) w w') (j:w'.heap.size=w.heap.size)
  (hob:∀ β':Lab→Value,β' l=β l→Z7 P tab.ty S β' w' ob (β l)) {v:SV} {x:Value} (hv:∀ β':Lab→Value,β' l=β l→Qf P tab.ty S β' w' v x) {st':St} (i:Qs st d [(l,ob)]=some st') :
  ∃ S' β',(∀ k,S k→S' k)∧(∀ m:Lab,m.1≠d→β' m=β m)∧Rel P tab.ty N w0 F S' β' st' a w'∧Qf P tab.ty S' β' w' v x:=by
 have hu:=Jj i
 have hl:l.1≠d:=fun e=>by
  have hg:Q0 [(l,ob)] l=some ob:=by rw [Q3,if_pos rfl]
  have:=(Z2 (hu.news l ob hg e)).1
  rw [Zq] at this
  split at this
  ·rename_i hm
   obtain ⟨p,hp,he⟩:=List.mem_map.1 hm
   have g:=(List.mem_filter.1 hp).2
   rw [he,Z6.2 e] at g
   cases g
  ·rw [ho] at this;cases this
 have n:Zh d [(l,ob)]=[(l,ob)]:=by unfold Zh;simp [Z1.2 hl]
 have c:Jl β d [(l,ob)] β l=β l:=Xi hl
 refine ⟨S,Jl β d [(l,ob)] β,fun _ x=>x,fun m hm=>Xi hm,?_,hv _ c⟩
 refine h.upd (del:=[]) i hf (fun k _ hx=>?_) (fun _ x=>x) (fun k hk=>.inl hk) (fun k hk=>by rw [j];exact h.sb k hk) β (fun m q hm=>?_)
 ·rw [n];exact ⟨l,by simp,ob0,ho,hx⟩
 ·rw [Q3] at hm
  split at hm
  ·rename_i e
   subst e
   have:=sI hm
   subst this
   rw [c]
   refine ⟨hob _ c,fun b hb=>?_⟩
   obtain ⟨g1,g2,g3⟩:=h.excl l ob0 ho b hb
   refine ⟨g1,.inr ⟨l,by rw [n];simp,ob0,ho,hb⟩,by rw [j];exact g3,fun m r o f=>?_⟩
   rw [Q3,if_neg (fun e=>o e.symm)] at f
   cases f
  ·cases hm
theorem Qfi (w:World) (g:Nat) (cs:Array Value):Fr (fun k=>k=g) w (w.setRow g cs):=
 ⟨rfl,rfl,rfl,by simp,fun k _ hk=>setRow_other w g k _ hk⟩
theorem Q9c (h:Rel P tab.ty N w0 F S β st a w) {l:Lab} {eT:TypeId} {e:Ty} {ys:List (Option e.den)} {n0:Nat} {ex:Bool} (ho:Q0 st.objs l=some (.mem eT e ys n0 ex)) {g:Nat} (hg:blk (β l)=some g)
  {p:Nat} {zs:List e.den} {news:List Value} (hn:Q1 tab.ty S w e zs news) (hp:p+zs.length≤ys.length) :
  ∃ b:Array Value,w.heap[g]?=some (.cells b eT (0,0))∧p*e.cells+news.length≤b.size ∧
   ∀ (w1:World),w1.heap=w.heap→w1.os=w.os→w1.tape=w.tape→w1.output=w.output →
   Fr (fun k=>blk (β l)=some k) w (w1.setRow g (b.toList.take (p*e.cells)++news++b.toList.drop (p*e.cells+news.length)).toArray) ∧
   (w1.setRow g (b.toList.take (p*e.cells)++news++b.toList.drop (p*e.cells+news.length)).toArray).heap.size=w.heap.size ∧
   ∀ β':Lab→Value,Z7 P tab.ty S β' (w1.setRow g (b.toList.take (p*e.cells)++news++b.toList.drop (p*e.cells+news.length)).toArray) (.mem eT e (Q6 ys p zs) n0 ex) (β l):=by
 obtain ⟨f,A,c,hv,h1,h2,h3,h4,h5⟩:=h.objs l _ ho
 have hl:=hn.length
 rw [hv] at hg
 rcases h5 with ⟨rfl,_⟩ | ⟨g',b,rfl,hh,i,hm⟩
 ·cases hg
 simp only [blk,Option.some.injEq] at hg
 subst hg
 have e0:b.toList.length=b.size:=by simp
 have m:ys.length*e.cells≤b.toList.length:=by rw [e0,i];exact Nat.mul_le_mul_right _ h1
 have j:p*e.cells+news.length≤b.size:=by
  have:=Nat.mul_le_mul_right e.cells hp
  rw [Nat.add_mul] at this
  omega
 refine ⟨b,hh,j,fun w1 e1 e2 e3 e4=>?_⟩
 have hs:(w1.setRow g' (b.toList.take (p*e.cells)++news++b.toList.drop (p*e.cells+news.length)).toArray).heap.size=w.heap.size:=by
  have:=(Qfi w1 g' (b.toList.take (p*e.cells)++news++b.toList.drop (p*e.cells+news.length)).toArray).size
  simp [World.setRow,e1]
 have d:∀ k,k≠g'→(w1.setRow g' (b.toList.take (p*e.cells)++news++b.toList.drop (p*e.cells+news.length)).toArray).heap[k]?=w.heap[k]?:=fun k hk=>by
  rw [setRow_other w1 g' k _ hk,e1]
 refine ⟨⟨e2,e3,e4,Nat.le_of_eq hs.symm,fun k _ hk=>d k (fun e=>hk (by rw [hv];simp [blk,e]))⟩,hs,fun β'=>?_⟩
 refine ⟨f,some ⟨g',0,none⟩,c,hv,by rw [Q6j hp];exact h1,h2,h3,fun hx=>by rw [Q6j hp];exact h4 hx,.inr ⟨g',_,rfl,setRow_heap w1 g' b _ eT _ (by rw [e1];exact hh),?_,?_⟩⟩
 ·rw [List.size_toArray,List.length_append,List.length_append,List.length_take,List.length_drop,Array.length_toList,← i]
  omega
 ·have n:¬ S g':=(h.excl l _ ho g' (by rw [hv];rfl)).1
  refine Q8.frame (w:=w) (fun _ x=>x) (Nat.le_of_eq hs.symm) (fun k hk _=>d k (fun e=>n (e▸hk))) ?_
  rw [List.toList_toArray]
  exact hm.write f hn hp m
end
end Go.PE
namespace Go.PE
section
variable {P:Program} {tab:Tab} {N:NN} {w0:World} {F:FF} {S:Nat→Prop} {β:Lab→Value} {st:St} {a:Act} {w:World}
theorem Q3v (a:Qc P tab) {T eT:TypeId} {e:Ty} (h:Q2l tab T eT e=true):P.underlying T=some (.slice eT)∧tab.ty eT=some e∧0<e.cells:=by
 unfold Q2l at h
 split at h
 case h_2=>cases h
 case h_1 eT' htd=>
 simp only [Bool.and_eq_true] at h
 obtain ⟨h1,h2⟩:=h
 have e1:=Nat.eq_of_beq_eq_true h1
 subst e1
 split at h2
 case h_2=>cases h2
 case h_1 e' hte=>
 have e2:=Ty.eq_of_beq h2
 subst e2
 exact ⟨a.td T _ htd,hte,a.pos T _ _ htd hte⟩
theorem Q7e {e:Ty} {g:Nat} {a:Array Value} {eT:TypeId} (hh:w.heap[g]?=some (.cells a eT (0,0))) {o:Nat} {news:List Value} (hn:news=(a.toList.drop o).take news.length) {j:Nat} {u:Value} (hu:news[j]?=some u) :
  w.cell? ((⟨g,o,none⟩:Addr).add j)=some u:=by
 rw [Zo,cell_of_row w g _ a eT (0,0) hh]
 rw [hn,List.getElem?_take] at hu
 split at hu
 ·rw [List.getElem?_drop,Array.getElem?_toList] at hu;exact hu
 ·cases hu
def Qjo (P:Program) (tab:Tab) (S:Nat→Prop) (w:World) (e:Ty) (zs:List e.den) (m:Nat) (v:Value):Prop:=
 ∃ A c news,v=.slice A m c∧zs.length≤m∧(A=none→zs.length=0)∧(∀ ad,A=some ad→∀ j u,news[j]?=some u→w.cell? (ad.add j)=some u)∧Q1 tab.ty S w e zs news
theorem Q1.takeq {τ:TypeId→Option Ty} {e:Ty}:∀ {zs:List e.den} {news:List Value} (q:Nat),Q1 τ S w e zs news→Q1 τ S w e (zs.take q) (news.take (q*e.cells))
 | zs,news,0,h=>by simp [Q1]
 | [],news,q+1,h=>by have h:news=[]:=h;subst h;simp [Q1]
 | z::r,news,q+1,h=>by
  obtain ⟨c,cr,rfl,h1,h2⟩:=h
  have h3:=Q1.takeq q h2
  refine ⟨c,_,?_,h1,h3⟩
  rw [Nat.add_mul,Nat.one_mul,Nat.add_comm,← h1.length,List.take_append,List.take_of_length_le (Nat.le_add_right ..),Nat.add_sub_cancel_left]
theorem Q6z (b:Qc P tab) (h:Rel P tab.ty N w0 F S β st a w) {eT:TypeId} {e:Ty} {T':TypeId} {q:Option Nat} {x:Operand} {zs:List e.den} (he:Qc4 tab (Q0 st.objs) eT e T' q (Qb st.slots x)=some zs) :
  ∃ m,Qjo P tab S w e zs m (a.eval x)∧zs.length=qn q m∧∃ eT',P.underlying T'=some (.slice eT'):=by
 have hx:=Q4 h x
 unfold Qc4 at he
 split at he
 case h_3=>cases he
 case h_1 l lo n sz hs=>
  rw [hs] at hx
  obtain ⟨A,G,c0,A',hβ,E,hv,hA⟩:=hx
  split at he
  case h_2=>cases he
  case h_1 eT' e' ys n0 ex ho=>
  cases hq:(Nat.beq eT eT'&&Nat.beq sz e'.cells&&Nat.ble (lo+n) ys.length&&Q8f tab T') with
  | false=>rw [hq] at he;cases he
  | true=>
   rw [hq] at he
   simp only [cond_true] at he
   simp only [Bool.and_eq_true] at hq
   have e1:=Nat.eq_of_beq_eq_true hq.1.1.1
   have e2:=Nat.eq_of_beq_eq_true hq.1.1.2
   have e3:=Q2.1 hq.1.2
   have hsl:∃ eT',P.underlying T'=some (.slice eT'):=by
    have:=hq.2
    unfold Q8f at this
    split at this
    ·rename_i o htd;exact ⟨o,b.td T' _ htd⟩
    ·cases this
   subst e1;subst e2
   obtain ⟨ws,hws,he⟩:=bE he
   obtain ⟨e4,e5⟩:=Z0 he
   injection e4 with _ e6
   subst e6
   have e5:ws=zs:=e5
   subst e5
   obtain ⟨y,A2,c,v,h1,h2,h3,h4,h5⟩:=h.objs l _ ho
   rw [v] at hβ
   injection hβ with g1 g2 g3
   subst g1;subst g2;subst g3
   have D:qn q n≤n:=by cases q with | none=>exact Nat.le_refl _ | some q=>exact Nat.min_le_right ..
   have r:=hws
   have s:=Q1i r (by omega)
   refine ⟨n,?_,s,hsl⟩
   rcases h5 with ⟨rfl,B⟩ | ⟨g,z,rfl,hh,C,hm⟩
   ·have hn:n=0:=by omega
    subst hn
    have p:ws=[]:=List.eq_nil_of_length_eq_zero (by omega)
    subst p
    exact ⟨A',_,[],hv,Nat.zero_le _,fun _=>rfl,fun _ _ j u hu=>by simp at hu,rfl⟩
   ·have f:=hm.slice r
    by_cases hz:ws.length=0
    ·have p:ws=[]:=List.eq_nil_of_length_eq_zero hz
     subst p
     exact ⟨A',_,[],hv,Nat.zero_le _,fun _=>rfl,fun _ _ j u hu=>by simp at hu,rfl⟩
    ·have i:=hA (.inl (by omega))
     simp only [Option.map_some] at i
     rw [Zo,Nat.zero_add] at i
     have t:=f.length
     refine ⟨A',_,_,hv,by omega,(fun hn=>by rw [i] at hn;cases hn),fun ad k j u hu=>?_,f⟩
     rw [i] at k
     have:=sI k
     subst this
     exact Q7e (e:=e') hh (by rw [t]) hu
 case h_2 lv hs=>
  rw [hs] at hx
  obtain ⟨ws,hws,he⟩:=bE he
  split at hws
  case h_2=>cases hws
  case h_1 o htd=>
  unfold Q75 at hws
  rw [htd] at hws
  simp only at hws
  cases hq:Nat.beq eT o with
  | false=>rw [hq] at hws;cases hws
  | true=>
   rw [hq] at hws
   have e1:=Nat.eq_of_beq_eq_true hq
   subst e1
   obtain ⟨A,c,news,hv,hA,d,f⟩:=Qg7 h (lv:=lv) hws hx
   have he:=sI he
   cases q with
   | none=>
    have he:ws=zs:=he
    subst he
    exact ⟨ws.length,⟨A,c,news,hv,Nat.le_refl _,hA,d,f⟩,rfl,_,b.td T' _ htd⟩
   | some q=>
    have he:ws.take q=zs:=he
    subst he
    refine ⟨ws.length,⟨A,c,_,hv,by rw [List.length_take];omega,(fun hn=>by rw [List.length_take,hA hn];omega),fun ad k j u hu=>?_,f.takeq q⟩,by rw [List.length_take];rfl,_,b.td T' _ htd⟩
    rw [List.getElem?_take] at hu
    split at hu
    ·exact d ad k j u hu
    ·cases hu
theorem Q4q {zs:List Value} {A:Option Addr} {m c k q:Nat} (hl:zs.length=q*k) (hA:A=none→zs.length=0) (hc:∀ ad,A=some ad→∀ j u,zs[j]?=some u→w.cell? (ad.add j)=some u) :
  (Builtin.firstCells k q (.slice A m c)).run P w=.ok zs.toArray w:=by
 cases A with
 | none=>
  have:=List.eq_nil_of_length_eq_zero (hA rfl)
  subst this
  exact run_firstCells_none w k q m c
 | some ad=>exact run_firstCells_some w k q ad m c zs hl (hc ad rfl)
theorem Q6e {α:Type} (ys:List (Option α)) (p:Nat):Q6 ys p ([]:List α)=ys:=by simp [Q6]
theorem Q41 (h:Rel P tab.ty N w0 F S β st a w) {x:Operand} {r:Q6w (Q0 st.objs)} (hr:Q80 (Q0 st.objs) (Qb st.slots x)=some r) :
  ∃ A c A',β r.l=.slice A r.n0 c∧r.lo+r.n≤r.ys.length∧r.ys.length≤c∧c≤maxLen∧(r.ex=true→c=r.ys.length)∧a.eval x=.slice A' r.n (c - r.lo)∧(r.lo<c∨r.lo=0→A'=A.map (·.add (r.lo*r.e.cells))) ∧
   ((A=none∧c=0)∨∃ g b,A=some ⟨g,0,none⟩∧w.heap[g]?=some (.cells b r.eT (0,0))∧b.size=c*r.e.cells∧Q8 tab.ty S w r.e r.ys b.toList):=by
 have hx:=Q4 h x
 unfold Q80 at hr
 split at hr
 case h_2=>cases hr
 case h_1 l lo n sz hs=>
 rw [hs] at hx
 split at hr
 case h_2=>cases hr
 case h_1 eT e ys n0 ex ho=>
 cases hq:(Nat.beq sz e.cells&&Nat.ble (lo+n) ys.length) with
 | false=>rw [hq] at hr;cases hr
 | true=>
  rw [hq] at hr
  have hr:=sI hr
  subst hr
  simp only [Bool.and_eq_true] at hq
  have e1:=Nat.eq_of_beq_eq_true hq.1
  have e2:=Q2.1 hq.2
  subst e1
  obtain ⟨A,j,c0,A',hβ,i,hv,hA⟩:=hx
  obtain ⟨f,A2,c,d,h1,h2,h3,h4,h5⟩:=h.objs l _ ho
  rw [d] at hβ
  injection hβ with g1 g2 g3
  subst g1;subst g2;subst g3
  exact ⟨A2,c,A',d,e2,h1,h3,h4,hv,hA,h5⟩
theorem Qcw {o:Oper} {b:Builtin} {s x:Operand} {args:Array Operand} {ts:Array TypeId} (ho:o.op=.call { callee:=.builtin b,args:=args,argTypes:=ts }) (ha:args.toList=[s,x]) {v':Value} {w':World}
  (hr:∀ cs,(builtin b ts o.type cs #[a.eval s,a.eval x]).run P w=.ok (.value v') w') (Q:Exit→Act→World→Prop) (K:Act→World→Prop) (hK:K (a.put o.dst v') w'):o.wp P a w K Q:=by
 have e1:=Q3l ha
 subst e1
 obtain ⟨cs,hc⟩:=Jt (P:=P) (a:=a) (w:=w) ho
 unfold Oper.wp
 rw [hc]
 have:(#[s,x]:Array Operand).map a.eval=#[a.eval s,a.eval x]:=by simp
 rw [this,hr]
 exact hK
theorem Q6m {o:Oper} {b:Builtin} {s:Operand} {args:Array Operand} {ts:Array TypeId} (ho:o.op=.call { callee:=.builtin b,args:=args,argTypes:=ts }) (ha:args.toList=[s]) {v':Value} {w':World}
  (hr:∀ cs,(builtin b ts o.type cs #[a.eval s]).run P w=.ok (.value v') w') (Q:Exit→Act→World→Prop) (K:Act→World→Prop) (hK:K (a.put o.dst v') w'):o.wp P a w K Q:=by
 have e1:=Qb3 ha
 subst e1
 obtain ⟨cs,hc⟩:=Jt (P:=P) (a:=a) (w:=w) ho
 unfold Oper.wp
 rw [hc]
 have:(#[s]:Array Operand).map a.eval=#[a.eval s]:=by simp
 rw [this,hr]
 exact hK
theorem Qei (B:Qc P tab) (h:Rel P tab.ty N w0 F S β st a w) {r:Q6w (Q0 st.objs)} {A:Option Addr} {c:Nat} {A':Option Addr} (hβ:β r.l=.slice A r.n0 c) (D:r.lo+r.n≤r.ys.length) (E:r.ys.length≤c)
  (hA:r.lo<c∨r.lo=0→A'=A.map (·.add (r.lo*r.e.cells)))
  (h5:(A=none∧c=0)∨∃ g d,A=some ⟨g,0,none⟩∧w.heap[g]?=some (.cells d r.eT (0,0))∧d.size=c*r.e.cells∧Q8 tab.ty S w r.e r.ys d.toList)
  {zs:List r.e.den} {news:List Value} (hn:Q1 tab.ty S w r.e zs news) (hz:zs.length≤r.n) (w1:World) (e1:w1.heap=w.heap) (e2:w1.os=w.os) (e3:w1.tape=w.tape) (e4:w1.output=w.output) :
  ∃ w2,(do if let some a:=A' then storeCells a news:Sem Unit).run P w1=.ok () w2∧Fr (fun k=>blk (β r.l)=some k) w w2∧w2.heap.size=w.heap.size ∧
   ∀ β':Lab→Value,Z7 P tab.ty S β' w2 (.mem r.eT r.e (Q6 r.ys r.lo zs) r.n0 r.ex) (β r.l):=by
 have hl:=hn.length
 have f:∀ β':Lab→Value,Z7 P tab.ty S β' w1 (.mem r.eT r.e r.ys r.n0 r.ex) (β r.l):=fun β'=>by
  have h0:Z7 P tab.ty S β' w (.mem r.eT r.e r.ys r.n0 r.ex) (β r.l):=h.objs r.l _ r.is
  exact h0.frame (fun _ x=>x) (Nat.le_of_eq (by rw [e1])) (fun k _ _=>by rw [e1]) h.sb (fun l hl=>by simp [Qz] at hl) (fun b _=>by rw [e1])
 have s:Fr (fun k=>blk (β r.l)=some k) w w1:=⟨e2,e3,e4,Nat.le_of_eq (by rw [e1]),fun k _ _=>by rw [e1]⟩
 by_cases v:zs.length=0
 ·have y:zs=[]:=List.eq_nil_of_length_eq_zero v
  subst y
  have hn:news=[]:=hn
  subst hn
  refine ⟨w1,?_,s,by rw [e1],fun β'=>by rw [Q6e];exact f β'⟩
  cases A' with
  | none=>rfl
  | some ad=>simp [storeCells]
 ·have t:r.lo<c:=by omega
  have i:=hA (.inl t)
  rcases h5 with ⟨_,hc⟩ | ⟨g,d,rfl,hh,C,hm⟩
  ·omega
  simp only [Option.map_some] at i
  rw [Zo,Nat.zero_add] at i
  subst i
  obtain ⟨z,q,o,m⟩:=Q9c h r.is (g:=g) (by rw [hβ];rfl) (p:=r.lo) hn (by omega)
  rw [hh] at q
  have j:=sI q
  injection j with j _ _
  subst j
  obtain ⟨f1,f2,f3⟩:=m w1 e1 e2 e3 e4
  refine ⟨_,?_,f1,f2,f3⟩
  have:=run_storeCells_at P g (r.lo*r.e.cells) r.eT news 0 d w1 (by rw [e1];exact hh) (by simpa using o) (fun u hu=>hn.oneCell u hu)
  simp only [Nat.add_zero] at this
  simpa using this
theorem Qd4 (b:Qc P tab) (h:Rel P tab.ty N w0 F S β st a w) {o:Oper} {x y:Operand} {args:Array Operand} {ts:Array TypeId} {T T':TypeId} (ho:o.op=.call { callee:=.builtin .copy,args:=args,argTypes:=ts }) (ha:args.toList=[x,y]) (ht:ts.toList=[T,T'])
  {r:Q6w (Q0 st.objs)} (hr:Q80 (Q0 st.objs) (Qb st.slots x)=some r) (htd:Q2l tab T r.eT r.e=true) {zs:List r.e.den} (hz:Qc4 tab (Q0 st.objs) r.eT r.e T' (some r.n) (Qb st.slots y)=some zs) :
  Xe P tab N w0 F S β st a w o (.cv (.one (.pure (.int .i64) (zs.length:Int)))) [] [(r.l,.mem r.eT r.e (Q6 r.ys r.lo zs) r.n0 r.ex)]:=by
 obtain ⟨hu,hte,B⟩:=Q3v b htd
 obtain ⟨A,c,A',hβ,t,z,D,C,hv,hA,h5⟩:=Q41 h hr
 obtain ⟨m,⟨As,cs,news,u,E,s,i,j⟩,f,_⟩:=Q6z b h hz
 have f:zs.length=min r.n m:=f
 obtain ⟨w2,g,f1,f2,f3⟩:=Qei b h hβ t z hA h5 j (by omega) w rfl rfl rfl rfl
 have q:=Z8 (P:=P) (w:=w) (b.ty r.eT r.e hte)
 have k:=Q4q (P:=P) (w:=w) (m:=m) (c:=cs) j.length (fun hn=>by rw [j.length,s hn,Nat.zero_mul]) i
 have e2:ts=#[T,T']:=by apply Array.ext';simpa using ht
 subst e2
 intro Q K hK
 refine Qcw ho ha (v':=goInt zs.length) (w':=w2) (fun bs=>?_) Q K (hK _ _ (fun st' p=>Q72 h (d:=o.dst.getD 999999999) r.is f1 f2 (fun β' hb=>f3 β') (v:=.cv (.one (.pure (.int .i64) (zs.length:Int)))) (fun β' hb=>show Rep tab.ty S w2 (.int .i64) (zs.length:Int) [goInt zs.length] from rfl) p))
 rw [hv,u]
 have e3:Nat.min m r.n=zs.length:=by rw [f];exact Nat.min_comm ..
 cases A' with
 | none=>
  have:w=w2:=by simpa using g
  subst this
  simp [builtin,Builtin.copy_,run_underlying hu,Builtin.lenOf,q,e3,k,goInt]
 | some ad=>
  have g:(storeCells ad news).run P w=.ok () w2:=by simpa using g
  simp [builtin,Builtin.copy_,run_underlying hu,Builtin.lenOf,q,e3,k,goInt,g]
theorem Q7w {z:Value} {e:Ty} (a:0<e.cells) (c:z.cells.toList=Z9 e) (n:Nat):(Builtin.zeroCells z.cells n).toList=(List.replicate n (Z9 e)).flatten:=by
 have d:z.cells.toList.length=e.cells:=by rw [c];exact (Q08 (S:=fun _=>False) (w':={ (default:World) with }) (τ:=fun _=>none) e).length
 rw [← c,← Q63 (by rw [d];exact a) undef n]
 simp only [Builtin.zeroCells,Array.toList_map,Array.toList_range]
 rw [show z.cells.toList.length=z.cells.size by simp]
 apply List.map_congr_left
 intro j hj
 have f:z.cells.size=e.cells:=by simpa using d
 have b:j % z.cells.size<z.cells.size:=by rw [f];exact Nat.mod_lt _ a
 rw [getElem!_pos z.cells _ b,List.getD_eq_getElem?_getD,List.getElem?_eq_getElem (by simpa using b)]
 simp
theorem Qcd (f:Qc P tab) (h:Rel P tab.ty N w0 F S β st a w) {o:Oper} {x:Operand} {args:Array Operand} {ts:Array TypeId} {T:TypeId} (ho:o.op=.call { callee:=.builtin .clear,args:=args,argTypes:=ts }) (ha:args.toList=[x]) (ht:ts.toList=[T])
  {r:Q6w (Q0 st.objs)} (hr:Q80 (Q0 st.objs) (Qb st.slots x)=some r) (htd:Q2l tab T r.eT r.e=true) :
  Xe P tab N w0 F S β st a w o (.tup []) [] [(r.l,.mem r.eT r.e (Q6 r.ys r.lo (List.replicate r.n r.e.dflt)) r.n0 r.ex)]:=by
 obtain ⟨hu,hte,m⟩:=Q3v f htd
 obtain ⟨A,c,A',hβ,q,u,H,G,hv,hA,h5⟩:=Q41 h hr
 obtain ⟨i,z,hi,C,hz,y,_,_⟩:=(f.ty r.eT r.e hte).info
 have B:(zeroValue r.eT).run P w=.ok z w:=by simp [zeroValue,typeInfo,hi,hz]
 have t:=Q1.zeros (τ:=tab.ty) (S:=S) (w:=w) r.e r.n
 obtain ⟨w2,b,f1,f2,f3⟩:=Qei f h hβ q u hA h5 t (by rw [List.length_replicate];exact Nat.le_refl _) w rfl rfl rfl rfl
 have e2:ts=#[T]:=by apply Array.ext';simpa using ht
 subst e2
 intro Q K hK
 refine Q6m ho ha (v':=.tuple #[]) (w':=w2) (fun bs=>?_) Q K (hK _ _ (fun st' p=>Q72 h (d:=o.dst.getD 999999999) r.is f1 f2 (fun β' hb=>f3 β') (v:=.tup []) (fun β' hb=>⟨[],rfl,rfl⟩) p))
 rw [hv]
 by_cases hn:r.n=0
 ·rw [hn] at b
  have:w=w2:=by
   cases A' with
   | none=>simpa using b
   | some ad=>simpa [storeCells] using b
  subst this
  cases A'<;>simp [builtin,Builtin.clear_,run_underlying hu,hn]
 ·have s:r.lo<c:=by omega
  have j:=hA (.inl s)
  rcases h5 with ⟨_,hc⟩ | ⟨g,D,rfl,hh,E,hm⟩
  ·omega
  simp only [Option.map_some] at j
  rw [Zo,Nat.zero_add] at j
  subst j
  have b:(storeCells ⟨g,r.lo*r.e.cells,none⟩ ((List.replicate r.n (Z9 r.e)).flatten)).run P w=.ok () w2:=by simpa using b
  obtain ⟨n,k⟩:∃ n,r.n=n+1:=⟨r.n - 1,by omega⟩
  rw [← Q7w m y,k] at b
  simp [builtin,Builtin.clear_,run_underlying hu,B,k,b]
theorem Qfm (h:Rel P tab.ty N w0 F S β st a w) {o:Oper} {x:Operand} {args:Array Operand} {ts:Array TypeId} (ho:o.op=.call { callee:=.builtin .cap,args:=args,argTypes:=ts }) (ha:args.toList=[x])
  {T:TypeId} {eT:TypeId} (ht:ts.toList=[T]) (hu:P.underlying T=some (.slice eT))
  {r:Q6w (Q0 st.objs)} (hr:Q80 (Q0 st.objs) (Qb st.slots x)=some r) (hx:r.ex=true) :
  Xe P tab N w0 F S β st a w o (.cv (.one (.pure (.int .i64) ((r.ys.length - r.lo:Nat):Int)))) [] []:=by
 obtain ⟨A,c,A',hβ,e,g,f,d,hv,hA,h5⟩:=Q41 h hr
 have hc:=d hx
 have e2:ts=#[T]:=by apply Array.ext';simpa using ht
 subst e2
 intro Q K hK
 refine Q6m ho ha (v':=.int .i64 ((r.ys.length - r.lo:Nat):Int)) (w':=w) (fun bs=>?_) Q K (hK _ _ (fun st' b=>?_))
 ·rw [hv,hc]
  simp [builtin,Builtin.cap_,run_underlying hu,goInt]
 ·have hu:=Jj b
  refine ⟨S,β,fun _ x=>x,fun _ _=>rfl,h.same (fun t=>by rw [hu.slots];rfl) (fun m=>by rw [hu.get];rfl),rfl⟩
theorem Qbv {len cap:Nat} {lo hi:Option Operand} {l m q:Int} {z:Operand} {k:IntKind} (hl:(lo=none∧l=0)∨∃ y k,lo=some y∧a.eval y=.int k l)
  (hh:∃ y k,hi=some y∧a.eval y=.int k m) (hz:a.eval z=.int k q) (h0:0≤l) (h1:l≤m) (h2:m≤q) (h3:q≤cap) :
  (Instr.sliceBounds true len cap (lo.map a.eval) (hi.map a.eval) ((some z).map a.eval)).run P w=.ok (l.toNat,m.toNat,q.toNat) w:=by
 obtain ⟨y,k',rfl,hy⟩:=hh
 rcases hl with ⟨rfl,rfl⟩ | ⟨x,k2,rfl,hx⟩
 ·simp [Instr.sliceBounds,hy,hz,run_sliceBound w k q cap _ (by omega) h3,run_sliceBound w k' m q.toNat _ (by omega) (by omega)]
 ·simp [Instr.sliceBounds,hx,hy,hz,run_sliceBound w k q cap _ (by omega) h3,run_sliceBound w k' m q.toNat _ (by omega) (by omega),run_sliceBound w k2 l m.toNat _ h0 (by omega)]
end
end Go.PE
namespace Go.PE
section
variable {P:Program} {tab:Tab} {N:NN} {w0:World} {F:FF} {S:Nat→Prop} {β:Lab→Value} {st:St} {a:Act} {w:World}
theorem Rel.noUpd (h:Rel P tab.ty N w0 F S β st a w) {d:Nat} {v:SV} {x:Value} (hv:Qf P tab.ty S β w v x) {st':St} (b:Qs (PE.delAll st []) d []=some st') :
  ∃ S' β',(∀ k,S k→S' k)∧(∀ m:Lab,m.1≠d→β' m=β m)∧Rel P tab.ty N w0 F S' β' st' a w∧Qf P tab.ty S' β' w v x:=by
 have hu:=Jj b
 exact ⟨S,β,fun _ x=>x,fun _ _=>rfl,h.same (fun t=>by rw [hu.slots];rfl) (fun m=>by rw [hu.get];rfl),hv⟩
theorem Qf6 (h:Rel P tab.ty N w0 F S β st a w) {hi x:Option Operand} {m:Option Int} (he:Qed (Qb st.slots) hi x=some m) :
  (x=none∧m=none)∨∃ y k q z,x=some y∧m=some q∧a.eval y=.int k q∧hi=some z:=by
 cases x with
 | none=>exact .inl ⟨rfl,(sI he).symm⟩
 | some y=>
  cases hi with
  | none=>cases he
  | some z=>
  obtain ⟨v,hv,he⟩:=bE he
  obtain ⟨p,hp,he⟩:=bE he
  exact .inr ⟨y,p.1,p.2,z,rfl,(sI he).symm,Qv hp (Qy hv (Q4 h y)),rfl⟩
theorem Qhv (c:Qc P tab) (h:Rel P tab.ty N w0 F S β st a w) {o:Oper} {T:TypeId} {x:Operand} {lo hi mx:Option Operand} (ho:o.op=.slice T x lo hi mx) {eT:TypeId} {e:Ty} (hu:P.underlying T=some (.slice eT)) (hte:tab.ty eT=some e)
  {A:Option Addr} {len cap lb:Nat} (hx:a.eval x=.slice A len cap) (i:lb≤cap) {l m:Int} {q:Option Int} (hl:Q0e (Qb st.slots) lo 0=some l) (hm:Q0e (Qb st.slots) hi (len:Int)=some m) (hq:Qed (Qb st.slots) hi mx=some q)
  (hc:Q2o q l m lb=true):∃ x',(execOp a.eval o).run P w=.ok (.value x') w∧(q=none→0≤l∧l≤m∧m≤(lb:Int)∧x'=.slice (if cap=l.toNat then A else A.map (·.add (l.toNat*e.cells))) (m.toNat - l.toNat) (cap - l.toNat)):=by
 have d:=Q2h h hl
 have f:=Q2h h hm
 have hT:=c.ty eT e hte
 rcases Qf6 h hq with ⟨rfl,rfl⟩ | ⟨y,k,q',z,rfl,rfl,hy,rfl⟩
 ·unfold Q2o at hc
  simp only [Bool.and_eq_true,decide_eq_true_eq] at hc
  have hb:=Q4s (P:=P) (w:=w) (b:=true) (len:=len) (cap:=cap) d f hc.1.1 hc.1.2 (by omega)
  refine ⟨_,?_,fun _=>⟨hc.1.1,hc.1.2,hc.2,rfl⟩⟩
  unfold execOp
  simp only [ho,hx,Option.map_none]
  simp [Instr.sliceAt,Instr.slice,run_underlying hu,hb,Z8 hT]
 ·unfold Q2o at hc
  simp only [Bool.and_eq_true,decide_eq_true_eq] at hc
  have hz:∃ k2,a.eval z=.int k2 m:=by
   rcases f with ⟨hn,_⟩ | ⟨y2,k2,e1,g⟩
   ·cases hn
   ·have:=sI e1
    subst this
    exact ⟨k2,g⟩
  obtain ⟨k2,hz⟩:=hz
  have hb:=Qbv (P:=P) (w:=w) (len:=len) (cap:=cap) (hi:=some z) d ⟨z,k2,rfl,hz⟩ hy hc.1.1.1 hc.1.1.2 hc.1.2 (by omega)
  simp only [Option.map_some] at hb
  exact ⟨.slice (if q'.toNat=l.toNat then A else A.map (·.add (l.toNat*e.cells))) (m.toNat - l.toNat) (q'.toNat - l.toNat),by
   unfold execOp
   simp only [ho,hx]
   simp [Instr.sliceAt,Instr.slice,run_underlying hu,hb,Z8 hT],fun hn=>by cases hn⟩
theorem Qff (ad:Addr) (x y:Nat):(ad.add x).add y=ad.add (x+y):=by
 unfold Addr.add
 by_cases hx:x=0<;>by_cases hy:y=0<;>simp [hx,hy,Nat.add_assoc]
theorem Qa0 {l:Lab} {A:Option Addr} {n0 c lo sz:Nat} {A':Option Addr} (hβ:β l=.slice A n0 c) (a:lo≤c) (hA:lo<c∨lo=0→A'=A.map (·.add (lo*sz))) {p m:Int} (h0:0≤p) (h1:p≤m) (h2:m≤((c - lo:Nat):Int)) :
  Qf P tab.ty S β w (.win l (lo+p.toNat) (m - p).toNat sz) (.slice (if c - lo=p.toNat then A' else A'.map (·.add (p.toNat*sz))) (m.toNat - p.toNat) (c - lo - p.toNat)):=by
 have e1:(m - p).toNat=m.toNat - p.toNat:=by omega
 have e2:c - lo - p.toNat=c - (lo+p.toNat):=by omega
 rw [e1,e2]
 refine ⟨A,n0,c,_,hβ,by omega,rfl,fun hc=>?_⟩
 by_cases hx:c - lo=p.toNat
 ·rw [if_pos hx]
  rcases hc with hc | hc
  ·omega
  ·have e3:lo=0:=by omega
   have e4:p.toNat=0:=by omega
   subst e3
   rw [e4]
   exact hA (.inr rfl)
 ·rw [if_neg hx,hA (by omega)]
  cases A with
  | none=>rfl
  | some ad=>simp only [Option.map_some,Option.some.injEq,Qff,Nat.add_mul]
theorem Qee {τ:TypeId→Option Ty} {eT:TypeId} {e:Ty} {xs:List e.den} {v:Value} (h:Z7 P τ S β w (.row eT e xs) v) (β':Lab→Value):Z7 P τ S β' w (.mem eT e (xs.map some) xs.length false) v:=by
 obtain ⟨hp,cells,b,c⟩:=h
 rcases b.2 with ⟨rfl,h0⟩ | ⟨g,cap,a,rfl,_,hh,hn,hc,d,f⟩
 ·have:xs=[]:=List.eq_nil_of_length_eq_zero h0
  subst this
  exact ⟨hp,none,0,rfl,by simp,Nat.le_refl _,by simp [maxLen],(fun h=>by cases h),.inl ⟨rfl,rfl⟩⟩
 ·refine ⟨hp,_,cap,rfl,by rw [List.length_map];exact hn,hn,hc,(fun h=>by cases h),.inr ⟨g,a,rfl,hh,d,?_⟩⟩
  have:=Q8.of_row c (cs:=a.toList) (by rw [c.length];exact f) 0
  simpa using this
theorem Qae (f:Qc P tab) (h:Rel P tab.ty N w0 F S β st a w) {o:Oper} {T:TypeId} {x:Operand} {lo hi mx:Option Operand} (ho:o.op=.slice T x lo hi mx) {n l m:Int} {q:Option Int} {c:Bool} {v:SV} {u:Upd}
  (hn:Q2v (Q0 st.objs) (Qb st.slots x)=some n) (hl:Q0e (Qb st.slots) lo 0=some l) (hm:Q0e (Qb st.slots) hi n=some m) (hq:Qed (Qb st.slots) hi mx=some q)
  (he:Q8e tab (Q0 st.objs) T (Qb st.slots x) l m q=some (c,v,u)) (hc:c=true):Xe P tab N w0 F S β st a w o v [] u:=by
 have hx:=Q4 h x
 unfold Q8e at he
 split at he
 case h_2=>cases he
 case h_1 eT htd=>
 have hu:P.underlying T=some (.slice eT):=f.td T _ htd
 obtain ⟨e0,hte,he⟩:=bE he
 have fin:∀ {A:Option Addr} {len cap lb:Nat},a.eval x=.slice A len cap→n=(len:Int)→lb≤cap→Q2o q l m lb=true →
   (∀ x',(q=none→0≤l∧l≤m∧m≤(lb:Int)∧x'=.slice (if cap=l.toNat then A else A.map (·.add (l.toNat*e0.cells))) (m.toNat - l.toNat) (cap - l.toNat)) →
    ∀ st',Qs (PE.delAll st []) (o.dst.getD 999999999) u=some st'→∃ S' β',(∀ k,S k→S' k)∧(∀ l:Lab,l.1≠o.dst.getD 999999999→β' l=β l)∧Rel P tab.ty N w0 F S' β' st' a w∧Qf P tab.ty S' β' w v x') →
   Xe P tab N w0 F S β st a w o v [] u:=by
  intro A len cap lb y t s r i
  subst t
  obtain ⟨x',hr,d⟩:=Qhv f h ho hu hte y s hl hm hq r
  intro Q K hK
  unfold Oper.wp
  rw [hr]
  exact hK x' w (fun st' b=>i x' d st' b)
 split at he
 case h_3=>cases he
 case h_1 lb hs=>
  rw [hs] at hx hn
  obtain ⟨hβ,_⟩:=hx
  split at he
  case h_3=>cases he
  case h_1 eT' e xs hol=>
   cases hb:(Nat.beq eT eT'&&Ty.beq e0 e) with
   | false=>rw [hb] at he;cases he
   | true=>
    rw [hb] at he
    simp only [cond_true,Option.some.injEq,Prod.mk.injEq] at he
    obtain ⟨rfl,rfl,rfl⟩:=he
    simp only [Bool.and_eq_true] at hb
    have e1:=Nat.eq_of_beq_eq_true hb.1
    have e2:=Ty.eq_of_beq hb.2
    subst e1;subst e2
    have g:=Qee (h.objs lb _ hol)
    obtain ⟨_,A,cap,hv,k1,k2,_,_,_⟩:=g β
    have hnx:n=(xs.length:Int):=by
     simp only [Q2v,hol] at hn
     exact (sI hn).symm
    refine fin (A:=A) (len:=xs.length) (cap:=cap) (lb:=xs.length) (by rw [← hβ,hv]) hnx k2 hc (fun x' d st' b=>?_)
    refine Q72 h hol (Fr.refl _ w) rfl (fun β' _=>g β') (fun β' p=>?_) b
    cases q with
    | some _=>trivial
    | none=>
     obtain ⟨g0,g1,g2,rfl⟩:=d rfl
     have:=Qa0 (P:=P) (tab:=tab) (S:=S) (w:=w) (β:=β') (l:=lb) (lo:=0) (A':=A) (sz:=e0.cells) (by rw [p,hv]) (Nat.zero_le _) (fun _=>by cases A<;>simp [Addr.add]) g0 g1 (show m≤((cap - 0:Nat):Int) by omega)
     simpa [Q88] using this
  case h_2 eT' e ys n0 ex hol=>
   cases hb:(Nat.beq eT eT'&&Ty.beq e0 e) with
   | false=>rw [hb] at he;cases he
   | true=>
    rw [hb] at he
    simp only [cond_true,Option.some.injEq,Prod.mk.injEq] at he
    obtain ⟨rfl,rfl,rfl⟩:=he
    simp only [Bool.and_eq_true] at hb
    have e1:=Nat.eq_of_beq_eq_true hb.1
    have e2:=Ty.eq_of_beq hb.2
    subst e1;subst e2
    obtain ⟨_,A,cap,hv,k1,k2,_,_,_⟩:=h.objs lb _ hol
    have hnx:n=(n0:Int):=by
     simp only [Q2v,hol] at hn
     exact (sI hn).symm
    refine fin (A:=A) (len:=n0) (cap:=cap) (lb:=ys.length) (by rw [← hβ,hv]) hnx k1 hc (fun x' d st' b=>?_)
    refine h.noUpd ?_ b
    cases q with
    | some _=>trivial
    | none=>
     obtain ⟨g0,g1,g2,rfl⟩:=d rfl
     have:=Qa0 (P:=P) (tab:=tab) (S:=S) (w:=w) (β:=β) (l:=lb) (lo:=0) (A':=A) (sz:=e0.cells) hv (Nat.zero_le _) (fun _=>by cases A<;>simp [Addr.add]) g0 g1 (show m≤((cap - 0:Nat):Int) by omega)
     simpa [Q88] using this
 case h_2 lb lo' n' sz hs=>
  rw [hs] at hx hn
  obtain ⟨A,B,c0,A',hβ,z,hv,hA⟩:=hx
  split at he
  case h_2=>cases he
  case h_1 eT' e ys n0 ex hol=>
   cases hb:(Nat.beq eT eT'&&Ty.beq e0 e&&Nat.beq sz e.cells&&(Nat.beq lo' 0||Nat.ble lo' ys.length)) with
   | false=>rw [hb] at he;cases he
   | true=>
    rw [hb] at he
    simp only [cond_true,Option.some.injEq,Prod.mk.injEq] at he
    obtain ⟨rfl,rfl,rfl⟩:=he
    simp only [Bool.and_eq_true] at hb
    have e1:=Nat.eq_of_beq_eq_true hb.1.1.1
    have e2:=Ty.eq_of_beq hb.1.1.2
    have e3:=Nat.eq_of_beq_eq_true hb.1.2
    have e4:lo'≤ys.length:=by
     rcases Bool.or_eq_true_iff.1 hb.2 with h4 | h4
     ·rw [Nat.eq_of_beq_eq_true h4];exact Nat.zero_le _
     ·exact Q2.1 h4
    subst e1;subst e2;subst e3
    obtain ⟨_,A2,cap,j,k1,k2,_,_,_⟩:=h.objs lb _ hol
    rw [j] at hβ
    injection hβ with q1 q2 q3
    subst q1;subst q2;subst q3
    have hnx:n=(n':Int):=by
     simp only [Q2v] at hn
     exact (sI hn).symm
    refine fin (A:=A') (len:=n') (cap:=cap - lo') (lb:=ys.length - lo') hv hnx (by omega) hc (fun x' d st' b=>?_)
    refine h.noUpd ?_ b
    cases q with
    | some _=>trivial
    | none=>
     obtain ⟨g0,g1,g2,rfl⟩:=d rfl
     exact Qa0 j (by omega) hA g0 g1 (by omega)
theorem Q9n (h:Rel P tab.ty N w0 F S β st a w) {d:Nat} {ob:Ob} {v':Value} {w':World} (hf:Fr (fun _=>False) w w') (hob:∀ β':Lab→Value,Z7 P tab.ty S β' w' ob v') (hb:∀ b,blk v'=some b→w.heap.size≤b∧b<w'.heap.size)
  {sv:SV} (hv:∀ β':Lab→Value,β' (d,0)=v'→Qf P tab.ty S β' w' sv v') {st':St} (i:Qs (PE.delAll st []) d [((d,0),ob)]=some st') :
  ∃ S' β',(∀ k,S k→S' k)∧(∀ l:Lab,l.1≠d→β' l=β l)∧Rel P tab.ty N w0 F S' β' st' a w'∧Qf P tab.ty S' β' w' sv v':=by
 have f:Q0 (Xl d [((d,0),ob)]) (d,0)=some ob:=by
  have hb:Nat.beq d d=true:=Z6.2 rfl
  simp [Xl,Q0,hb,Zc.2 rfl]
 have hβ:Jl β d [((d,0),ob)] (fun _=>v') (d,0)=v':=by unfold Jl;rw [f]
 refine ⟨S,Jl β d [((d,0),ob)] (fun _=>v'),fun _ x=>x,fun l hl=>Xi hl,?_,hv _ hβ⟩
 refine h.upd i (X:=fun _=>False) hf (fun k _ hx=>hx.elim) (fun _ x=>x) (fun k hk=>.inl hk) (fun k hk=>Nat.lt_of_lt_of_le (h.sb k hk) hf.size) (fun _=>v') (fun l j hl=>?_)
 rw [Q3] at hl
 split at hl
 ·rename_i e1
  have hl:=sI hl
  subst hl;subst e1
  rw [hβ]
  refine ⟨hob _,fun b g=>?_⟩
  obtain ⟨g1,g2⟩:=hb b g
  refine ⟨fun hs=>?_,.inl g1,g2,fun m j hm c=>?_⟩
  ·have:=h.sb b hs;omega
  ·rw [Q3,if_neg (fun e=>hm e.symm)] at c;cases c
 ·cases hl
theorem Qjc {w w':World} (h1:w'.os=w.os) (h2:w'.tape=w.tape) (h3:w'.output=w.output) (h4:∃ ob,w'.heap=w.heap.push ob):Fr (fun _=>False) w w':=by
 obtain ⟨ob,h4⟩:=h4
 refine ⟨h1,h2,h3,by rw [h4];simp,fun k hk _=>?_⟩
 rw [h4,Array.getElem?_push_lt hk]
 simp [hk]
end
end Go.PE
namespace Go.PE
section
variable {P:Program} {tab:Tab} {N:NN} {w0:World} {F:FF} {S:Nat→Prop} {β:Lab→Value} {st:St} {a:Act} {w:World}
theorem Qay (q:Qc P tab) (h:Rel P tab.ty N w0 F S β st a w) {o:Oper} {s x:Operand} {args:Array Operand} {ts:Array TypeId} {T T':TypeId} (ho:o.op=.call { callee:=.builtin .append,args:=args,argTypes:=ts }) (ha:args.toList=[s,x]) (ht:ts.toList=[T,T'])
  {r:Q6w (Q0 st.objs)} (hr:Q80 (Q0 st.objs) (Qb st.slots s)=some r) (htd:Q2l tab T r.eT r.e=true) (V:r.lo=0) {zs:List r.e.den} (hz:Qc4 tab (Q0 st.objs) r.eT r.e T' none (Qb st.slots x)=some zs)
  (a3:r.n+zs.length≤r.ys.length) :
  Xe P tab N w0 F S β st a w o (.win r.l 0 (r.n+zs.length) r.e.cells) [] [(r.l,.mem r.eT r.e (Q6 r.ys r.n zs) r.n0 r.ex)]:=by
 obtain ⟨hu,hte,a4⟩:=Q3v q htd
 obtain ⟨A,c,A',hβ,a8,b0,a9,a7,hv,hA,h5⟩:=Q41 h hr
 obtain ⟨m,⟨As,cs,news,Y,b2,R,C,y⟩,f,U⟩:=Q6z q h hz
 have f:zs.length=m:=f
 obtain ⟨i,z,hi,t,b3,b1,_,a5⟩:=(q.ty r.eT r.e hte).info
 obtain ⟨eT',Z⟩:=U
 rw [V] at hv hA
 have G:=hA (.inr rfl)
 rw [Nat.zero_mul] at G
 have O:A'=A:=by rw [G];cases A<;>simp [Addr.add]
 subst O
 have types:∀ v:Value,(Builtin.append_ #[T,T'] o.type #[.slice A' r.n (c - 0),v]).run P w=(Builtin.append_ #[T,T] o.type #[.slice A' r.n (c - 0),v]).run P w:=fun v=>Q0n hu Z hi A' r.n _ v
 have a1:∃ w2,(Builtin.append_ #[T,T] o.type #[.slice A' r.n (c - 0),.slice As m cs]).run P w=.ok (.slice A' (r.n+m) (c - 0)) w2∧Fr (fun k=>blk (β r.l)=some k) w w2∧w2.heap.size=w.heap.size ∧
   ∀ β':Lab→Value,Z7 P tab.ty S β' w2 (.mem r.eT r.e (Q6 r.ys r.n zs) r.n0 r.ex) (β r.l):=by
  have j:zs.length=0→news=[]∧∀ β':Lab→Value,Z7 P tab.ty S β' w (.mem r.eT r.e (Q6 r.ys r.n zs) r.n0 r.ex) (β r.l):=fun h0=>by
   have a0:zs=[]:=List.eq_nil_of_length_eq_zero h0
   subst a0
   refine ⟨y,fun β'=>?_⟩
   rw [Q6e]
   have h0:Z7 P tab.ty S β w (.mem r.eT r.e r.ys r.n0 r.ex) (β r.l):=h.objs r.l _ r.is
   exact h0.frame (fun _ x=>x) (Nat.le_refl _) (fun k _ _=>rfl) h.sb (fun l hl=>by simp [Qz] at hl) (fun b _=>rfl)
  rcases h5 with ⟨rfl,hc⟩ | ⟨g,M,rfl,hh,a6,hm⟩
  ·obtain ⟨e1,e2⟩:=j (by omega)
   have E:m=0:=by omega
   have W:r.n=0:=by omega
   refine ⟨w,?_,Fr.refl _ w,rfl,e2⟩
   rw [E,W]
   cases As with
   | none=>simp [Builtin.append_,run_underlying hu,sizeOf,typeInfo,hi,Builtin.lenOf,Builtin.firstCells]
   | some ad=>simp [Builtin.append_,run_underlying hu,sizeOf,typeInfo,hi,Builtin.lenOf,Builtin.firstCells,loadCells,loadCellsFrom]
  ·cases As with
   | none=>
    have E:m=0:=by rw [← f];exact R rfl
    obtain ⟨e1,e2⟩:=j (by omega)
    refine ⟨w,?_,Fr.refl _ w,rfl,e2⟩
    rw [E]
    have:r.n≤c:=by omega
    simp [Builtin.append_,run_underlying hu,sizeOf,typeInfo,hi,Builtin.lenOf,Builtin.firstCells,storeCells,this]
   | some ad=>
    obtain ⟨a2,I,D,H⟩:=Q9c h r.is (g:=g) (by rw [hβ];rfl) (p:=r.n) y (by omega)
    rw [hh] at I
    have B:=sI I
    injection B with B _ _
    subst B
    obtain ⟨f1,f2,f3⟩:=H w rfl rfl rfl rfl
    have X:=y.length
    have:=run_append_room (P:=P) w T o.type r.eT i hu hi g r.n (c - 0) M hh ad m cs news (by rw [X,f,t]) (C ad rfl) (fun u hu=>y.oneCell u hu) (by omega) (by rw [t];exact D)
    rw [t] at this
    exact ⟨_,this,f1,f2,f3⟩
 obtain ⟨w2,J,f1,f2,f3⟩:=a1
 intro Q K hK
 refine Q04 ho ha ht (v':=.slice A' (r.n+m) (c - 0)) (w':=w2) (by rw [hv,Y,types];exact J) Q K (hK _ _ (fun st' L=>Q72 h (d:=o.dst.getD 999999999) r.is f1 f2 (fun β' hb=>f3 β') (fun β' hb=>?_) L))
 rw [f]
 exact ⟨A',r.n0,c,A',by rw [hb,hβ],by omega,rfl,fun _=>by cases A'<;>simp [Addr.add]⟩
theorem Q8s (p:Qc P tab) (h:Rel P tab.ty N w0 F S β st a w) {o:Oper} {s x:Operand} {args:Array Operand} {ts:Array TypeId} {T T':TypeId} (ho:o.op=.call { callee:=.builtin .append,args:=args,argTypes:=ts }) (ha:args.toList=[s,x]) (ht:ts.toList=[T,T'])
  {r:Q6w (Q0 st.objs)} (hr:Q80 (Q0 st.objs) (Qb st.slots s)=some r) (htd:Q2l tab T r.eT r.e=true) (Z:r.lo=0) {zs:List r.e.den} (hz:Qc4 tab (Q0 st.objs) r.eT r.e T' none (Qb st.slots x)=some zs)
  (b4:r.ys.length<r.n+zs.length) (hx:r.ex=true) (a8:r.n+zs.length≤1073741824) {xs:List r.e.den} (M:Qd (r.ys.take r.n)=some xs) :
  Xe P tab N w0 F S β st a w o (.cv (.one (.ref (o.dst.getD 999999999,0)))) [] [((o.dst.getD 999999999,0),.row r.eT r.e (xs++zs))]:=by
 obtain ⟨hu,hte,I⟩:=Q3v p htd
 obtain ⟨A,c,A',hβ,b2,b5,b3,X,hv,hA,h5⟩:=Q41 h hr
 obtain ⟨m,⟨As,cs,news,a2,b6,U,t,B⟩,d,V⟩:=Q6z p h hz
 have d:zs.length=m:=d
 obtain ⟨i,z,hi,y,O,a5,_,W⟩:=(p.ty r.eT r.e hte).info
 obtain ⟨eT',a3⟩:=V
 have b0:=X hx
 rw [Z] at hv hA
 have E:=hA (.inr rfl)
 rw [Nat.zero_mul] at E
 have R:A'=A:=by rw [E];cases A<;>simp [Addr.add]
 subst R
 have D:xs.length=r.n:=Q1i (lo:=0) (by rw [List.drop_zero];exact M) (by omega)
 have types:∀ v:Value,(Builtin.append_ #[T,T'] o.type #[.slice A' r.n (c - 0),v]).run P w=(Builtin.append_ #[T,T] o.type #[.slice A' r.n (c - 0),v]).run P w:=fun v=>Q0n hu a3 hi A' r.n _ v
 have G:(r.n+m)*i.bytes≤140737488355328:=Nat.le_trans (Nat.mul_le_mul (by omega:r.n+m≤1073741824) W) (by decide)
 have a1:0<m:=by omega
 have a6:z.cells.size=r.e.cells:=by
  have:=(Q08 (S:=fun _=>False) (w':=w) (τ:=tab.ty) r.e).length
  rw [← a5] at this
  simpa using this
 cases As with
 | none=>have:=U rfl;omega
 | some ad=>
 have a7:∃ l,Q1 tab.ty S w r.e xs l∧(Builtin.append_ #[T,T] o.type #[.slice A' r.n (c - 0),.slice (some ad) m cs]).run P w =
   .ok (.slice (some ⟨w.heap.size,0,none⟩) (r.n+m) (grownCap w (r.n+m) (c - 0) r.eT)) (w.drew.alloc (.cells (l.toArray++news.toArray++Builtin.zeroCells z.cells (grownCap w (r.n+m) (c - 0) r.eT - (r.n+m))) r.eT)):=by
  rcases h5 with ⟨rfl,hc⟩ | ⟨g,a9,rfl,hh,b1,hm⟩
  ·have H:r.n=0:=by omega
   have a4:xs=[]:=List.eq_nil_of_length_eq_zero (by omega)
   subst a4
   refine ⟨[],rfl,?_⟩
   have:=run_append_nil (P:=P) w T o.type r.eT i z hu hi O ad m cs news (by rw [y,B.length,d]) (t ad rfl) a1 (by omega) (by rw [H,Nat.zero_add] at G;omega)
   rw [H,hc]
   simpa using this
  ·have f:=hm.slice (lo:=0) (n:=r.n) (xs:=xs) (by rw [List.drop_zero];exact M)
   rw [Nat.zero_mul,List.drop_zero] at f
   have hol:=f.length
   refine ⟨_,f,?_⟩
   refine run_append_grow (P:=P) w T o.type r.eT i z hu hi O ⟨g,0,none⟩ r.n (c - 0) _ (by rw [hol,D,y]) (fun j u hu=>?_) ad m cs news (by rw [y,B.length,d]) (t ad rfl) (by omega) (by omega) (growslice_fits (by omega) G)
   exact Q7e (e:=r.e) hh (by rw [hol];rfl) hu
 obtain ⟨l,f,J⟩:=a7
 have hol:=f.length
 have C:=B.length
 have Y:=grownCap_ge w (r.n+m) (c - 0) r.eT
 intro Q K hK
 refine Q04 ho ha ht (v':=.slice (some ⟨w.heap.size,0,none⟩) (r.n+m) (grownCap w (r.n+m) (c - 0) r.eT)) (w':=w.drew.alloc (.cells (l.toArray++news.toArray++Builtin.zeroCells z.cells (grownCap w (r.n+m) (c - 0) r.eT - (r.n+m))) r.eT))
  (by rw [hv,a2,types];exact J) Q K (hK _ _ (fun st' L=>?_))
 refine Q9n h (sv:=.cv (.one (.ref (o.dst.getD 999999999,0)))) ((Fr.drew (fun _=>False) w).trans (Fr.alloc (fun _=>False) w.drew _)) (fun β'=>?_) (fun b hb=>?_) (fun β' hb=>⟨hb,_,_,_,rfl⟩) L
 ·refine ⟨I,l++news,⟨?_,.inr ⟨w.heap.size,grownCap w (r.n+m) (c - 0) r.eT,l.toArray++news.toArray++Builtin.zeroCells z.cells (grownCap w (r.n+m) (c - 0) r.eT - (r.n+m)),?_,Nat.zero_le _,?_,?_,?_,?_,?_⟩⟩,?_⟩
  ·rw [List.length_append,hol,C,List.length_append,Nat.add_mul]
  ·rw [List.length_append,D,d]
  ·exact heap_alloc_new w.drew _
  ·rw [List.length_append,D,d];exact Y
  ·exact grownCap_le_maxLen w (r.n+m) (c - 0) r.eT (by simp [maxLen];omega)
  ·rw [Array.size_append,Array.size_append,size_zeroCells,List.size_toArray,List.size_toArray,hol,C,D,d,a6,← Nat.add_mul,← Nat.add_mul]
   congr 1;omega
  ·rw [Array.toList_append,Array.toList_append,List.take_append_of_le_length,List.take_of_length_le]
   ·simp [hol,C,Nat.add_mul]
   ·simp [hol,C,Nat.add_mul]
  ·have fr:∀ {ws:List r.e.den} {q:List Value},Q1 tab.ty S w r.e ws q→Q1 tab.ty S (w.drew.alloc (.cells (l.toArray++news.toArray++Builtin.zeroCells z.cells (grownCap w (r.n+m) (c - 0) r.eT - (r.n+m))) r.eT)) r.e ws q:=fun hq=>
    hq.frame (w:=w) (fun _ x=>x) (by simp) (fun k _ a0=>RowKit.Below.heap_alloc w.drew _ k a0)
   exact (fr f).append (fr B)
 ·have:=sI hb
  subst this
  exact ⟨Nat.le_refl _,by simp⟩
theorem Q8x (f:Qc P tab) (h:Rel P tab.ty N w0 F S β st a w) {o:Oper} {s x:Operand} {args:Array Operand} {ts:Array TypeId} {T T':TypeId} (ho:o.op=.call { callee:=.builtin .append,args:=args,argTypes:=ts }) (ha:args.toList=[s,x]) (ht:ts.toList=[T,T'])
  {r:Q6w (Q0 st.objs)} (hr:Q80 (Q0 st.objs) (Qb st.slots s)=some r) (htd:Q2l tab T r.eT r.e=true) (a4:r.lo=0) {c0:Bool} {zs:List r.e.den} (hz:Qde tab r.e T' (Qb st.slots x)=some (c0,zs)) (U:c0=true)
  (hx:r.ex=true) (G:r.ys.length<r.n+zs.length) (t:r.ys.length+zs.length≤536870912) :
  Xe P tab N w0 F S β st a w o (.win (o.dst.getD 999999999,0) 0 (r.n+zs.length) r.e.cells) [] [((o.dst.getD 999999999,0),.mem r.eT r.e (r.ys.take r.n++zs.map some) (r.n+zs.length) false)]:=by
 obtain ⟨hu,hte,l⟩:=Q3v f htd
 obtain ⟨A,c,A',hβ,b6,b9,b7,W,hv,hA,h5⟩:=Q41 h hr
 obtain ⟨i,z,hi,p,b2,L,_,E⟩:=(f.ty r.eT r.e hte).info
 have b4:=W hx
 unfold Qde at hz
 split at hz
 case h_2=>cases hz
 case h_1 kn htn=>
 obtain ⟨lv,a5,hz⟩:=bE hz
 obtain ⟨⟨kq,q⟩,hq,hz⟩:=bE hz
 obtain ⟨e1,e2⟩:=Prod.mk.inj (sI hz)
 subst e2
 rw [U] at e1
 have b8:0<q:=of_decide_eq_true e1
 have a8:=Qv hq (Qy a5 (Q4 h x))
 simp only [List.length_replicate] at G t ⊢
 obtain ⟨k,rfl⟩:∃ k:Nat,q=(k:Int):=⟨q.toNat,by omega⟩
 simp only [Int.toNat_natCast] at G t ⊢
 have a6:P.underlying T'=some (.int kn):=f.td T' _ htn
 rw [a4] at hv hA
 have D:=hA (.inr rfl)
 rw [Nat.zero_mul] at D
 have O:A'=A:=by rw [D];cases A<;>simp [Addr.add]
 subst O
 have b1:z.cells.size=r.e.cells:=by
  have:=(Q08 (S:=fun _=>False) (w':=w) (τ:=tab.ty) r.e).length
  rw [← L] at this
  simpa using this
 have R:(r.n+k)*i.bytes≤140737488355328:=Nat.le_trans (Nat.mul_le_mul (by omega:r.n+k≤1073741824) E) (by decide)
 have a3:k*i.bytes≤281474976710656:=Nat.le_trans (Nat.mul_le_mul (by omega:k≤1073741824) E) (by decide)
 have b3:∃ d:List Value,d.length=r.n*r.e.cells∧Q8 tab.ty S w r.e (r.ys.take r.n) d∧(Builtin.firstCells i.size r.n (.slice A' r.n (c - 0))).run P w.drew=.ok d.toArray w.drew:=by
  rcases h5 with ⟨rfl,hc⟩ | ⟨g,m,rfl,hh,V,hm⟩
  ·have C:r.n=0:=by omega
   refine ⟨[],by rw [C];simp,fun j x hj=>by rw [C] at hj;simp at hj,?_⟩
   rw [C]
   exact run_firstCells_none w.drew i.size 0 0 (c - 0)
  ·have b5:r.n*r.e.cells≤m.size:=by rw [V];exact Nat.mul_le_mul_right _ (by omega)
   have v:(m.toList.take (r.n*r.e.cells)).length=r.n*r.e.cells:=by rw [List.length_take,Array.length_toList];omega
   refine ⟨m.toList.take (r.n*r.e.cells),v,fun j x hj=>?_,?_⟩
   ·rw [List.getElem?_take] at hj
    split at hj
    case isFalse=>cases hj
    case isTrue a2=>
    have h1:=hm j x hj
    have hb:j*r.e.cells+r.e.cells≤r.n*r.e.cells:=by
     have:=Nat.mul_le_mul_right r.e.cells (show j+1≤r.n by omega)
     rw [Nat.add_mul,Nat.one_mul] at this
     exact this
    rw [List.drop_take,List.take_take,show min r.e.cells (r.n*r.e.cells - j*r.e.cells)=r.e.cells by omega]
    exact h1
   ·rw [p]
    refine run_firstCells_some w.drew r.e.cells r.n ⟨g,0,none⟩ r.n (c - 0) _ v (fun j u hu=>?_)
    have:=Q7e (w:=w) (e:=r.e) hh (o:=0) (news:=m.toList.take (r.n*r.e.cells)) (by rw [List.drop_zero,v]) hu
    exact this
 obtain ⟨d,hol,hom,X⟩:=b3
 have Y:=grownCap_ge w (r.n+k) (c - 0) r.eT
 have a0:=grownCap_le_maxLen w (r.n+k) (c - 0) r.eT (by simp [maxLen];omega)
 have H:=Lib.run_append_grow_zeros (P:=P) w T T' o.type r.eT i z kq kn hu a6 hi b2 A' r.n (c - 0) d X k (by omega) (by rw [p];exact l) (by omega) (by omega) a3 (growslice_fits (by omega) R)
 have a9:=Q7w l L k
 have M:=Q1.zeros (τ:=tab.ty) (S:=S) (w:=w) r.e k
 have b0:=M.length
 rw [List.length_replicate] at b0
 intro Q K hK
 refine Q04 ho ha ht (v':=.slice (some ⟨w.heap.size,0,none⟩) (r.n+k) (grownCap w (r.n+k) (c - 0) r.eT)) (w':=w.drew.alloc (.cells (d.toArray++Builtin.zeroCells z.cells k++Builtin.zeroCells z.cells (grownCap w (r.n+k) (c - 0) r.eT - (r.n+k))) r.eT))
  (by rw [hv,a8];exact H) Q K (hK _ _ (fun st' I=>?_))
 refine Q9n h (sv:=.win (o.dst.getD 999999999,0) 0 (r.n+k) r.e.cells) ((Fr.drew (fun _=>False) w).trans (Fr.alloc (fun _=>False) w.drew _)) (fun β'=>?_) (fun b hb=>?_) (fun β' hb=>⟨_,_,_,_,hb,by omega,rfl,fun _=>by simp [Addr.add]⟩) I
 ·have J:(r.ys.take r.n).length=r.n:=by rw [List.length_take];omega
  refine ⟨l,some ⟨w.heap.size,0,none⟩,grownCap w (r.n+k) (c - 0) r.eT,rfl,by simp [J];omega,Y,a0,(fun hx=>by cases hx),.inr ⟨w.heap.size,_,rfl,heap_alloc_new w.drew _,?_,?_⟩⟩
  ·rw [Array.size_append,Array.size_append,size_zeroCells,size_zeroCells,List.size_toArray,hol,b1,← Nat.add_mul,← Nat.add_mul]
   congr 1;omega
  ·have fr:∀ {x:r.e.den} {q:List Value},Rep tab.ty S w r.e x q→Rep tab.ty S (w.drew.alloc (.cells (d.toArray++Builtin.zeroCells z.cells k++Builtin.zeroCells z.cells (grownCap w (r.n+k) (c - 0) r.eT - (r.n+k))) r.eT)) r.e x q:=fun hq=>
    hq.frame (w:=w) (fun _ x=>x) (by simp) (fun k _ B=>RowKit.Below.heap_alloc w.drew _ k B)
   intro j x hj
   refine fr ?_
   rw [Array.toList_append,Array.toList_append,a9,List.toList_toArray]
   by_cases a2:j<r.n
   ·rw [List.getElem?_append_left (by omega)] at hj
    have h1:=hom j x hj
    have hb:j*r.e.cells+r.e.cells≤d.length:=by
     rw [hol]
     have:=Nat.mul_le_mul_right r.e.cells (show j+1≤r.n by omega)
     rw [Nat.add_mul,Nat.one_mul] at this
     exact this
    rw [List.append_assoc,List.drop_append_of_le_length (by omega),List.take_append_of_le_length (by rw [List.length_drop];omega)]
    exact h1
   ·rw [List.getElem?_append_right (by omega),J] at hj
    have a1:j - r.n<k:=by
     rcases Nat.lt_or_ge (j - r.n) k with B | Z
     ·exact B
     ·rw [List.getElem?_eq_none (by simpa using Z)] at hj;cases hj
    have h1:=M.elem (j - r.n) (by simpa using a1)
    have a7:(List.replicate k r.e.dflt).getD (j - r.n) r.e.dflt=x:=by
     rw [List.getElem?_map] at hj
     rw [List.getD_eq_getElem?_getD]
     cases hg:(List.replicate k r.e.dflt)[j - r.n]? with
     | none=>rw [hg] at hj;cases hj
     | some y=>rw [hg] at hj;exact sI (sI hj)
    rw [a7] at h1
    have hb:(j - r.n)*r.e.cells+r.e.cells≤k*r.e.cells:=by
     have:=Nat.mul_le_mul_right r.e.cells (show j - r.n+1≤k by omega)
     rw [Nat.add_mul,Nat.one_mul] at this
     exact this
    have e0:j*r.e.cells=d.length+(j - r.n)*r.e.cells:=by rw [hol,← Nat.add_mul];congr 1;omega
    rw [e0,List.append_assoc,List.drop_append,List.drop_eq_nil_of_le (by omega),List.nil_append,Nat.add_sub_cancel_left,List.drop_append_of_le_length (by omega),List.take_append_of_le_length (by rw [List.length_drop];omega)]
    exact h1
 ·have:=sI hb
  subst this
  exact ⟨Nat.le_refl _,by simp⟩
theorem Q8v (b:Qc P tab) (h:Rel P tab.ty N w0 F S β st a w) {o:Oper} {s x:Operand} {args:Array Operand} {ts:Array TypeId} {T T':TypeId} (ho:o.op=.call { callee:=.builtin .append,args:=args,argTypes:=ts }) (ha:args.toList=[s,x]) (ht:ts.toList=[T,T'])
  {R:Type} {k:SV→List Lab→Upd→Option R} {B:R} (he:Q02 tab st (Qb st.slots) (o.dst.getD 999999999) s x T T' k=some B):∃ v del u,k v del u=some B∧Xe P tab N w0 F S β st a w o v del u:=by
 unfold Q02 at he
 split at he
 case h_2=>cases he
 case h_1 eT htd=>
 obtain ⟨e,hte,he⟩:=bE he
 obtain ⟨sv,G,he⟩:=bE he
 obtain ⟨⟨ls,xs⟩,hb,he⟩:=bE he
 rw [X8] at he
 obtain ⟨ys,J,he⟩:=bE he
 cases hq:((ls.all fun l=>!(Xw l (Qe (Qb st.slots x))))&&Nat.ble (xs.length+ys.length) 1073741824) with
 | false=>simp only [hq] at he;cases he
 | true=>
  simp only [hq,cond_true] at he
  simp only [Bool.and_eq_true] at hq
  have L:=Q2.1 hq.2
  refine ⟨_,_,_,he,?_⟩
  have j:=b.pos T eT e htd hte
  have hu:P.underlying T=some (.slice eT):=b.td T _ htd
  have hT:=b.ty eT e hte
  have hs:=Qy G (Q4 h s)
  obtain ⟨cells,g,D,hls,M⟩:=Q87 h b htd hte hb hs
  obtain ⟨m,⟨As,cs,news,I,O,C,q,f⟩,d,eT',H⟩:=Q6z b h J
  have d:ys.length=m:=d
  have E:=f.length
  obtain ⟨v',w',t,r⟩:=Q2c (P:=P) (tab:=tab) (ty:=o.type) (A:=As) (m:=m) (c:=cs) (news:=news) b hu hT j g (fun hn=>by rw [← d];exact C hn) (by rw [E,d]) q (fun u hu=>f.oneCell u hu) (by omega)
  obtain ⟨i,z,hi,_⟩:=hT.info
  have hsl:∃ A n c,a.eval s=.slice A n c:=Zy g
  obtain ⟨A,n,c,p⟩:=hsl
  intro Q K hK
  refine Q04 ho ha ht (v':=v') (w':=w') (by rw [I,p,Q0n hu H hi,← p];exact t) Q K (hK _ _ (fun st' y=>?_))
  exact Q4n h j (by rw [List.length_append,d]) r (D.append f) hls y
theorem Qi1:Extern.allGenericRows.lookup "slices.overlaps"=none:=by kernel_rfl
theorem Qhr:Extern.allTypedRows.lookup "slices.overlaps"=some Extern.SlicesOverlaps.overlaps:=by kernel_rfl
theorem Qfx (fn:Func):Q3z fn "slices.overlaps"=some (Extern.SlicesOverlaps.overlaps fn.params fn.resultTypes):=by
 unfold Q3z
 rw [Qi1,Qhr];rfl
theorem Q2g (tS tR e:TypeId) (ht:P.underlying tS=some (.slice e)) (size:Nat) (hz:∀ w,(Go.sizeOf e).run P w=.ok size w) (A B:Option Addr) (la ca lb cb:Nat)
  (hn:A=none∨B=none∨(la=0∨lb=0∨size=0)):(Extern.SlicesOverlaps.overlaps #[tS,tS] #[tR] #[.slice A la ca,.slice B lb cb]).run P w=.ok (.bool false) w:=by
 change Sem.run P (α:=Value) (do
  let some t:=(#[tS,tS]:Array TypeId)[0]? | stuck "slices.overlaps: no parameter types"
  let .slice elem ← underlying t | stuck "slices.overlaps: slice type expected"
  let size ← sizeOf elem
  match (A:Option Addr),(B:Option Addr) with
  | some a,some b=>
   if la=0∨lb=0∨size=0 then pure (Value.bool false)
   else if a.block != b.block&&(← frozen a)&&(← frozen b) then unsupported .addressObserved
   else do
    if a.block != b.block then do
     noView a;noView b
     if ← mayBeOne a b then return Value.bool ((← choose (.extern "sameAddr.stringBytes" 2))==1)
    pure (Value.bool (a.block==b.block&&a.off<b.off+lb*size&&b.off<a.off+la*size))
  | _,_=>pure (Value.bool false)) w=_
 rcases hn with rfl | rfl | hn
 ·simp [run_underlying ht,hz]
 ·cases A<;>simp [run_underlying ht,hz]
 ·cases A<;>cases B<;>simp [run_underlying ht,hz,hn]
theorem Qfp (u:Qc P tab) (h:Rel P tab.ty N w0 F S β st a w) {o:Oper} {f:Operand} {args:Array Operand} {ts:Array TypeId} (ho:o.op=.call { callee:=.value f,args:=args,argTypes:=ts })
  {g:FuncId} (hf:Qb st.slots f=.cv (.one (.gfn g))) (he:Qbu tab (Q0 st.objs) g (args.toList.map (Qb st.slots))=some ()):Xe P tab N w0 F S β st a w o (.cv (.one (.lit false))) [] []:=by
 cases hal:args.toList with
 | nil=>rw [hal] at he;cases he
 | cons x r=>
 cases r with
 | nil=>rw [hal] at he;simp only [List.map_cons,List.map_nil] at he;unfold Qbu at he;split at he<;>first | (rename_i hh;simp at hh;done) | cases he
 | cons y r=>
 cases r with
 | cons _ _=>rw [hal] at he;simp only [List.map_cons] at he;unfold Qbu at he;split at he<;>first | (rename_i hh;simp at hh;done) | cases he
 | nil=>
 rw [hal] at he
 simp only [List.map_cons,List.map_nil] at he
 unfold Qbu at he
 split at he
 case h_2=>cases he
 case h_1 l m lo n sz heq=>
 simp only [List.cons.injEq,and_true] at heq
 obtain ⟨hx,hy⟩:=heq
 split at he
 case h_2=>cases he
 case h_1 f0 eT e xs eT' e' ys n0 ex htd hol hom=>
 cases d:(Xh l m||!(Nat.beq f0 g)) with
 | true=>rw [d] at he;cases he
 | false=>
  rw [Bool.or_eq_false_iff,Bool.not_eq_false'] at d
  have O:=Nat.eq_of_beq_eq_true d.2
  subst O
  have X:=X7.1 d.1
  have E:=Q4 h x
  rw [hx] at E
  have G:=Q4 h y
  rw [hy] at G
  obtain ⟨a1,_⟩:=E
  obtain ⟨A,a9,c0,A',I,a6,H,hA⟩:=G
  obtain ⟨a3,cells,B,a7⟩:=h.objs l _ hol
  obtain ⟨s,A2,c,D,k1,k2,k3,k4,k5⟩:=h.objs m _ hom
  obtain ⟨fn,tS,tR,e0,i0,hfn,q,k,hnx,V,Y,Z,a0,hu,U⟩:=u.ovl _ _ htd
  have p:Extern.find fn=some (Extern.SlicesOverlaps.overlaps #[tS,tS] #[tR]):=by
   have e1:Extern.find fn=(Q3z fn fn.name <|> Q3z fn fn.origin):=rfl
   have e2:=Qfx fn
   rw [e1,Option.isNone_iff_eq_none.1 V,Y,e2,Z,a0];rfl
  rw [D] at I
  injection I with q1 q2 q3
  subst q1;subst q2;subst q3
  have i:∀ w,(sizeOf e0).run P w=.ok i0.size w:=fun w=>by simp [sizeOf,typeInfo,U]
  have a2:∀ v,a.eval x=v→(Extern.SlicesOverlaps.overlaps #[tS,tS] #[tR] #[v,.slice A' n (c - lo)]).run P w=.ok (.bool false) w:=by
   intro v hv
   rw [← a1] at hv
   rcases B.2 with ⟨h1,h0⟩ | ⟨gl,cap,J,h1,_,hg,hn,hc,a5,a8⟩
   ·rw [← hv,h1]
    exact Q2g tS tR e0 hu i0.size i none A' _ _ _ _ (.inl rfl)
   ·rw [← hv,h1]
    cases L:A' with
    | none=>exact Q2g tS tR e0 hu i0.size i _ none _ _ _ _ (.inr (.inl rfl))
    | some ad=>
     by_cases hz:xs.length=0∨n=0∨i0.size=0
     ·exact Q2g tS tR e0 hu i0.size i _ _ _ _ _ _ (.inr (.inr hz))
     ·have W:lo<c:=by omega
      have b:=hA (.inl W)
      rcases k5 with ⟨_,a4⟩ | ⟨gm,t,rfl,R,z,_⟩
      ·omega
      rw [L] at b
      simp only [Option.map_some] at b
      rw [Zo,Nat.zero_add] at b
      have b:=sI b
      subst b
      have T:gl≠gm:=fun e=>h.dist l m _ _ hol hom X gl (by rw [h1];rfl) (by rw [D,e];rfl)
      refine Lib.run_overlaps_apart w tS tR e0 hu i0.size i ⟨gl,0,none⟩ _ xs.length cap n (c - lo) T eT eT' (J.size) (t.size) (by simp [World.shape?,hg]) (by simp [World.shape?,R]) ?_ (by simp [World.frozen?,hg]) (by simp [World.frozen?,hg])
      rw [z]
      exact Nat.ne_of_gt (Nat.mul_pos (by omega) s)
  intro Q K hK
  have j:args=#[x,y]:=Q3l hal
  subst j
  have M:a.eval f=.func (.func f0) #[] #[]:=by have:=Q4 h f;rw [hf] at this;exact this
  have hr:(execOp a.eval o).run P w=.ok (.value (.bool false)) w:=by
   unfold execOp
   simp only [ho]
   have:=run_callFunc_extern (w:=w) hfn q k hnx p #[a.eval x,a.eval y]
   rw [H,a2 _ rfl] at this
   simp [resolve,M,Deferred.ofValue,invoke,H,this,Result.andThen]
  unfold Oper.wp
  rw [hr]
  exact hK _ _ (fun st' C=>h.noUpd (v:=.cv (.one (.lit false))) rfl C)
theorem Qfj (E:Qc P tab) (h:Rel P tab.ty N w0 F S β st a w) {o:Oper} {f:Operand} {args:Array Operand} {ts:Array TypeId} (ho:o.op=.call { callee:=.value f,args:=args,argTypes:=ts })
  {g:FuncId} (hf:Qb st.slots f=.cv (.one (.gfn g))) {z:Bool × IV × Lab × Int × Nat} (he:Qf2 tab (Q0 st.objs) g (args.toList.map (Qb st.slots))=some z) :
  (z.1=true→Xe P tab N w0 F S β st a w o (.tupn z.2.1) [] [])∧(z.1=false→Xe P tab N w0 F S β st a w o (.tupe z.2.2.1 z.2.2.2.1 z.2.2.2.2) [] []):=by
 have j:=Q4 h f
 rw [hf] at j
 have j:a.eval f=.func (.func g) #[] #[]:=j
 have i:=Q3r h args.toList
 generalize hal:args.toList.map (Qb st.slots)=svs at he i
 unfold Qf2 at he
 split at he
 case h_2=>cases he
 case h_1 l v=>
 obtain ⟨x1,vr,e1,O,x2,R,e2,D,e3⟩:=i
 subst e2
 have e3:R=[]:=e3
 subst e3
 obtain ⟨p,hp,he⟩:=bE he
 have D:=Qv hp D
 subst D
 obtain ⟨b,y,J⟩:=O
 subst J
 split at he
 case h_2=>cases he
 case h_1 f' W k c sz T' m vs htd hol=>
 split at he
 case h_2=>cases he
 case h_1 eT e xs hom=>
 cases hq:(Nat.beq f' g&&Qfy tab W k c&&Nat.beq sz e.cells&&Nat.beq (Qq p.1) 3) with
 | false=>rw [hq] at he;cases he
 | true=>
 rw [hq] at he
 have he:=sI he
 subst he
 simp only [Bool.and_eq_true] at hq
 obtain ⟨⟨⟨q1,q2⟩,q3⟩,q4⟩:=hq
 have q1:=Nat.eq_of_beq_eq_true q1
 have q3:=Nat.eq_of_beq_eq_true q3
 subst q1;subst q3
 have hk:p.1=.i64:=Jw (Nat.eq_of_beq_eq_true q4)
 obtain ⟨H,G⟩:=E.elt _ _ _ _ _ _ htd
 obtain ⟨b2,T2,cs,hβ,hh,C⟩:=h.objs l _ hol
 rw [hβ] at y
 simp only [Value.pointer.injEq,Option.some.injEq,Addr.mk.injEq] at y
 obtain ⟨rfl,_⟩:=y
 obtain ⟨c0,cr,M,hm,_⟩:=C
 obtain ⟨r,A,n,cp,hv⟩:=hm
 subst hv
 have L:cs[0]?=some (.slice A n cp):=by rw [← Array.getElem?_toList,M];rfl
 obtain ⟨T,cells,s,V⟩:=h.objs m _ hom
 have hn:n=xs.length∧n≤maxLen:=by
  rcases s.2 with ⟨e5,e6⟩ | ⟨g,cap,I,e5,_,U,e6,e7,e8,e9⟩
  ·rw [r] at e5;injection e5 with _ e5 _;exact ⟨by omega,by rw [e5];simp [maxLen]⟩
  ·rw [r] at e5;injection e5 with _ e5 _;exact ⟨e5,by omega⟩
 have d:args.map a.eval++#[]=#[.pointer (some ⟨b2,0,none⟩),.int .i64 p.2]:=by
  apply Array.ext'
  rw [Array.append_empty,Array.toList_map,e1,hk]
 obtain ⟨g1,g2⟩:=G w b2 cs T2 A n cp p.2 hh L hn.2
 refine ⟨fun hq=>?_,fun hq=>?_⟩
 ·simp only [Bool.or_eq_true,decide_eq_true_eq] at hq
  intro Q K hK
  refine Q52 ho j H Q K ?_
  rw [d]
  refine (g1 (hq.imp id (fun h=>by rw [hn.1];exact h))).mono ?_
  rintro ex w' ⟨⟨u,rfl⟩,B⟩
  refine ⟨_,rfl,hK _ _ (fun st' q=>?_)⟩
  have e:Qs (delAll st []) (o.dst.getD 999999999) []=some st:=rfl
  rw [e] at q
  have:=sI q
  subst this
  refine ⟨S,β,fun _ hk=>hk,fun _ _=>rfl,h.grow' B,u,rfl,fun t ht=>?_⟩
  unfold Qfy at q2
  rw [ht] at q2
  simp only at q2
  split at q2
  ·rename_i x hx;exact ⟨x,hx⟩
  ·cases q2
 ·simp only [Bool.or_eq_false_iff,decide_eq_false_iff_not] at hq
  intro Q K hK
  refine Q52 ho j H Q K ?_
  rw [d]
  have hA:∃ g,A=some ⟨g,0,none⟩:=by
   rcases s.2 with ⟨e5,e6⟩ | ⟨g,cap,I,e5,_⟩
   ·have e6:xs.length=0:=e6
    omega
   ·rw [r] at e5;injection e5 with e5 _ _;exact ⟨g,e5⟩
  obtain ⟨g,rfl⟩:=hA
  refine (g2 (by omega) (by rw [hn.1];omega) g rfl).mono ?_
  rintro ex w' ⟨rfl,B⟩
  refine ⟨_,rfl,hK _ _ (fun st' q=>?_)⟩
  have e:Qs (delAll st []) (o.dst.getD 999999999) []=some st:=rfl
  rw [e] at q
  have:=sI q
  subst this
  exact ⟨S,β,fun _ hk=>hk,fun _ _=>rfl,h.grow' B,g,by rw [r];rfl,rfl⟩
end
end Go.PE
namespace Go.PE
section
variable {P:Program} {tab:Tab} {N:NN} {w0:World} {F:FF} {S:Nat→Prop} {β:Lab→Value} {st:St} {a:Act} {w:World}
theorem Q0r:∀ {ls:List Lab} {st st':St} {S:Nat→Prop},Rel P tab.ty N w0 F S β st a w→Q1w st ls=some st'→∃ S',(∀ k,S k→S' k)∧Rel P tab.ty N w0 F S' β st' a w
 | [],st,st',S,h,he=>by have:=sI he;subst this;exact ⟨S,fun _ x=>x,h⟩
 | l::r,st,st',S,h,he=>by
  unfold Q1w at he
  split at he
  ·obtain ⟨s,hs,he⟩:=bE he
   obtain ⟨S1,h1,h2⟩:=h.frz hs
   obtain ⟨S2,h3,h4⟩:=Q0r h2 he
   exact ⟨S2,fun k hk=>h3 k (h1 k hk),h4⟩
  ·exact Q0r h he
def Js (τ:TypeId→Option Ty) (S:Nat→Prop) (w:World):List ((t:Ty) × t.den)→List Value→Prop
 | [],vs=>vs=[]
 | ⟨t,x⟩::r,vs=>∃ v vr,vs=v::vr∧Ji τ S w t x v∧Js τ S w r vr
theorem Js.mono {τ:TypeId→Option Ty} {S S':Nat→Prop} (hS:∀ k,S k→S' k):∀ {cs:List ((t:Ty) × t.den)} {vs:List Value},Js τ S w cs vs→Js τ S' w cs vs
 | [],vs,h=>h
 | ⟨t,x⟩::r,vs,h=>by obtain ⟨v,vr,rfl,h1,h2⟩:=h;exact ⟨v,vr,rfl,Ji.frame hS (Nat.le_refl _) (fun _ _ _=>rfl) h1,Js.mono hS h2⟩
theorem Js.snoc {τ:TypeId→Option Ty} {S:Nat→Prop} {t:Ty} {x:t.den} {v:Value} (hv:Ji τ S w t x v):∀ {cs:List ((t:Ty) × t.den)} {vs:List Value},Js τ S w cs vs→Js τ S w (cs++[⟨t,x⟩]) (vs++[v])
 | [],vs,h=>by have h:vs=[]:=h;subst h;exact ⟨v,[],rfl,hv,rfl⟩
 | ⟨t',x'⟩::r,vs,h=>by obtain ⟨v',vr,rfl,h1,h2⟩:=h;exact ⟨v',vr++[v],rfl,h1,Js.snoc hv h2⟩
theorem Qc1 {τ:TypeId→Option Ty} {S:Nat→Prop}:∀ {ts:List Ty} {cs:List ((t:Ty) × t.den)} {y:Zj ts} {vals:List Value},Qgv ts cs=some y →
  Js τ S w cs vals→Q1s τ S w ts y vals
 | [],[],y,vals,h,hc=>hc
 | [],_::_,y,vals,h,hc=>by cases h
 | _::_,[],y,vals,h,hc=>by cases h
 | t::r,⟨t',x⟩::q,y,vals,h,hc=>by
  obtain ⟨y1,h1,h⟩:=bE h
  obtain ⟨z,h2,h⟩:=bE h
  have:=sI h
  subst this
  obtain ⟨v,vr,rfl,g1,g2⟩:=hc
  exact ⟨v,vr,rfl,Ji.cast h1 g1,Qc1 h2 g2⟩
theorem Q15.mono (a:∀ k,S k→k<w.heap.size) {S':Nat→Prop} (hS:∀ k,S k→S' k):∀ {svs:List SV} {vs:List Value},Q15 P tab.ty S β w svs vs→Q15 P tab.ty S' β w svs vs
 | [],vs,h=>h
 | x::r,vs,h=>by obtain ⟨v,vr,rfl,h1,h2⟩:=h;exact ⟨v,vr,rfl,h1.frame hS (Nat.le_refl _) (fun _ _ _=>rfl) a (fun _ _=>rfl),Q15.mono a hS h2⟩
theorem Q12 {Γ:Ctx} (hΓ:Je tab.ty P Γ) {f:FuncId}:∀ {svs:List SV} {st st':St} {S:Nat→Prop} {cs:List ((t:Ty) × t.den)} {lv:LV} {vals cvals:List Value},
  Rel P tab.ty N w0 F S β st a w→Q03 Γ tab f st svs cs=some (st',lv)→Q15 P tab.ty S β w svs vals→Js tab.ty S w cs cvals →
  ∃ S',(∀ k,S k→S' k)∧Rel P tab.ty N w0 F S' β st' a w∧Qm P tab.ty S' β w lv (.func (.func f) #[] (cvals++vals).toArray)
 | [],st,st',S,cs,lv,vals,cvals,h,he,hv,hc=>by
  have hv:vals=[]:=hv
  subst hv
  obtain ⟨e,b,he⟩:=bE he
  have he:(bif Xk e.ps&&e.rs.all Q0i then (Qgv (Qt e.ps).2 cs).bind fun y=>some (st,LV.clo (Qt e.ps).1 (e.rs.map (·.t)) (Qc0 e y (e.rs.map (·.t)))) else none)=some (st',lv):=he
  cases hq:(Xk e.ps&&e.rs.all Q0i) with
  | false=>rw [hq] at he;cases he
  | true=>
   rw [hq] at he
   obtain ⟨y,hy,he⟩:=bE he
   obtain ⟨rfl,rfl⟩:=Prod.mk.inj (sI he)
   simp only [Bool.and_eq_true] at hq
   rw [List.append_nil]
   exact ⟨S,fun _ x=>x,h,(hΓ f e b).clo hq.1 hq.2 (Qc1 hy hc)⟩
 | sv::r,st,st',S,cs,lv,vals,cvals,h,he,hv,hc=>by
  obtain ⟨v,vr,rfl,h1,h2⟩:=hv
  cases sv with
  | dead=>cases he
  | skip=>cases he
  | tup _=>cases he
  | ap _ _ _ _=>cases he
  | win _ _ _ _=>cases he
  | tupe _ _ _=>cases he
  | tupn _=>cases he
  | ep t x=>
   have he:Q03 Γ tab f st r (cs++[⟨t,x⟩])=some (st',lv):=he
   have:=Q12 hΓ h he h2 (hc.snoc h1)
   rw [List.append_assoc] at this
   exact this
  | cv c=>
   cases c with
   | agg _=>cases he
   | one u=>
    cases u<;>try (cases he;done)
    case ptr l off=>
    cases off with
    | succ n=>cases he
    | zero=>
     obtain ⟨⟨d,t,x⟩,hf,he⟩:=bE he
     obtain ⟨S1,g1,g2,g3⟩:=h.frzBox hf h1
     obtain ⟨S2,k1,k2,k3⟩:=Q12 hΓ g2 he (h2.mono h.sb g1) ((hc.mono g1).snoc g3)
     rw [List.append_assoc] at k3
     exact ⟨S2,fun k hk=>k1 k (g1 k hk),k2,k3⟩
def Qap (P:Program) (tab:Tab) (N:NN) (w0:World) (F:FF) (S:Nat→Prop) (β:Lab→Value) (a:Act) (w:World) (o:Oper) {R:Type} (k:St→List Lab→Option R) (b:R):Prop:=
 ∀ (Q:Exit→Act→World→Prop) (K:Act→World→Prop),
  (∀ x w' S' β' s W,(∀ k,S k→S' k)→(∀ l:Lab,l.1≠o.dst.getD 999999999→β' l=β l)→Rel P tab.ty N w0 F S' β' s (a.put o.dst x) w'→k s W=some b→K (a.put o.dst x) w')→o.wp P a w K Q
theorem Xe.fin {o:Oper} {v:SV} {del:List Lab} {u:Upd} {R:Type} {k:St→List Lab→Option R} {b:R} (hg:Xe P tab N w0 F S β st a w o v del u) (hd:∀ d,o.dst=some d→okD N d)
  (hf:Z3 st o v del u k=some b):Qap P tab N w0 F S β a w o k b:=by
 obtain ⟨s,hs,hk⟩:=bE hf
 intro Q K hK
 refine hg Q K (fun x w' hx=>?_)
 obtain ⟨S',β',h1,hβ,h2,h3⟩:=hx s hs
 exact hK x w' S' β' _ _ h1 hβ (h2.put hd h3) hk
theorem Qap.mono {o:Oper} {R:Type} {k:St→List Lab→Option R} {b:R} {S1:Nat→Prop} (hS:∀ k,S k→S1 k) (h:Qap P tab N w0 F S1 β a w o k b):Qap P tab N w0 F S β a w o k b:=
 fun Q K hK=>h Q K (fun x w' S' β' s W h1 h2 h3 h4=>hK x w' S' β' s W (fun k hk=>h1 k (hS k hk)) h2 h3 h4)
theorem Qiq {v:IV} {T:TypeId} (h:IV.is v T=true):∃ cs,v=.mk T cs:=by
 cases v with
 | nil=>cases h
 | mk T' cs=>have:=Nat.eq_of_beq_eq_true h;subst this;exact ⟨cs,rfl⟩
theorem Q6b {Γ:Ctx} (hΓ:Je tab.ty P Γ) (b:Qc P tab) (h:Rel P tab.ty N w0 F S β st a w) {o:Oper} {r:Operand} {m:String} {args:Array Operand} {ts:Array TypeId} (ho:o.op=.call { callee:=.invoke r m,args:=args,argTypes:=ts })
  {v:IV} (hr:Qb st.slots r=.cv (.one (.pure .ifc v))) {R:Type} {k:SV→List Lab→Upd→Option R} {p:R}:∀ {l:List TypeId},Jb Γ tab (Q0 st.objs) (o.dst.getD 999999999) m v (args.toList.map (Qb st.slots)) k l=some p →
   ∃ x del u,k x del u=some p∧Xe P tab N w0 F S β st a w o x del u
 | [],he=>by cases he
 | T::l,he=>by
  unfold Jb at he
  split at he
  case h_2=>cases he
  case h_1 T' n f t htd hty=>
  cases hq:(decide (n=m)&&t.isAgg&&Nat.beq T' T) with
  | false=>rw [hq] at he;cases he
  | true=>
   rw [hq] at he
   simp only [cond_true] at he
   simp only [Bool.and_eq_true,decide_eq_true_eq] at hq
   obtain ⟨⟨q,A⟩,c⟩:=hq
   have c:=Nat.eq_of_beq_eq_true c
   subst q;subst c
   cases d:IV.is v T' with
   | false=>rw [d] at he;exact Q6b hΓ b h ho hr he
   | true=>
    rw [d] at he
    simp only [cond_true] at he
    obtain ⟨e,g,he⟩:=bE he
    obtain ⟨cs,rfl⟩:=Qiq d
    have hx:=Q4 h r
    rw [hr] at hx
    obtain ⟨hv,s⟩:=hx
    have hv:a.eval r=.iface T' (.agg (cs.map AT.val).toArray):=List.singleton_inj.1 hv
    obtain ⟨y,hy⟩:=s t hty
    have j:IV.val (IV.mk T' cs) t=y:=by simp only [IV.val,hy]
    rw [j] at he
    have i:Rep tab.ty S w t y (cs.map AT.val):=by
     obtain ⟨l1,e1,z⟩:=Q9o (S:=S) (w:=w) (τ:=tab.ty) hy
     rw [List.append_nil] at e1
     subst e1
     exact z
    exact Q9t hΓ h g (svs:=.cv (.agg (lvs t y))::args.toList.map (Qb st.slots)) (vals:=.agg (cs.map AT.val).toArray::args.toList.map a.eval) ⟨_,_,rfl,⟨cs.map AT.val,rfl,Q9u i⟩,Q3r h args.toList⟩
     (fun Q K hc=>Qhw ho hv (b.mth _ _ n f htd) (hΓ f e g).1 Q K hc) he
theorem Qal {Γ:Ctx} (hΓ:Je tab.ty P Γ) (j:Qc P tab) {kn:List (Nat × Bool)} (hk:Q4r kn a) {S1:Nat→Prop} {p:St} (h:Rel P tab.ty N w0 F S1 β p a w) {o:Oper} (hd:∀ d,o.dst=some d→okD N d) {R:Type} {k:St→List Lab→Option R} {D:R}
  (he:Zp Γ tab kn p o k=some D):Qap P tab N w0 F S1 β a w o k D:=by
 unfold Zp at he
 have i:(ev1 tab kn (Qb p.slots) (Q0 p.objs) (o.dst.getD 999999999) o.op o.type).bind (fun r=>bif r.1 then Z3 p o r.2.1 [] r.2.2 k else none)=some D→Qap P tab N w0 F S1 β a w o k D:=by
  intro he
  obtain ⟨⟨c,v,u⟩,hr,he⟩:=bE he
  cases hc:c with
  | false=>rw [hc] at he;cases he
  | true=>
   rw [hc] at he
   exact (Qfh j hk h hr hc).toO.fin hd he
 cases ho:o.op<;>rw [ho] at he i<;>try exact i he
 case convert sT dT x=>
  simp only at he
  cases B:(bif Q6k Γ then Q3j tab (o.dst.getD 999999999) sT dT (Qb p.slots x) else none) with
  | some r=>
   obtain ⟨c,v,u⟩:=r
   rw [B] at he
   simp only at he
   cases hc:c with
   | false=>rw [hc] at he;cases he
   | true=>
    rw [hc] at he
    cases hw:Q6k Γ with
    | false=>rw [hw] at B;cases B
    | true=>
     rw [hw] at B
     exact (Qar j h ho B hc).fin hd he
  | none=>
  rw [B] at he
  simp only at he
  cases hb:Q53 tab (Q0 p.objs) sT dT (Qb p.slots x) with
  | none=>rw [hb] at he;exact i he
  | some r=>
   obtain ⟨c,v,del⟩:=r
   rw [hb] at he
   simp only at he
   cases hc:c with
   | false=>rw [hc] at he;cases he
   | true=>
    rw [hc] at he
    exact (Qbx j h ho hb hc).fin hd he
 case slice T x lo hi mx=>
  simp only at he
  cases hw:(Q6k Γ&&Qgu (Q0 p.objs) (Qb p.slots x)) with
  | false=>rw [hw] at he;exact i he
  | true=>
   rw [hw] at he
   clear i
   simp only [cond_true] at he
   obtain ⟨n,hn,he⟩:=bE he
   obtain ⟨l,hl,he⟩:=bE he
   obtain ⟨m,hm,he⟩:=bE he
   obtain ⟨q,hq,he⟩:=bE he
   obtain ⟨⟨c,v,u⟩,hr,he⟩:=bE he
   cases hc:c with
   | false=>rw [hc] at he;cases he
   | true=>
    rw [hc] at he
    exact (Qae j h ho hn hl hm hq hr hc).fin hd he
 case makeFunc fn first captured=>
  clear i
  cases fn<;>try (cases he;done)
  case func f=>
  cases t:first.toList with
  | cons _ _=>simp only [t] at he;cases he
  | nil=>
   simp only [t] at he
   obtain ⟨⟨O,lv⟩,hm,he⟩:=bE he
   obtain ⟨S2,g1,g2,g3⟩:=Q12 hΓ h hm (Q3r h captured.toList) (cs:=[]) (cvals:=[]) rfl
   refine Qap.mono g1 (Xe.fin (Qa.toO (Qa.plain g2 (x:=.func (.func f) #[] (captured.map a.eval)) ?_ ?_)) hd he)
   ·unfold execOp
    have e1:first=#[]:=by apply Array.ext';simpa using t
    subst e1
    simp [ho,Instr.makeFunc]
   ·have e2:captured.map a.eval=([]++captured.toList.map a.eval).toArray:=by apply Array.ext';simp
    rw [e2]
    exact g3
 case call cl=>
  obtain ⟨callee,args,argTypes⟩:=cl
  cases callee with
  | invoke r m=>
   clear i
   simp only at he
   split at he
   case h_2=>cases he
   case h_1 v hr=>
   obtain ⟨x,del,u,A,hg⟩:=Q6b hΓ j h ho hr he
   exact hg.fin hd A
  | builtin b=>
   cases b<;>try exact i he
   case cap=>
    clear i
    simp only [Jo,X8] at he
    split at he
    case h_2=>cases he
    case h_1 x T ha ht=>
    obtain ⟨r,hr,he⟩:=bE he
    cases hq:(Q2l tab T r.eT r.e&&r.ex) with
    | false=>rw [hq] at he;cases he
    | true=>
     rw [hq] at he
     simp only [Bool.and_eq_true] at hq
     exact (Qfm h ho ha ht (Q3v j hq.1).1 hr hq.2).fin hd he
   case copy=>
    clear i
    simp only [Jo,X8] at he
    split at he
    case h_2=>cases he
    case h_1 x y T T' ha ht=>
    obtain ⟨r,hr,he⟩:=bE he
    cases hq:Q2l tab T r.eT r.e with
    | false=>rw [hq] at he;cases he
    | true=>
     rw [hq] at he
     obtain ⟨zs,hz,he⟩:=bE he
     exact (Qd4 j h ho ha ht hr hq hz).fin hd he
   case clear=>
    clear i
    simp only [Jo,X8] at he
    split at he
    case h_2=>cases he
    case h_1 x T ha ht=>
    obtain ⟨r,hr,he⟩:=bE he
    cases hq:Q2l tab T r.eT r.e with
    | false=>rw [hq] at he;cases he
    | true=>
     rw [hq] at he
     exact (Qcd j h ho ha ht hr hq).fin hd he
   case append=>
   clear i
   simp only [Jo,X8] at he
   split at he
   case h_2=>cases he
   case h_1 s x T T' ha ht=>
   split at he
   case h_1 l0 lo0 n0 sz0 hws=>
    obtain ⟨r,hr,he⟩:=bE he
    cases hq:(Q2l tab T r.eT r.e&&Nat.beq r.lo 0) with
    | false=>rw [hq] at he;cases he
    | true=>
     rw [hq] at he
     simp only [cond_true] at he
     simp only [Bool.and_eq_true] at hq
     have E:=Nat.eq_of_beq_eq_true hq.2
     split at he
     ·rename_i z hz
      obtain ⟨c0,zs⟩:=z
      cases hc:(c0&&r.ex&&Nat.blt r.ys.length (r.n+zs.length)&&Nat.ble (r.ys.length+zs.length) 536870912) with
      | false=>rw [hc] at he;cases he
      | true=>
       rw [hc] at he
       simp only [Bool.and_eq_true] at hc
       exact (Q8x j h ho ha ht hr hq.1 E hz hc.1.1.1 hc.1.1.2 (Q2.1 hc.1.2) (Q2.1 hc.2)).fin hd he
     ·obtain ⟨zs,hz,he⟩:=bE he
      cases hc:Nat.ble (r.n+zs.length) r.ys.length with
      | true=>
       rw [hc] at he
       exact (Qay j h ho ha ht hr hq.1 E hz (Q2.1 hc)).fin hd he
      | false=>
       rw [hc] at he
       simp only [cond_false] at he
       cases C:(r.ex&&Nat.ble (r.n+zs.length) 1073741824) with
       | false=>rw [C] at he;cases he
       | true=>
        rw [C] at he
        simp only [Bool.and_eq_true] at C
        obtain ⟨xs,M,he⟩:=bE he
        have K:r.ys.length<r.n+zs.length:=by
         rcases Nat.lt_or_ge r.ys.length (r.n+zs.length) with J | I
         ·exact J
         ·rw [Q2.2 I] at hc;cases hc
        exact (Q8s j h ho ha ht hr hq.1 E hz K C.1 (Q2.1 C.2) M).fin hd he
   case h_2=>
   split at he
   case h_1=>
    obtain ⟨v,del,u,A,hg⟩:=Q8v j h ho ha ht he
    exact hg.fin hd A
   case h_2=>
   obtain ⟨⟨c,v,del,u⟩,hr,he⟩:=bE he
   cases hc:c with
   | false=>rw [hc] at he;cases he
   | true=>
    rw [hc] at he
    cases G:isL (Q0 p.objs) (Qb p.slots x) with
    | true=>rw [G] at hr;exact (Q8r j h ho ha ht hr).fin hd he
    | false=>rw [G] at hr;exact (Qat j h ho ha ht hr hc).fin hd he
  | value f=>
   clear i
   simp only at he
   split at he
   case h_3=>cases he
   case h_1 g hf=>
    split at he
    ·rename_i e H
     obtain ⟨v,del,u,A,hg⟩:=Qdl hΓ h ho hf H he
     exact hg.fin hd A
    ·split at he
     ·rename_i z hz
      obtain ⟨g1,g2⟩:=Qfj j h ho hf hz
      cases hq:z.1 with
      | true=>rw [hq] at he;exact (g1 hq).fin hd he
      | false=>rw [hq] at he;exact (g2 hq).fin hd he
     ·obtain ⟨_,L,he⟩:=bE he
      exact (Qfp j h ho hf L).fin hd he
   case h_2 ps rs g hf=>
    obtain ⟨⟨x,rd⟩,hx,he⟩:=bE he
    cases hq:rd.all (Q0j (Q0 p.objs)) with
    | false=>simp only [hq] at he;cases he
    | true=>
     simp only [hq,cond_true] at he
     obtain ⟨r,hr,he⟩:=bE he
     exact (Qfu h ho hf hx hq hr).fin hd he
theorem Q7l {Γ:Ctx} (hΓ:Je tab.ty P Γ) (b:Qc P tab) {kn:List (Nat × Bool)} (hk:Q4r kn a) (h0:Rel P tab.ty N w0 F S β st a w) {o:Oper} (hd:∀ d,o.dst=some d→okD N d) {R:Type} {k:St→List Lab→Option R} {c:R}
  (he:Q47 Γ tab kn st o k=some c):Qap P tab N w0 F S β a w o (fun s W=>k s ((bif Qgi st (Q73 Γ (Q0 st.objs) (Qb st.slots) o)||Jx o then st.objs.map (·.1) else [])++W)) c:=by
 unfold Q47 at he
 obtain ⟨f,hz,he⟩:=bE he
 obtain ⟨S1,e,h⟩:=Q0r h0 hz
 exact Qap.mono e (Qal hΓ b hk h hd he)
end
end Go.PE
namespace Go.PE
section
variable {P:Program} {tab:Tab} {N:NN} {w0:World} {F:FF} {S:Nat→Prop} {β:Lab→Value} {st:St} {a:Act} {w:World}
theorem Q4r.cons {kn:List (Nat × Bool)} (h:Q4r kn a) {t:Nat} {b:Bool} (hb:a.tmps.getD t undef=.bool b):Q4r ((t,b)::kn) a:=by
 intro u c hu
 simp only [Q54] at hu
 cases hq:Nat.beq t u with
 | true=>
  rw [hq] at hu
  have e:=Nat.eq_of_beq_eq_true hq
  subst e
  have:=sI hu
  subst this
  exact hb
 | false=>rw [hq] at hu;exact h u c hu
theorem Qf9 {kn:List (Nat × Bool)} {d:Option Nat} {t:Nat} {b:Bool} (h:Q54 (Q2a kn d) t=some b):Q54 kn t=some b∧d≠some t:=by
 cases d with
 | none=>exact ⟨h,by simp⟩
 | some d=>
  simp only [Q2a] at h
  induction kn with
  | nil=>cases h
  | cons p r ih=>
   obtain ⟨u,c⟩:=p
   rw [List.filter_cons] at h
   by_cases hq:u=d
   ·rw [show (!(Nat.beq u d))=false by rw [Z6.2 hq];rfl] at h
    obtain ⟨h1,h2⟩:=ih h
    refine ⟨?_,h2⟩
    simp only [Q54]
    have:u≠t:=fun e=>h2 (by rw [← hq,e])
    rw [Z1.2 this]
    exact h1
   ·rw [show (!(Nat.beq u d))=true by rw [Z1.2 hq];rfl] at h
    simp only [if_true,Q54] at h ⊢
    cases hb:Nat.beq u t with
    | true=>
     rw [hb] at h
     refine ⟨h,fun e=>hq ?_⟩
     have:=sI e
     rw [this];exact Nat.eq_of_beq_eq_true hb
    | false=>
     rw [hb] at h
     exact ih h
theorem Q4r.del {kn:List (Nat × Bool)} (h:Q4r kn a) {d:Option Nat} {x:Value}:Q4r (Q2a kn d) (a.put d x):=by
 intro t b ht
 obtain ⟨h1,h2⟩:=Qf9 ht
 have:=h t b h1
 cases d with
 | none=>exact this
 | some d=>
  have c:d≠t:=fun e=>h2 (by rw [e])
  simp only [Act.put,Array.getD_eq_getD_getElem?,Array.getElem?_setIfInBounds]
  rw [if_neg c]
  rw [Array.getD_eq_getD_getElem?] at this
  exact this
theorem Qb9 {R:Type} {x y:Option R} {r:R} (h:Q35 x y=some r):x=some r∧y=some r:=by
 unfold Q35 at h
 split at h
 ·rename_i e _;exact ⟨h,by rw [← e];exact h⟩
 ·cases h
theorem Q5f {kn:List (Nat × Bool)} (hk:Q4r kn a) {t:Nat} {v:SV} (hv:Qf P tab.ty S β w v (a.tmps.getD t undef)) {R:Type} {k:List (Nat × Bool)→Bool→Option R} {e:R}
  (he:Q5m kn t v k=some e):∃ d b,Q4r d a∧a.tmps.getD t undef=.bool b∧k d b=some e:=by
 unfold Q5m at he
 split at he
 ·rename_i b hb;exact ⟨kn,b,hk,hk t b hb,he⟩
 ·split at he
  ·rename_i b;exact ⟨kn,b,hk,hv,he⟩
  ·rename_i x
   have hx:a.tmps.getD t undef=.bool x:=List.singleton_inj.1 hv
   cases c:(show Bool from x) with
   | true=>
    have c:x=true:=c
    subst c
    exact ⟨(t,true)::kn,true,hk.cons hx,hx,he⟩
   | false=>
    have c:x=false:=c
    subst c
    exact ⟨(t,false)::kn,false,hk.cons hx,hx,he⟩
  ·rename_i ne
   obtain ⟨b,hb,f⟩:=hv
   cases ne with
   | true=>
    have:=f rfl
    subst this
    exact ⟨(t,false)::kn,false,hk.cons hb,hb,he⟩
   | false=>
    obtain ⟨h1,h2⟩:=Qb9 he
    cases b with
    | true=>exact ⟨(t,true)::kn,true,hk.cons hb,hb,h1⟩
    | false=>exact ⟨(t,false)::kn,false,hk.cons hb,hb,h2⟩
  ·cases he
theorem Q78 {c:Array Oper} {i t:Nat} {b:Bool} (ht:(c.toList[i]?).bind (·.dst)=some t) (hb:a.tmps.getD t undef=.bool b):yielded c a.tmps i=some b:=by
 unfold yielded
 rw [Array.getElem?_toList] at ht
 rw [ht]
 simp only [Option.bind_some]
 rw [Array.getD_eq_getD_getElem?] at hb
 cases hq:a.tmps[t]? with
 | none=>rw [hq] at hb;cases hb
 | some v=>rw [hq] at hb;have hb:v=.bool b:=hb;rw [hb]
theorem Q49 {b:Array Oper} {i t:Nat} (ht:(b.toList[i]?).bind (·.dst)=some t) (hb:a.tmps.getD t undef=undef):yielded b a.tmps i=none:=by
 unfold yielded
 rw [Array.getElem?_toList] at ht
 rw [ht]
 simp only [Option.bind_some]
 rw [Array.getD_eq_getD_getElem?] at hb
 cases hq:a.tmps[t]? with
 | none=>rfl
 | some v=>rw [hq] at hb;have hb:v=undef:=hb;rw [hb];rfl
theorem Q1j {Γ:Ctx} (hΓ:Je tab.ty P Γ) (g:Qc P tab) {e:Array Oper} {R:Type} {k:St→Option R} {j:R} {Q:Exit→Act→World→Prop}:∀ {l:List Oper} {kn:List (Nat × Bool)} {st:St} {S:Nat→Prop} {β:Lab→Value} {a:Act} {w:World},
  (∀ o∈l,∀ d,o.dst=some d→okD N d)→Q4r kn a→Rel P tab.ty N w0 F S β st a w→Q1c Γ tab e.toList l kn st k=some j →
  (∀ a' w' S' β' s,(∀ k,S k→S' k)→Rel P tab.ty N w0 F S' β' s a' w'→k s=some j→Q .normal a' w')→wpList P e Q l a w
 | [],kn,st,S,β,a,w,hd,hk,h,he,hQ=>hQ a w S β st (fun _ x=>x) h he
 | o::r,kn,st,S,β,a,w,hd,hk,h,he,hQ=>by
  have p:=hd o (List.mem_cons_self ..)
  have q:∀ o∈r,∀ d,o.dst=some d→okD N d:=fun o ho=>hd o (List.mem_cons_of_mem _ ho)
  have run:∀ c,Q4r c a→Q47 Γ tab c st o (fun s _=>Q1c Γ tab e.toList r (Q2a c o.dst) s k)=some j→o.wp P a w (wpList P e Q r) Q:=by
   intro c f he
   refine Q7l hΓ g f h p he Q _ (fun x w' S' β' s W h1 _ h2 h3=>?_)
   exact Q1j hΓ g q f.del h2 h3 (fun a' z y A s' g1 g2 g3=>hQ a' z y A s' (fun k hk=>g1 k (h1 k hk)) g2 g3)
  have skip:∀ c,Q4r c a→Q1c Γ tab e.toList r (Q2a c o.dst) (Q2b st o.dst .skip) k=some j→wpList P e Q r (a.put o.dst undef) w:=by
   intro c f he
   exact Q1j hΓ g q f.del (h.put p (v:=.skip) rfl) he hQ
  simp only [wpList]
  unfold Q1c at he
  cases hg:o.guard with
  | none=>
   rw [hg] at he
   have:Region.wanted o (yielded e a.tmps)=true:=by simp [Region.wanted,hg]
   rw [if_pos this]
   exact .inl (run kn hk he)
  | some gw=>
   obtain ⟨i,m⟩:=gw
   rw [hg] at he
   cases ht:(e.toList[i]?).bind (·.dst) with
   | none=>simp only [ht] at he;cases he
   | some t=>
    simp only [ht] at he
    by_cases n:Q9 st.slots t=.skip
    ·simp only [n] at he
     have hv:a.tmps.getD t undef=undef:=by have:=h.slots t;rw [n] at this;exact this
     have hy:=Q49 ht hv
     have hw:Region.wanted o (yielded e a.tmps)=false:=by simp [Region.wanted,hg,hy]
     rw [if_neg (by rw [hw];decide)]
     exact skip kn hk he
    have he:Q5m kn t (Q9 st.slots t) (fun c b=>
     match b,m with
     | true,true=>Q47 Γ tab c st o fun s _=>Q1c Γ tab e.toList r (Q2a c o.dst) s k
     | false,false=>Q47 Γ tab c st o fun s _=>Q1c Γ tab e.toList r (Q2a c o.dst) s k
     | _,_=>Q1c Γ tab e.toList r (Q2a c o.dst) (Q2b st o.dst .skip) k)=some j:=by
     cases u:Q9 st.slots t<;>first | (exact absurd u n) | (rw [u] at he;exact he)
    obtain ⟨c,b,f,hb,he⟩:=Q5f hk (h.slots t) he
    have hy:=Q78 ht hb
    have hw:Region.wanted o (yielded e a.tmps)=(some b==some m):=by simp [Region.wanted,hg,hy]
    cases b<;>cases m<;>simp only at he
    ·rw [if_pos (by rw [hw];rfl)];exact .inl (run c f he)
    ·rw [if_neg (by rw [hw];decide)];exact skip c f he
    ·rw [if_neg (by rw [hw];decide)];exact skip c f he
    ·rw [if_pos (by rw [hw];rfl)];exact .inl (run c f he)
theorem Q55 (t:Nat) (v:SV) (u:Nat):∀ (s:List (Nat × SV)),Q9 (s.map fun p=>bif Nat.beq p.1 t then (t,v) else p) u=.dead ∨
  (u≠t∧Q9 (s.map fun p=>bif Nat.beq p.1 t then (t,v) else p) u=Q9 s u)∨(u=t∧Q9 (s.map fun p=>bif Nat.beq p.1 t then (t,v) else p) u=v)
 | []=>.inl rfl
 | (m,x)::r=>by
  have ih:=Q55 t v u r
  rw [List.map_cons]
  cases hm:Nat.beq m t with
  | true=>
   have e:=Nat.eq_of_beq_eq_true hm
   subst e
   simp only [cond_true]
   rw [Qk,Qk]
   by_cases hu:m=u
   ·rw [if_pos hu];exact .inr (.inr ⟨hu.symm,rfl⟩)
   ·rw [if_neg hu,if_neg hu];exact ih
  | false=>
   simp only [cond_false]
   rw [Qk,Qk]
   have a:=Z1.1 hm
   by_cases hu:m=u
   ·rw [if_pos hu,if_pos hu];exact .inr (.inl ⟨fun e=>a (hu.trans e),rfl⟩)
   ·rw [if_neg hu,if_neg hu];exact ih
theorem Rel.slotSet (h:Rel P tab.ty N w0 F S β st a w) {t:Nat} {v:SV} (hv:Qf P tab.ty S β w v (a.tmps.getD t undef)):Rel P tab.ty N w0 F S β (PE.slotSet st t v) a w:=by
 refine ⟨h.sb,fun u=>?_,h.objs,h.excl,h.dist,h.fr,h.size,h.nodef,h.within,h.par⟩
 show Qf P tab.ty S β w (Q9 (st.slots.map fun p=>bif Nat.beq p.1 t then (t,v) else p) u) _
 rcases Q55 t v u st.slots with e | ⟨_,e⟩ | ⟨rfl,e⟩
 ·rw [e];trivial
 ·rw [e];exact h.slots u
 ·rw [e];exact hv
theorem Rel.newNil (h:Rel P tab.ty N w0 F S β st a w) {m:Lab} (hf:X2 st m=true) {eT:TypeId} {e:Ty} (hp:0<e.cells) :
  Rel P tab.ty N w0 F S (Jy β m (.slice none 0 0)) { st with objs:=(m,.row eT e [])::st.objs } a w:=by
 obtain ⟨h1,h2,h3⟩:=Z2 hf
 refine h.setObj (ob:=.row eT e []) (X:=fun _=>False) (Fr.refl _ w) (fun _ _ x=>x.elim) (.inr ⟨h2,fun k ob hk _=>h3 k ob hk⟩) (.inr (by simp [Qz])) ⟨hp,[],World.ownsRow_nil w 0 eT e.cells,rfl⟩ (fun b hb=>by cases hb) (fun k=>by rw [Q3])
theorem Rel.renOb (h:Rel P tab.ty N w0 F S β st a w) {l m:Lab} (L:l≠m) {B:Ob} (hol:Q0 st.objs l=some B) (hf:X2 st m=true) :
  ∃ β',Rel P tab.ty N w0 F S β' { slots:=st.slots.map fun p=>(p.1,Q0y (Jv l m) (fun k=>bif Xh k l then m else k) p.2),objs:=(Ju st.objs l).map (fun p=>(p.1,Q0a (Jv l m) p.2))++[(m,B)] } a w∧(∀ k,k≠m→β' k=β k):=by
 obtain ⟨h1,h2,h3⟩:=Z2 hf
 have d:∀ k,k≠m→Jy β m (β l) k=β k:=fun k hk=>Qn hk
 have H:∀ v c,(∀ k∈Qw v,k≠m)→Qm P tab.ty S β w v c→Qm P tab.ty S (Jy β m (β l)) w (Jv l m v) c:=by
  intro v c hm hv
  cases v<;>try exact hv.frame (fun _ x=>x) (Nat.le_refl _) (fun _ _ _=>rfl) h.sb (fun k hk=>d k (hm k hk))
  case ref k=>
   simp only [Jv]
   cases f:Xh k l with
   | true=>
    have:=Zc.1 f
    subst this
    exact ⟨by rw [Qh];exact hv.1,hv.2⟩
   | false=>exact ⟨by rw [d k (hm k (by simp [Qw]))];exact hv.1,hv.2⟩
 have y:∀ vs cs,(∀ k∈vs.flatMap Qw,k≠m)→Q5 P tab.ty S β w vs cs→Q5 P tab.ty S (Jy β m (β l)) w (vs.map (Jv l m)) cs:=by
  intro vs
  induction vs with
  | nil=>intro cs _ hv;exact hv
  | cons v r ih=>
   intro cs hm hv
   obtain ⟨c,cr,rfl,g1,g2⟩:=hv
   exact ⟨c,cr,rfl,H v c (fun k hk=>hm k (by simp [hk])) g1,ih cr (fun k hk=>hm k (by simp only [List.flatMap_cons,List.mem_append];exact .inr hk)) g2⟩
 have G:∀ c v,(∀ k∈Q0w c,k≠m)→Xm P tab.ty S β w c v→Xm P tab.ty S (Jy β m (β l)) w (Qbr (Jv l m) c) v:=by
  intro c v hm hv
  cases c with
  | one u=>exact H u v hm hv
  | agg vs=>obtain ⟨cs,e1,hc⟩:=hv;exact ⟨cs,e1,y vs cs hm hc⟩
 refine ⟨Jy β m (β l),⟨h.sb,fun t=>?_,fun k ob hk=>?_,fun k ob hk b hb=>?_,fun k k' ob K hk j I b hb=>?_,h.fr,h.size,h.nodef,h.within,h.par⟩,d⟩
 ·have e1:Q9 (st.slots.map fun p=>(p.1,Q0y (Jv l m) (fun k=>bif Xh k l then m else k) p.2)) t=Q0y (Jv l m) (fun k=>bif Xh k l then m else k) (Q9 st.slots t):=
   Q89 (fun v=>Q0y (Jv l m) (fun k=>bif Xh k l then m else k) v) rfl st.slots t
  show Qf P tab.ty S _ w (Q9 (st.slots.map fun p=>(p.1,Q0y (Jv l m) (fun k=>bif Xh k l then m else k) p.2)) t) _
  rw [e1]
  have hs:=h.slots t
  have hm:=h2 t
  revert hs hm
  generalize Q9 st.slots t=sv
  intro hs hm
  have q:∀ k∈Qe sv,k≠m:=fun k hk e=>hm (e▸hk)
  cases sv with
  | dead=>trivial
  | skip=>exact hs
  | cv c=>exact G c _ q hs
  | ep t x=>exact hs
  | tup cs=>
   obtain ⟨vs,e2,hc⟩:=hs
   refine ⟨vs,e2,?_⟩
   clear e2
   have D:∀ k∈cs.flatMap Q0w,k≠m:=q
   clear hm q e1
   induction cs generalizing vs with
   | nil=>exact hc
   | cons c r ih=>
    obtain ⟨v,vr,rfl,g1,g2⟩:=hc
    exact ⟨v,vr,rfl,G c v (fun k hk=>D k (by simp [hk])) g1,ih vr g2 (fun k hk=>D k (by simp only [List.flatMap_cons,List.mem_append];exact .inr hk))⟩
  | tupe k i sz=>
   obtain ⟨b,g1,g2⟩:=hs
   refine ⟨b,?_,g2⟩
   cases f:Xh k l with
   | true=>
    have:=Zc.1 f
    subst this
    show blk (Jy β m (β k) (bif Xh k k then m else k))=some b
    rw [f,cond_true,Qh];exact g1
   | false=>
    show blk (Jy β m (β l) (bif Xh k l then m else k))=some b
    rw [f,cond_false,d k (q k (by simp [Qe]))];exact g1
  | tupn x=>exact hs
  | ap k i off sz=>
   obtain ⟨b,g1,g2⟩:=hs
   refine ⟨b,?_,g2⟩
   cases f:Xh k l with
   | true=>
    have:=Zc.1 f
    subst this
    show blk (Jy β m (β k) (bif Xh k k then m else k))=some b
    rw [f,cond_true,Qh];exact g1
   | false=>
    show blk (Jy β m (β l) (bif Xh k l then m else k))=some b
    rw [f,cond_false,d k (q k (by simp [Qe]))];exact g1
  | win k lo n sz=>
   obtain ⟨A,n0,c0,A',g1,g2⟩:=hs
   refine ⟨A,n0,c0,A',?_,g2⟩
   cases f:Xh k l with
   | true=>
    have:=Zc.1 f
    subst this
    show Jy β m (β k) (bif Xh k k then m else k)=_
    rw [f,cond_true,Qh];exact g1
   | false=>
    show Jy β m (β l) (bif Xh k l then m else k)=_
    rw [f,cond_false,d k (q k (by simp [Qe]))];exact g1
 all_goals
  have g:∀ k ob,Q0 ((Ju st.objs l).map (fun p=>(p.1,Q0a (Jv l m) p.2))++[(m,B)]) k=some ob →
    (k=m∧ob=B)∨(k≠m∧k≠l∧∃ ob0,Q0 st.objs k=some ob0∧ob=Q0a (Jv l m) ob0):=by
   intro k ob hk
   rw [Q39] at hk
   have e1:Q0 ((Ju st.objs l).map fun p=>(p.1,Q0a (Jv l m) p.2)) k=(Q0 (Ju st.objs l) k).map (Q0a (Jv l m)):=Q3e _ _ _
   rw [e1,Zw] at hk
   by_cases f:l=k
   ·rw [if_pos f] at hk
    simp only [Option.map_none,Q3] at hk
    split at hk
    ·rename_i e2;exact .inl ⟨e2.symm,(sI hk).symm⟩
    ·cases hk
   ·rw [if_neg f] at hk
    cases ho:Q0 st.objs k with
    | none=>
     rw [ho] at hk
     simp only [Option.map_none,Q3] at hk
     split at hk
     ·rename_i e2;exact .inl ⟨e2.symm,(sI hk).symm⟩
     ·cases hk
    | some ob0=>
     rw [ho] at hk
     have hk:=sI hk
     exact .inr ⟨(fun e2=>by rw [e2,h1] at ho;cases ho),(fun e2=>f e2.symm),ob0,rfl,hk.symm⟩
 ·rcases g k ob hk with ⟨rfl,rfl⟩ | ⟨o,f,ob0,ho,rfl⟩
  ·rw [Qh]
   exact (h.objs l _ hol).frame (fun _ x=>x) (Nat.le_refl _) (fun _ _ _=>rfl) h.sb (fun k hk=>d k (fun e=>h3 l _ hol (e▸hk))) (fun _ _=>rfl)
  ·rw [d k o]
   have hob:=h.objs k ob0 ho
   have J:=h3 k ob0 ho
   cases ob0 with
   | row eT' e' xs'=>exact hob
   | arr eT' e' xs'=>exact hob
   | mem _ _ _ _ _=>exact hob
   | lrow eT' vs=>
    obtain ⟨cells,g1,g3⟩:=hob
    exact ⟨cells,(by rw [List.length_map];exact g1),y vs _ (fun k' j e=>J (e▸j)) g3⟩
   | box T vs=>
    obtain ⟨b,T',cs,g1,g2,g3⟩:=hob
    exact ⟨b,T',cs,g1,g2,y vs _ (fun k' j e=>J (e▸j)) g3⟩
 ·rcases g k ob hk with ⟨rfl,rfl⟩ | ⟨o,f,ob0,ho,rfl⟩
  ·rw [Qh] at hb;exact h.excl l _ hol b hb
  ·rw [d k o] at hb;exact h.excl k ob0 ho b hb
 ·rcases g k ob hk with ⟨rfl,rfl⟩ | ⟨o,f,ob0,ho,rfl⟩
  ·rcases g k' K j with ⟨rfl,rfl⟩ | ⟨s,C,z,E,rfl⟩
   ·exact absurd rfl I
   ·rw [Qh] at hb
    rw [d k' s]
    exact h.dist l k' _ z hol E (fun e=>C e.symm) b hb
  ·rcases g k' K j with ⟨rfl,rfl⟩ | ⟨s,C,z,E,rfl⟩
   ·rw [d k o] at hb
    rw [Qh]
    exact h.dist k l ob0 _ ho hol f b hb
   ·rw [d k o] at hb
    rw [d k' s]
    exact h.dist k k' ob0 z ho E I b hb
theorem Rel.ren (h:Rel P tab.ty N w0 F S β st a w) {l m:Lab} {st':St} (hr:PE.ren st l m=some st'):∃ β',Rel P tab.ty N w0 F S β' st' a w∧(∀ k,k≠m→β' k=β k):=by
 unfold PE.ren at hr
 cases hq:Xh l m with
 | true=>rw [hq] at hr;have:=sI hr;subst this;exact ⟨β,h,fun _ _=>rfl⟩
 | false=>
  rw [hq] at hr
  have b:=X7.1 hq
  simp only [cond_false] at hr
  split at hr
  case h_3=>cases hr
  case h_1 eT e xs hol=>
   cases hf:X2 st m with
   | false=>rw [hf] at hr;cases hr
   | true=>
    rw [hf] at hr
    have:=sI hr
    subst this
    exact h.renOb b hol hf
  case h_2 eT vs hol=>
   cases hf:(X2 st m&&!(Xw l (vs.flatMap Qw))) with
   | false=>rw [hf] at hr;cases hr
   | true=>
    rw [hf] at hr
    have:=sI hr
    subst this
    simp only [Bool.and_eq_true] at hf
    exact h.renOb b hol hf.1
end
end Go.PE
namespace Go.PE
section
variable {P:Program} {tab:Tab} {N:NN} {w0:World} {F:FF} {S:Nat→Prop} {β:Lab→Value} {st:St} {a:Act} {w:World}
theorem Xa {fi:Fi} {t:Nat} {l:Lab}:∀ {vs:List LV} {n:List Ty} {j:Nat} {st st':St} {S:Nat→Prop} {β:Lab→Value},Rel P tab.ty N w0 F S β st a w→Jr fi t l vs n j st=some st' →
  ∃ S' β',(∀ k,S k→S' k)∧Rel P tab.ty N w0 F S' β' st' a w
 | [],n,j,st,st',S,β,h,he=>by
  have he:some st=some st':=by cases n<;>exact he
  have:=sI he;subst this;exact ⟨S,β,fun _ x=>x,h⟩
 | v::r,[],j,st,st',S,β,h,he=>by
  have he:some st=some st':=by cases v<;>exact he
  have:=sI he;subst this;exact ⟨S,β,fun _ x=>x,h⟩
 | v::r,ty::q,j,st,st',S,β,h,he=>by
  cases v<;>try exact Xa (vs:=r) (n:=q) (j:=j+1) h he
  case ref m=>
   have he:(bif Q5z (t,j+1) fi.vals then (frz st m).bind fun s=>Jr fi t l r q (j+1) s else (ren st m (l.1,j+1)).bind fun s=>Jr fi t l r q (j+1) s)=some st':=he
   cases hp:Q5z (t,j+1) fi.vals with
   | true=>
    rw [hp] at he
    obtain ⟨s,hs,he⟩:=bE he
    obtain ⟨S1,g1,g2⟩:=h.frz hs
    obtain ⟨S2,β2,g3,g4⟩:=Xa g2 he
    exact ⟨S2,β2,fun k hk=>g3 k (g1 k hk),g4⟩
   | false=>
    rw [hp] at he
    obtain ⟨s,hs,he⟩:=bE he
    obtain ⟨β1,g2,_⟩:=h.ren hs
    exact Xa g2 he
  case nil=>
   cases ty<;>try (cases he;done)
   case sl eT e=>
   have he:(match Q0 st.objs l with
    | some (.box T' vs)=>match vs[j]? with
     | some .nil=>bif Q5z (t,j+1) fi.vals then Jr fi t l r q (j+1) { st with objs:=Q46 st.objs l (.box T' (vs.set j (.pure (.sl eT e) []))) }
      else bif X2 st (l.1,j+1)&&Nat.blt 0 e.cells then
       Jr fi t l r q (j+1) { st with objs:=((l.1,j+1),.row eT e [])::Q46 st.objs l (.box T' (vs.set j (.ref (l.1,j+1)))) }
      else none
     | _=>none
    | _=>none)=some st':=he
   cases hol:Q0 st.objs l with
   | none=>rw [hol] at he;cases he
   | some ob=>
    rw [hol] at he
    cases ob<;>try (cases he;done)
    case box T' vs=>
    simp only at he
    cases y:vs[j]? with
    | none=>rw [y] at he;cases he
    | some u=>
     rw [y] at he
     cases u<;>try (cases he;done)
     case nil=>
     simp only at he
     obtain ⟨b,A,cs,hβ,hh,f⟩:=h.objs l _ hol
     obtain ⟨c,C,hc⟩:=f.get j y
     have hc:c=.slice none 0 0:=hc
     subst hc
     have o:cs.toList.set j (.slice none 0 0)=cs.toList:=by
      apply List.ext_getElem?
      intro i
      rw [List.getElem?_set]
      split
      ·rename_i e1;subst e1
       split
       ·exact C.symm
       ·rename_i G;rw [List.getElem?_eq_none (by omega)]
      ·rfl
     have D:∀ ob m,(if l=m then some ob else Q0 st.objs m)=(if l=m then (Q0 st.objs l).map (fun _=>ob) else Q0 st.objs m):=fun ob m=>by rw [hol];rfl
     cases hp:Q5z (t,j+1) fi.vals with
     | true=>
      rw [hp] at he
      have h1:Rel P tab.ty N w0 F S (Jy β l (β l)) { st with objs:=Q46 st.objs l (.box T' (vs.set j (.pure (.sl eT e) []))) } a w:=by
       refine h.setObj (ob:=.box T' (vs.set j (.pure (.sl eT e) []))) (X:=fun _=>False) (Fr.refl _ w) (fun _ _ x=>x.elim) (.inl rfl) (.inl rfl) ⟨b,A,cs,hβ,hh,?_⟩ (fun k hk=>⟨.inr ⟨⟨_,hol⟩,hk⟩,(h.excl l _ hol k hk).2.2⟩) (fun m=>by rw [Jf,D])
       have:=f.set j (v:=.pure (.sl eT e) []) (c:=.slice none 0 0) ⟨none,0,rfl,Nat.le_refl _,by simp [maxLen],fun h=>absurd h (by simp)⟩
       rw [o] at this
       exact this
      exact Xa h1 he
     | false=>
      rw [hp] at he
      cases hq:(X2 st (l.1,j+1)&&Nat.blt 0 e.cells) with
      | false=>rw [hq] at he;cases he
      | true=>
       rw [hq] at he
       simp only [Bool.and_eq_true] at hq
       have h1:=h.newNil hq.1 (eT:=eT) (Q2.1 hq.2)
       have p:l≠(l.1,j+1):=fun e1=>by
        have:=(Z2 hq.1).1
        rw [← e1,hol] at this;cases this
       have d:Q0 (((l.1,j+1),Ob.row eT e [])::st.objs) l=some (.box T' vs):=by rw [Q3,if_neg (fun e1=>p e1.symm)];exact hol
       have h2:Rel P tab.ty N w0 F S (Jy (Jy β (l.1,j+1) (.slice none 0 0)) l (Jy β (l.1,j+1) (.slice none 0 0) l)) { st with objs:=((l.1,j+1),.row eT e [])::Q46 st.objs l (.box T' (vs.set j (.ref (l.1,j+1)))) } a w:=by
        obtain ⟨b',T3,E,z,B,g⟩:=h1.objs l _ d
        have e3:Jy β (l.1,j+1) (.slice none 0 0) l=β l:=Qn p
        rw [e3,hβ] at z
        simp only [Value.pointer.injEq,Option.some.injEq,Addr.mk.injEq] at z
        obtain ⟨rfl,_⟩:=z
        rw [hh] at B
        have e4:=sI B
        injection e4 with e5 e6 _
        subst e5;subst e6
        refine h1.setObj (ob:=.box T' (vs.set j (.ref (l.1,j+1)))) (X:=fun _=>False) (Fr.refl _ w) (fun _ _ x=>x.elim) (.inl rfl) (.inl rfl) ⟨b,A,cs,by rw [e3];exact hβ,hh,?_⟩ (fun k hk=>⟨.inr ⟨⟨_,d⟩,hk⟩,(h1.excl l _ d k hk).2.2⟩) (fun m=>?_)
        ·have:=g.set j (v:=.ref (l.1,j+1)) (c:=.slice none 0 0) ⟨Qh ..,_,_,_,rfl⟩
         rw [o] at this
         exact this
        ·rw [Q3,Jf,hol]
         show _=if l=m then _ else Q0 (((l.1,j+1),Ob.row eT e [])::st.objs) m
         rw [Q3]
         by_cases e1:(l.1,j+1)=m
         ·rw [if_pos e1,if_neg (fun e2=>p (e2.trans e1.symm)),if_pos e1]
         ·rw [if_neg e1,if_neg e1];rfl
       exact Xa h2 he
theorem Q2r {t:Nat}:∀ {vs:List LV} {i:Nat} {st st':St} {β:Lab→Value},Rel P tab.ty N w0 F S β st a w→Q9w t vs i st=some st'→∃ β',Rel P tab.ty N w0 F S β' st' a w
 | [],i,st,st',β,h,he=>by have:=sI he;subst this;exact ⟨β,h⟩
 | v::r,i,st,st',β,h,he=>by
  cases v<;>try exact Q2r (vs:=r) (i:=i+1) h he
  case ref k=>
   obtain ⟨s,hs,he⟩:=bE he
   obtain ⟨β1,g,_⟩:=h.ren hs
   exact Q2r g he
theorem Qbc {t:Nat} {st st':St} {β:Lab→Value} (h:Rel P tab.ty N w0 F S β st a w) (he:Qgk t st=some st'):∃ β',Rel P tab.ty N w0 F S β' st' a w:=by
 unfold Qgk at he
 split at he
 ·exact Q2r h he
 ·have:=sI he;subst this;exact ⟨β,h⟩
theorem Q6f {e:Ty}:∀ {us:List LV} {xs:List e.den} {cs:List Value},Q70 e us=some xs→Q5 P tab.ty S β w us cs→us.length=xs.length∧Q1 tab.ty S w e xs cs
 | [],xs,cs,he,h=>by
  have:=sI he
  subst this
  exact ⟨rfl,h⟩
 | v::r,xs,cs,he,h=>by
  cases v<;>try (cases he;done)
  case pure t x=>
   simp only [Q70,Option.bind_eq_some_iff,Option.some.injEq] at he
   obtain ⟨y,hy,l,hl,rfl⟩:=he
   obtain ⟨c,cr,rfl,h1,h2⟩:=h
   obtain ⟨g1,g2⟩:=Q6f hl h2
   exact ⟨by simp [g1],[c],cr,rfl,Xz hy h1,g2⟩
theorem Qcp {st st':St} {S:Nat→Prop} {β:Lab→Value} {l:Lab} (h:Rel P tab.ty N w0 F S β st a w) (he:Qh3 st l=some st'):∃ S' β',(∀ k,S k→S' k)∧Rel P tab.ty N w0 F S' β' st' a w:=by
 unfold Qh3 at he
 split at he
 ·obtain ⟨s,hs,he⟩:=bE he
  obtain ⟨S1,h1,h2⟩:=Q0r h hs
  split at he
  ·rename_i eT us hol
   obtain ⟨e,_,he⟩:=bE he
   obtain ⟨xs,d,he⟩:=bE he
   cases hq:Nat.beq e.cells 1 with
   | false=>rw [hq] at he;cases he
   | true=>
    rw [hq] at he
    have:=sI he
    subst this
    have hc:=Nat.eq_of_beq_eq_true hq
    obtain ⟨cells,c,b⟩:=h2.objs l _ hol
    obtain ⟨g1,g2⟩:=Q6f d b
    refine ⟨S1,Jy β l (β l),h1,h2.setObj (ob:=.row eT e xs) (X:=fun _=>False) (Fr.refl _ w) (fun _ _ x=>x.elim) (.inl rfl) (.inl rfl) ⟨by omega,cells,?_,g2⟩ (fun k hk=>⟨.inr ⟨⟨_,hol⟩,hk⟩,(h2.excl l _ hol k hk).2.2⟩) (fun m=>?_)⟩
    ·rw [hc,← g1];exact c
    ·rw [Jf,hol];rfl
  ·cases he
 ·have:=sI he;subst this;exact ⟨S,β,fun _ x=>x,h⟩
theorem Qce {st:St} {S:Nat→Prop} {β:Lab→Value} {l:Lab} (h:Rel P tab.ty N w0 F S β st a w):∃ S' β',(∀ k,S k→S' k)∧Rel P tab.ty N w0 F S' β' (Qgl st l) a w:=by
 unfold Qgl
 split
 ·rename_i eT e xs hol
  refine ⟨S,Jy β l (β l),fun _ x=>x,h.setObj (ob:=.mem eT e (xs.map some) xs.length false) (X:=fun _=>False) (Fr.refl _ w) (fun _ _ x=>x.elim) (.inl rfl) (.inl rfl) (Qee (h.objs l _ hol) _) (fun k hk=>⟨.inr ⟨⟨_,hol⟩,hk⟩,(h.excl l _ hol k hk).2.2⟩) (fun m=>?_)⟩
  rw [Jf,hol];rfl
 ·exact ⟨S,β,fun _ x=>x,h⟩
theorem Xr:∀ {ms:List (Nat × Nat)} {id:Nat} {st st':St} {S:Nat→Prop} {β:Lab→Value},Rel P tab.ty N w0 F S β st a w→Q31 ms id st=some st'→∃ S' β',(∀ k,S k→S' k)∧Rel P tab.ty N w0 F S' β' st' a w
 | [],id,st,st',S,β,h,he=>by have:=sI he;subst this;exact ⟨S,β,fun _ x=>x,h⟩
 | (i,t)::r,id,st,st',S,β,h,he=>by
  unfold Q31 at he
  cases hq:Nat.beq i id with
  | false=>rw [hq] at he;exact Xr h he
  | true=>
   rw [hq] at he
   simp only [cond_true] at he
   cases b:Nat.ble 1000000 t with
   | true=>
    rw [b] at he
    simp only [cond_true] at he
    split at he
    ·obtain ⟨S1,β1,g1,g2⟩:=Qce h (l:=‹_›)
     obtain ⟨S2,β2,g3,g4⟩:=Xr g2 he
     exact ⟨S2,β2,fun k hk=>g3 k (g1 k hk),g4⟩
    ·exact Xr h he
   | false=>
   rw [b] at he
   simp only [cond_false] at he
   split at he
   ·obtain ⟨s,hs,he⟩:=bE he
    obtain ⟨S1,β1,g1,g2⟩:=Qcp h hs
    obtain ⟨S2,β2,g3,g4⟩:=Xr g2 he
    exact ⟨S2,β2,fun k hk=>g3 k (g1 k hk),g4⟩
   ·exact Xr h he
theorem Qo (c:Qc P tab) {fi:Fi}:∀ {ks:List Nat} {st st':St} {S:Nat→Prop} {β:Lab→Value},Rel P tab.ty N w0 F S β st a w→Zz tab fi ks st=some st' →
  ∃ S' β',(∀ k,S k→S' k)∧Rel P tab.ty N w0 F S' β' st' a w
 | [],st,st',S,β,h,he=>by have:=sI he;subst this;exact ⟨S,β,fun _ x=>x,h⟩
 | t::r,st,st',S,β,h,he=>by
  have hs:=h.slots t
  unfold Zz at he
  split at he
  ·rename_i hsl
   rw [hsl] at hs
   have hv:a.tmps.getD t undef=.slice none 0 0:=hs
   cases f:Q5z (t,999) fi.vals with
   | true=>rw [f] at he;exact Qo c h he
   | false=>
   rw [f] at he
   simp only [cond_false] at he
   obtain ⟨T,hT,he⟩:=bE he
   split at he
   case h_2=>cases he
   case h_1 eT htd=>
   obtain ⟨e,hte,he⟩:=bE he
   cases hp:Q5z (t,0) fi.vals with
   | true=>
    rw [hp] at he
    refine Qo c (h.slotSet (v:=.cv (.one (.pure (.sl eT e) []))) ?_) he
    exact ⟨none,0,by rw [hv];rfl,Nat.le_refl _,by simp [maxLen],fun h=>absurd h (by simp)⟩
   | false=>
    rw [hp] at he
    cases hf:X2 st (Q8b t) with
    | false=>rw [hf] at he;cases he
    | true=>
     rw [hf] at he
     have h1:=h.newNil hf (eT:=eT) (c.pos T eT e htd hte)
     have h2:=h1.slotSet (t:=t) (v:=.cv (.one (.ref (Q8b t)))) ⟨by rw [hv];exact Qh ..,_,_,_,hv⟩
     exact Qo c h2 he
  ·rename_i l hsl
   cases hp:Q5z (t,0) fi.vals with
   | true=>
    rw [hp] at he
    obtain ⟨s,d,he⟩:=bE he
    obtain ⟨S1,g1,g2⟩:=h.frz d
    obtain ⟨S2,β2,g3,g4⟩:=Qo c g2 he
    exact ⟨S2,β2,fun k hk=>g3 k (g1 k hk),g4⟩
   | false=>
    rw [hp] at he
    obtain ⟨s,d,he⟩:=bE he
    obtain ⟨β1,g2,_⟩:=h.ren d
    obtain ⟨s2,g,he⟩:=bE he
    obtain ⟨β2,g3⟩:=Qbc g2 g
    exact Qo c g3 he
  ·rename_i b hsl
   rw [hsl] at hs
   have hv:a.tmps.getD t undef=.bool b:=hs
   exact Qo c (h.slotSet (v:=.cv (.one (.pure .bool b))) (by rw [hv];exact (rfl:[_]=[_]))) he
  ·rename_i l hsl
   obtain ⟨s,d,he⟩:=bE he
   split at d
   ·rename_i T vs hol
    obtain ⟨ty,hty,d⟩:=bE d
    obtain ⟨S1,β1,g1,g2⟩:=Xa h d
    obtain ⟨S2,β2,g3,g4⟩:=Qo c g2 he
    exact ⟨S2,β2,fun k hk=>g3 k (g1 k hk),g4⟩
   ·have:=sI d
    subst this
    exact Qo c h he
  ·exact Qo c h he
theorem Q0l (st:St):∀ (ls:List Lab) (l:Lab) (ob:Ob),Q0 (ls.filterMap fun l=>(Q0 st.objs l).map fun b=>(l,b)) l=some ob→Q0 st.objs l=some ob
 | [],l,ob,h=>by cases h
 | m::r,l,ob,h=>by
  rw [List.filterMap_cons] at h
  cases hm:Q0 st.objs m with
  | none=>rw [hm] at h;exact Q0l st r l ob h
  | some b=>
   rw [hm] at h
   simp only [Option.map_some,Q3] at h
   split at h
   ·rename_i e;subst e;rw [hm];exact h
   ·exact Q0l st r l ob h
theorem Q7a (b:Qc P tab) {fi:Fi} {ks:List Nat} {st':St} (h:Rel P tab.ty N w0 F S β st a w) (he:Qfw tab fi ks st=some st'):∃ S' β',(∀ k,S k→S' k)∧Rel P tab.ty N w0 F S' β' st' a w:=by
 obtain ⟨s,hs,he⟩:=bE he
 have:=sI he
 subst this
 obtain ⟨S1,β1,g1,g2⟩:=Qo b (st:=Q82 { st with slots:=trim ks st.slots } (Q4d (Qh4 { st with slots:=trim ks st.slots }))) ((h.trim ks).weaken (fun t=>.inr rfl) (fun l ob hl=>Q0l { st with slots:=trim ks st.slots } _ l ob hl)) hs
 exact ⟨S1,β1,g1,g2.weaken (fun t=>.inr rfl) (fun l ob hl=>Q0l s _ l ob hl)⟩
def Qa6:EX→Exit
 | .normal=>.normal
 | .exit id=>.exit id
 | .ret=>.ret
def Q8k (P:Program) (Γ:Ctx) (tab:Tab) (N:NN):Prop:=∀ (w0:World) (F:FF) (S:Nat→Prop) (β:Lab→Value) (st:St) (a:Act) (w:World) (id:Nat) (b:Array Oper) (R:Type) (k:St→Option R) (c:R) (Q:Exit→Act→World→Prop),
 (∀ o∈b.toList,∀ d,o.dst=some d→okD N d)→Rel P tab.ty N w0 F S β st a w→Qdg Γ tab b st k=some c →
 (∀ a' w' S' β' s,(∀ k,S k→S' k)→Rel P tab.ty N w0 F S' β' s a' w'→k s=some c→Q .normal a' w')→(Code.region id b true).wp P Q a w
theorem Q7r (d:Qc P tab) {c:Code} {R:Type} {body:St→(EX→St→Option R)→Option R} {nm:St→Option St} {b:R}
  (f:∀ {st st':St} {S:Nat→Prop} {β:Lab→Value} {a:Act} {w:World},Rel P tab.ty N w0 F S β st a w→nm st=some st'→∃ S' β',(∀ k,S k→S' k)∧Rel P tab.ty N w0 F S' β' st' a w)
  (hb:∀ {st:St} {S:Nat→Prop} {β:Lab→Value} {a:Act} {w:World} {k:EX→St→Option R} {Q:Exit→Act→World→Prop},Rel P tab.ty N w0 F S β st a w→body st k=some b →
   (∀ e a' w' S' β' s,(∀ k,S k→S' k)→Rel P tab.ty N w0 F S' β' s a' w'→k e s=some b→Q (Qa6 e) a' w')→c.wp P Q a w) :
  ∀ (n:Nat) {st:St} {S:Nat→Prop} {β:Lab→Value} {a:Act} {w:World} {k:EX→St→Option R} {Q:Exit→Act→World→Prop},Rel P tab.ty N w0 F S β st a w→Q7s body nm n st k=some b →
   (∀ e a' w' S' β' s,(∀ k,S k→S' k)→Rel P tab.ty N w0 F S' β' s a' w'→k e s=some b→Q (Qa6 e) a' w')→Code.rounds P c Q n a w
 | 0,st,S,β,a,w,k,Q,h,he,hQ=>by cases he
 | n+1,st,S,β,a,w,k,Q,h,he,hQ=>by
  rw [rounds_succ]
  refine hb h he (fun e a' w' S' β' s hS h' hk=>?_)
  cases e with
  | normal=>
   obtain ⟨s',j,hk⟩:=bE hk
   obtain ⟨S1,β1,g1,g2⟩:=f h' j
   exact Q7r d f hb n g2 hk (fun e i m g o l g3 g4 g5=>hQ e i m g o l (fun k hk=>g3 k (g1 k (hS k hk))) g4 g5)
  | exit id=>exact hQ (.exit id) a' w' S' β' s hS h' hk
  | ret=>exact hQ .ret a' w' S' β' s hS h' hk
theorem Q0q {n0:Nat} (C:n0≤N.1) {Γ:Ctx} (hΓ:Je tab.ty P Γ) (f:Qc P tab) (hD:Q8k P Γ tab N) {fi:Fi} {n:Nat} {R:Type} {l:R}:∀ {c:Code} {st:St} {S:Nat→Prop} {β:Lab→Value} {a:Act} {w:World} {k:EX→St→Option R} {Q:Exit→Act→World→Prop},
  X3 n0 (N.2.map (·.1)) c=true→Rel P tab.ty N w0 F S β st a w→Xb Γ tab fi n c st k=some l →
  (∀ e a' w' S' β' s,(∀ k,S k→S' k)→Rel P tab.ty N w0 F S' β' s a' w'→k e s=some l→Q (Qa6 e) a' w')→c.wp P Q a w:=by
 intro c
 induction c with
 | skip=>intro st S β a w k Q hd h he hQ;exact wp_skip (hQ .normal a w S β st (fun _ x=>x) h he)
 | exit id=>intro st S β a w k Q hd h he hQ;exact wp_exit (hQ (.exit id) a w S β st (fun _ x=>x) h he)
 | ret=>intro st S β a w k Q hd h he hQ;exact wp_ret (hQ .ret a w S β st (fun _ x=>x) h he)
 | seq x y g i=>
  intro st S β a w k Q hd h he hQ
  simp only [X3,Bool.and_eq_true] at hd
  refine wp_seq (g hd.1 h he (fun e a' w' S' β' s hS h' hk=>?_))
  cases e with
  | normal=>exact i hd.2 h' hk (fun e B G A H s' g1 g2 g3=>hQ e B G A H s' (fun k hk=>g1 k (hS k hk)) g2 g3)
  | exit id=>exact hQ (.exit id) a' w' S' β' s hS h' hk
  | ret=>exact hQ .ret a' w' S' β' s hS h' hk
 | cond c x y g i=>
  intro st S β a w k Q hd h he hQ
  simp only [X3,Bool.and_eq_true] at hd
  cases c<;>try (cases he;done)
  case const v=>
   cases v<;>try (cases he;done)
   case bool b=>
   cases b with
   | true=>exact wp_cond (t:=true) rfl (g hd.1 h he hQ)
   | false=>exact wp_cond (t:=false) rfl (i hd.2 h he hQ)
  case tmp t=>
  have he:Q5m [] t (Q9 st.slots t) (fun _ q=>match q with | true=>Xb Γ tab fi n x st k | false=>Xb Γ tab fi n y st k)=some l:=he
  obtain ⟨I,b,_,hb,he⟩:=Q5f (kn:=[]) (fun t b ht=>by cases ht) (h.slots t) he
  cases b with
  | true=>exact wp_cond (t:=true) hb (g hd.1 h he hQ)
  | false=>exact wp_cond (t:=false) hb (i hd.2 h he hQ)
 | block id b ih=>
  intro st S β a w k Q hd h he hQ
  refine wp_block (ih hd h he (fun e a' w' S' β' s hS h' hk=>?_))
  cases e with
  | normal=>exact hQ .normal a' w' S' β' s hS h' hk
  | ret=>exact hQ .ret a' w' S' β' s hS h' hk
  | exit j=>
   simp only at hk
   show Exit.inBlock id Q (.exit j) a' w'
   simp only [Exit.inBlock]
   cases hj:Nat.beq j id with
   | true=>
    rw [hj] at hk
    rw [if_pos (Nat.eq_of_beq_eq_true hj)]
    exact hQ .normal a' w' S' β' s hS h' hk
   | false=>
    rw [hj] at hk
    rw [if_neg (Z1.1 hj)]
    exact hQ (.exit j) a' w' S' β' s hS h' hk
 | loop b ih=>
  intro st S β a w k Q hd h he hQ
  obtain ⟨s,hs,he⟩:=bE he
  obtain ⟨S1,β1,g1,g2⟩:=Q7a f h hs
  refine wp_loop_rounds n (Q7r f (fun h hn=>Q7a f h hn) (fun h hb hQ=>ih hd h hb hQ) n g2 he (fun e a' w' S' β' s' g3 g4 g5=>hQ e a' w' S' β' s' (fun k hk=>g3 k (g1 k hk)) g4 g5))
 | region id z m=>
  intro st S β a w k Q hd h he hQ
  have u:∀ o∈z.toList,∀ d,o.dst=some d→okD N d:=fun o ho d D=>by
   have:=List.all_eq_true.1 hd o ho
   rw [D] at this
   simp only [Bool.and_eq_true,Bool.not_eq_true'] at this
   refine ⟨Nat.lt_of_lt_of_le (Q2.1 this.1) C,fun p hp e=>?_⟩
   have h2:=this.2
   rw [← Bool.not_eq_true,Q27] at h2
   exact h2 (by rw [← e];exact List.mem_map.2 ⟨p,hp,rfl⟩)
  obtain ⟨E,hm,he⟩:=bE he
  obtain ⟨Sm,βm,r,h⟩:=Xr h hm
  cases m with
  | false=>
   refine wp_region_list (Q1j hΓ f u (fun t b ht=>by cases ht) h he (fun a' w' S' β' s hS h' hk=>?_))
   exact hQ .normal a' w' S' β' _ (fun k hk=>hS k (r k hk)) (h'.trim _) hk
  | true=>
   refine hD w0 F Sm βm E a w id z R _ l Q u h he (fun a' w' S' β' s hS h' hk=>?_)
   exact hQ .normal a' w' S' β' _ (fun k hk=>hS k (r k hk)) (h'.trim _) hk
 | _=>intro st S β a w k Q hd h he hQ;cases he
end
end Go.PE
namespace Go.PE
section
variable {P:Program} {tab:Tab} {N:NN} {w0:World} {F:FF} {S:Nat→Prop} {β:Lab→Value} {st:St} {a:Act} {w:World}
theorem Q3s {τ:TypeId→Option Ty} (c:Nat):∀ {ps:List PK} {x:PDs ps} {vals:List Value} {B:List Nat} (i:Nat),Jm ps=true→X5 τ P S w ps x vals B →
  ∃ vs,Jk P τ S w (Zl c i ps x) vs B (fun β=>∀ t,(t<i→Q9 (Zk i ps x) t=.dead)∧Qf P τ S β w (Q9 (Zk i ps x) t) (vals.getD (t - i) undef))
 | [],x,vals,B,i,_,h=>by
  obtain ⟨rfl,rfl⟩:=h
  exact ⟨[],Jk.none (fun β t=>⟨fun _=>rfl,trivial⟩)⟩
 | p::r,x,vals,B,i,f,h=>by
  obtain ⟨v,vr,B1,B2,rfl,rfl,h1,h2⟩:=h
  have j:Jm r=true:=by cases p<;>first | exact f | cases f
  obtain ⟨v2,f2⟩:=Q3s c (i+1) j h2
  have a:∀ (sv:SV) (β:Lab→Value),Qf P τ S β w sv v→(∀ t,(t<i+1→Q9 (Zk (i+1) r x.2) t=.dead)∧Qf P τ S β w (Q9 (Zk (i+1) r x.2) t) (vr.getD (t - (i+1)) undef)) →
    ∀ t,(t<i→Q9 ((i,sv)::Zk (i+1) r x.2) t=.dead)∧Qf P τ S β w (Q9 ((i,sv)::Zk (i+1) r x.2) t) ((v::vr).getD (t - i) undef):=by
   intro sv β hv hr t
   rw [Qk]
   refine ⟨fun k=>?_,?_⟩
   ·rw [if_neg (by omega)];exact (hr t).1 (by omega)
   ·by_cases e:i=t
    ·subst e;rw [if_pos rfl];simpa using hv
    ·rw [if_neg e]
     by_cases k:t<i
     ·rw [(hr t).1 (by omega)];trivial
     ·have:t - i=(t - (i+1))+1:=by omega
      rw [this]
      simpa using (hr t).2
  cases p with
  | val t=>
   obtain ⟨h1,rfl⟩:=h1
   exact ⟨v2,f2.mono (fun β hg=>a _ β (Q3k h1) hg)⟩
  | rbox t=>
   obtain ⟨h1,rfl⟩:=h1
   exact ⟨v2,f2.mono (fun β hg=>a (.ep t x.1) β h1 hg)⟩
  | fn l m=>
   obtain ⟨h1,rfl⟩:=h1
   exact ⟨v2,f2.mono (fun β hg=>a (.cv (.one (.clo l m x.1))) β h1 hg)⟩
  | own eT e=>
   obtain ⟨d,⟨cells,b,g⟩,rfl⟩:=h1
   have f1:Jk P τ S w [((i,0),Ob.row eT e x.1)] [((i,0),v)] ((blk v).toList) (fun β=>Qf P τ S β w (.cv (.one (.ref (i,0)))) v):=by
    refine ⟨rfl,by simp [Q6t],fun β hβ=>?_⟩
    have h0:=hβ ((i,0),v) (List.mem_cons_self ..)
    refine ⟨fun q hq=>?_,h0,Zy b⟩
    have:=List.mem_singleton.1 hq
    subst this
    show Z7 P τ S β w (.row eT e x.1) (β (i,0))
    rw [h0]
    exact ⟨d,cells,b,g⟩
   exact ⟨_,(f1.append f2).mono (fun β hg=>a _ β hg.1 hg.2)⟩
  | io eT e=>
   obtain ⟨d,⟨cells,b,g⟩,rfl⟩:=h1
   have f1:Jk P τ S w [((i,0),Ob.row eT e x.1)] [((i,0),v)] ((blk v).toList) (fun β=>Qf P τ S β w (.cv (.one (.ref (i,0)))) v):=by
    refine ⟨rfl,by simp [Q6t],fun β hβ=>?_⟩
    have h0:=hβ ((i,0),v) (List.mem_cons_self ..)
    refine ⟨fun q hq=>?_,h0,Zy b⟩
    have:=List.mem_singleton.1 hq
    subst this
    show Z7 P τ S β w (.row eT e x.1) (β (i,0))
    rw [h0]
    exact ⟨d,cells,b,g⟩
   exact ⟨_,(f1.append f2).mono (fun β hg=>a _ β hg.1 hg.2)⟩
  | ownc eT e=>cases f
  | ownh eT e=>cases f
  | box T t own=>
   obtain ⟨v1,f1,_⟩:=Q7x (P:=P) i 1 (i,0) T h1
   exact ⟨_,(f1.append f2).mono (fun β hg=>a (.cv (.one (.ptr (i,0) 0))) β hg.1 hg.2)⟩
theorem Qhe {α:Type} (l:List (Option α)) (c:Nat):(List.append l (List.replicate c none)).length=l.length+c:=by
 show (l++_).length=_
 rw [List.length_append,List.length_replicate]
theorem Qh8 {α:Type} {l:List (Option α)} {c i:Nat} {y:α} (hi:(List.append l (List.replicate c none))[i]?=some (some y)):l[i]?=some (some y):=by
 have hi:(l++List.replicate c none)[i]?=some (some y):=hi
 rcases Nat.lt_or_ge i l.length with b | a
 ·rw [List.getElem?_append_left b] at hi;exact hi
 ·rw [List.getElem?_append_right a,List.getElem?_replicate] at hi
  split at hi
  ·exact absurd (sI hi) (by simp)
  ·cases hi
theorem Qg2 {α:Type} (l:List α) (c:Nat):(l.map some++List.replicate c none:List (Option α)).length=l.length+c:=by simp
def Q2z:List PK→List Value→Nat
 | .ownc _ _::_,.slice _ n c::_=>c - n
 | .ownh _ _::_,.slice _ n c::_=>c - n
 | _,_=>0
theorem Qh2 {τ:TypeId→Option Ty} {ps:List PK} {x:PDs ps} {vals:List Value} {B:List Nat} (h:X5 τ P S w ps x vals B):Q2z ps vals≤maxLen:=by
 cases ps with
 | nil=>exact Nat.zero_le _
 | cons p r=>
  cases p<;>try exact Nat.zero_le _
  case ownc eT e=>
   obtain ⟨v,vr,B1,B2,rfl,rfl,⟨b,⟨cells,a,f⟩,rfl⟩,h2⟩:=h
   rcases a.2 with ⟨e1,e2⟩ | ⟨g,cap,d,e1,_,_,e2,e3,_⟩
   ·rw [e1];exact Nat.zero_le _
   ·rw [e1];exact Nat.le_trans (Nat.sub_le _ _) e3
  case ownh eT e=>
   obtain ⟨v,vr,B1,B2,rfl,rfl,⟨b,⟨A,c,hv,h1,h2,_⟩,rfl⟩,_⟩:=h
   rw [hv];exact Nat.le_trans (Nat.sub_le _ _) h2
theorem Qdv {τ:TypeId→Option Ty} {ps:List PK} {x:PDs ps} {vals:List Value} {B:List Nat} (h1:Qbe ps=true) (h:X5 τ P S w ps x vals B) :
  ∃ vs,Jk P τ S w (Zl (Q2z ps vals) 0 ps x) vs B (fun β=>∀ t,Qf P τ S β w (Q9 (Zk 0 ps x) t) (vals.getD t undef)):=by
 have plain:Jm ps=true→∃ vs,Jk P τ S w (Zl (Q2z ps vals) 0 ps x) vs B (fun β=>∀ t,Qf P τ S β w (Q9 (Zk 0 ps x) t) (vals.getD t undef)):=fun j=>by
  obtain ⟨vs,hf⟩:=Q3s (P:=P) (Q2z ps vals) 0 j h
  exact ⟨vs,hf.mono (fun β hg t=>by have:=(hg t).2;simpa using this)⟩
 cases ps with
 | nil=>exact plain h1
 | cons p r=>
  cases p with
  | ownh eT e=>
   obtain ⟨v,vr,B1,B2,rfl,rfl,⟨k,⟨A,cp,hv,o,s,m⟩,rfl⟩,h2⟩:=h
   have j:Jm r=true:=h1
   subst hv
   generalize a:Q2z (.ownh eT e::r) (.slice A (List.length (α:=Option e.den) x.1) cp::vr)=c
   obtain ⟨v2,f2⟩:=Q3s (P:=P) c 1 j h2
   have a:cp - (List.length (α:=Option e.den) x.1)=c:=a
   have f:(List.append (α:=Option e.den) x.1 (List.replicate c none)).length=List.length (α:=Option e.den) x.1+c:= Qhe (α:=e.den) x.1 c
   have f1:Jk P τ S w [((600000,0),Ob.mem eT e (List.append (α:=Option e.den) x.1 (List.replicate c none)) (List.length (α:=Option e.den) x.1) true)] [((600000,0),.slice A (List.length (α:=Option e.den) x.1) cp)] ((blk (.slice A (List.length (α:=Option e.den) x.1) cp)).toList) (fun β=>Qf P τ S β w (.win (600000,0) 0 (List.length (α:=Option e.den) x.1) e.cells) (.slice A (List.length (α:=Option e.den) x.1) cp)):=by
    refine ⟨rfl,by simp [Q6t],fun β hβ=>?_⟩
    have h0:=hβ ((600000,0),.slice A (List.length (α:=Option e.den) x.1) cp) (List.mem_cons_self ..)
    have l:List.length (α:=Option e.den) x.1≤cp:=o
    refine ⟨fun q hq=>?_,A,List.length (α:=Option e.den) x.1,cp,A,h0,by omega,by simp,fun _=>by cases A<;>simp [Addr.add]⟩
    have:=List.mem_singleton.1 hq
    subst this
    show Z7 P τ S β w (.mem eT e _ _ true) (β (600000,0))
    rw [h0]
    refine ⟨k,A,cp,rfl,by rw [f];omega,l,s,fun _=>by rw [f];omega,?_⟩
    rcases m with hn | ⟨g,d,e6,hg,e4,hm⟩
    ·exact .inl hn
    ·refine .inr ⟨g,d,e6,hg,e4,fun i y hi=>?_⟩
     exact hm i y (Qh8 (α:=e.den) hi)
   refine ⟨_,(f1.append f2).mono (fun β hg t=>?_)⟩
   show Qf P τ S β w (Q9 ((0,_)::Zk 1 r x.2) t) _
   rw [Qk]
   by_cases e:0=t
   ·subst e;rw [if_pos rfl];simpa using hg.1
   ·rw [if_neg e]
    have:=(hg.2 t).2
    obtain ⟨q,rfl⟩:∃ q,t=q+1:=⟨t - 1,by omega⟩
    simpa using this
  | ownc eT e=>
   obtain ⟨v,vr,B1,B2,rfl,rfl,⟨k,⟨cells,b,u⟩,rfl⟩,h2⟩:=h
   have j:Jm r=true:=h1
   generalize a:Q2z (.ownc eT e::r) (v::vr)=c
   obtain ⟨v2,f2⟩:=Q3s (P:=P) c 1 j h2
   obtain ⟨A,n,cp,hv⟩:=Zy b
   subst hv
   have a:cp - n=c:=a
   have hnx:n=x.1.length:=by
    rcases b.2 with ⟨e1,e2⟩ | ⟨g,cap,d,e1,_⟩
    ·injection e1 with _ e3 _;omega
    ·injection e1
   have f1:Jk P τ S w [((600000,0),Ob.mem eT e (List.map some x.1++List.replicate c none) (List.length x.1) true)] [((600000,0),.slice A n cp)] ((blk (.slice A n cp)).toList) (fun β=>Qf P τ S β w (.win (600000,0) 0 (List.length x.1) e.cells) (.slice A n cp)):=by
    refine ⟨rfl,by simp [Q6t],fun β hβ=>?_⟩
    have h0:=hβ ((600000,0),.slice A n cp) (List.mem_cons_self ..)
    have z:n≤cp∧cp≤maxLen:=by
     rcases b.2 with ⟨e1,e2⟩ | ⟨g,cap,d,e1,_,_,e2,e3,_⟩
     ·injection e1 with _ e3 e4;subst e4;exact ⟨by omega,by simp [maxLen]⟩
     ·injection e1 with _ e4 e5;subst e5;exact ⟨by omega,e3⟩
    refine ⟨fun q hq=>?_,A,n,cp,A,h0,by omega,by rw [hnx];simp,fun _=>by cases A<;>simp [Addr.add]⟩
    have:=List.mem_singleton.1 hq
    subst this
    show Z7 P τ S β w (.mem eT e _ _ true) (β (600000,0))
    rw [h0]
    have f:(List.map some x.1++List.replicate c none:List (Option e.den)).length=List.length x.1+c:=Qg2 (x.1:List e.den) c
    refine ⟨k,A,cp,by rw [hnx],by rw [f];omega,by omega,z.2,fun _=>by rw [f];omega,?_⟩
    rcases b.2 with ⟨e1,e2⟩ | ⟨g,cap,d,e1,_,hg,e2,e3,e4,e5⟩
    ·injection e1 with e6 _ e7;exact .inl ⟨e6,e7⟩
    ·injection e1 with e6 e7 e8
     subst e8
     exact .inr ⟨g,d,e6,hg,e4,Q8.of_row u (by rw [u.length];exact e5) c⟩
   refine ⟨_,(f1.append f2).mono (fun β hg t=>?_)⟩
   show Qf P τ S β w (Q9 ((0,_)::Zk 1 r x.2) t) _
   rw [Qk]
   by_cases e:0=t
   ·subst e;rw [if_pos rfl];simpa using hg.1
   ·rw [if_neg e]
    have:=(hg.2 t).2
    obtain ⟨q,rfl⟩:∃ q,t=q+1:=⟨t - 1,by omega⟩
    simpa using this
  | val _=>exact plain h1
  | box _ _ _=>exact plain h1
  | rbox _=>exact plain h1
  | fn _ _=>exact plain h1
  | own _ _=>exact plain h1
  | io _ _=>exact plain h1
theorem Q98 {ps:List PK} {x:PDs ps} {vals:List Value} {B:List Nat} (s:∀ k,S k→k<w.heap.size) (h:X5 tab.ty P S w ps x vals B) (u:B.Nodup) (hB:∀ k∈B,¬ S k∧k<w.heap.size)
  (n:Qbe ps=true) (hd:Zt ((Zl (Q2z ps vals) 0 ps x).map (·.1))=true) (a:Act) (o:a.defers=[]) (ha:∀ t,Q9 (Zk 0 ps x) t≠.dead→a.tmps.getD t undef=vals.getD t undef) (hN:a.tmps.size=N.1) (hp:∀ p∈N.2,a.tmps.getD p.1 undef=p.2) :
  ∃ β,Rel P tab.ty N w (fun k=>k∈B,S) S β { slots:=Zk 0 ps x,objs:=Zl (Q2z ps vals) 0 ps x } a w:=by
 obtain ⟨vs,f,e,j⟩:=Qdv (P:=P) n h
 have d:Zt (vs.map (·.1))=true:=by rw [f];exact hd
 obtain ⟨h1,h2⟩:=j (Qcl vs) (fun p hp=>Q28 d p hp)
 have mem:∀ l ob,Q0 (Zl (Q2z ps vals) 0 ps x) l=some ob→∃ p∈vs,p.1=l:=fun l ob hl=>by
  have:l∈vs.map (·.1):=by rw [f];exact List.mem_map.2 ⟨(l,ob),Zn hl,rfl⟩
  exact List.mem_map.1 this
 refine ⟨Qcl vs,s,fun t=>?_,fun l ob hl=>h1 (l,ob) (Zn hl),fun l ob hl b hb=>?_,fun l l' ob y hl r v b hb=>?_,Fr.refl _ w,hN,o,fun k hk=>.inl hk,hp⟩
 ·have:=h2 t
  by_cases i:Q9 (Zk 0 ps x) t=.dead
  ·show Qf P tab.ty S _ w (Q9 (Zk 0 ps x) t) _
   rw [i];trivial
  ·rw [ha t i];exact this
 ·obtain ⟨p,c,rfl⟩:=mem l ob hl
  rw [Q28 d p c] at hb
  have g:b∈B:=by rw [← e];exact List.mem_flatMap.2 ⟨p,c,by rw [hb];simp⟩
  exact ⟨(hB b g).1,.inr g,(hB b g).2⟩
 ·obtain ⟨p,c,rfl⟩:=mem l ob hl
  obtain ⟨q,m,rfl⟩:=mem l' y r
  rw [Q28 d p c] at hb
  rw [Q28 d q m]
  exact Q4m (by rw [e];exact u) p c q m v b hb
theorem Qhc (h:Rel P tab.ty N w0 F S β st a w) {S':Nat→Prop} (hS:∀ k,S k→S' k) {k:RK} {sv:SV} {v:Value} {x:k.t.den} {own rd:List Lab} (he:Qip (Q0 st.objs) k sv=some (x,own,rd)) (hv:Qf P tab.ty S β w sv v)
  (hr:∀ l∈rd,∀ b,blk (β l)=some b→S' b):Q2e tab.ty S' w k x v (Qr β own):=by
 unfold Qip at he
 unfold Q2e
 split at he
 ·rename_i c hp
  rw [hp]
  obtain ⟨y,hy,he⟩:=bE he
  cases hq:(Q3a (Q0 st.objs) (Qg (Xt c) k.own)&&Q0z (lvs k.t y) k.own) with
  | false=>rw [hq] at he;cases he
  | true=>
   rw [hq] at he
   obtain ⟨e1,e2⟩:=Prod.mk.inj (sI he)
   obtain ⟨e2,e3⟩:=Prod.mk.inj e2
   subst e1;subst e2;subst e3
   simp only [Bool.and_eq_true] at hq
   cases c with
   | one u=>
    have d:(bif k.t.isAgg then none else Jp (Q0 st.objs) k.t u)=some y:=hy
    cases ha:k.t.isAgg with
    | true=>rw [ha] at d;cases d
    | false=>
     rw [ha] at d
     have hl:lvs k.t y=[.pure k.t y]:=by
      generalize k.t=t at *
      cases t<;>first | rfl | cases ha
     refine ⟨[v],(fun h=>by cases h),(fun _=>rfl),?_⟩
     refine Q5x h.objs hS (vs:=[u]) ?_ ⟨v,[],rfl,hv,rfl⟩ hq.1 hq.2 hr
     rw [hl]
     exact ⟨d,trivial⟩
   | agg us=>
    have hw:∀ o,k.t.isAgg=true→Q1h o k.t (.agg us)=some y→Q14 o k.t us=some y:=by
     intro o ha hy
     unfold Q1h at hy
     rw [ha] at hy
     simp only [cond_true] at hy
     unfold Q14
     split at hy
     ·rename_i h2;first | (rw [h2];exact hy) | exact hy
     ·cases hy
    cases ha:k.t.isAgg with
    | false=>unfold Q1h at hy;rw [ha] at hy;cases hy
    | true=>
     obtain ⟨cs,e1,hc⟩:=hv
     refine ⟨cs,(fun _=>e1),(fun h=>by cases h),?_⟩
     exact Q5x h.objs hS (vs:=us) (Q1x (hw _ ha hy)) hc hq.1 hq.2 hr
 ·rename_i T l hp
  rw [hp]
  obtain ⟨⟨y,vs⟩,hy,he⟩:=bE he
  obtain ⟨e1,e2⟩:=Prod.mk.inj (sI he)
  obtain ⟨e2,e3⟩:=Prod.mk.inj e2
  subst e1;subst e2;subst e3
  exact (Q4u h hS hy hv hr).1
 ·cases he
theorem Q8p (h:Rel P tab.ty N w0 F S β st a w) {t:Nat} {st':St} (hc:Q5e st t=some st'):∃ β',Rel P tab.ty N w0 F S β' st' a w:=by
 unfold Q5e at hc
 split at hc
 case h_2=>have:=sI hc;subst this;exact ⟨β,h⟩
 case h_1 l n sz hs=>
 split at hc
 case h_2=>cases hc
 case h_1 eT e ys n0 ex ho=>
 cases hq:(Nat.beq sz e.cells&&X2 st (777000,t)&&Nat.ble n ys.length) with
 | false=>rw [hq] at hc;cases hc
 | true=>
  rw [hq] at hc
  simp only [cond_true] at hc
  simp only [Bool.and_eq_true] at hq
  obtain ⟨⟨q1,q2⟩,q3⟩:=hq
  have q1:=Nat.eq_of_beq_eq_true q1
  have q3:=Q2.1 q3
  subst q1
  obtain ⟨xs,v,hc⟩:=bE hc
  have hc:=sI hc
  subst hc
  obtain ⟨f1,f2,f3⟩:=Z2 q2
  have hsl:=h.slots t
  rw [hs] at hsl
  obtain ⟨A,K,c0,A',hβ,J,hv,hA⟩:=hsl
  have p:=hA (.inr rfl)
  rw [Nat.zero_mul] at p
  have y:A'=A:=by rw [p];cases A<;>simp [Addr.add]
  subst y
  obtain ⟨j,A2,c,r,k1,k2,k3,k4,k5⟩:=h.objs l _ ho
  rw [r] at hβ
  injection hβ with g1 g2 g3
  subst g1;subst g2;subst g3
  have s:xs.length=n:=Q1i (lo:=0) (by rw [List.drop_zero];exact v) (by omega)
  have hob:∀ β':Lab→Value,Z7 P tab.ty S β' w (.row eT e xs) (.slice A2 n c):=fun β'=>by
   rcases k5 with ⟨rfl,B⟩ | ⟨g,x,rfl,hg,C,hm⟩
   ·have E:n=0:=by omega
    subst E
    have I:xs=[]:=List.eq_nil_of_length_eq_zero s
    subst I
    subst B
    exact ⟨j,[],World.ownsRow_nil w 0 eT e.cells,rfl⟩
   ·have o:=hm.slice (lo:=0) (n:=n) (xs:=xs) (by rw [List.drop_zero];exact v)
    rw [Nat.zero_mul,List.drop_zero] at o
    exact ⟨j,_,⟨o.length,.inr ⟨g,c,x,by rw [s],Nat.zero_le _,hg,by omega,k3,C,rfl⟩⟩,o⟩
  have h1:=h.del l
  have i:∀ m d,Q0 (Ju st.objs l) m=some d→m≠l∧Q0 st.objs m=some d:=fun m d hm=>by
   rw [Zw] at hm
   split at hm
   ·cases hm
   ·rename_i G;exact ⟨fun e=>G e.symm,hm⟩
  have h2:=h1.reβ (β':=Jy β (777000,t) (.slice A2 n c)) (fun u m hm=>Qn (fun e=>f2 u (by rw [← e];exact hm)))
   (fun m d hm=>by
    obtain ⟨_,f⟩:=i m d hm
    exact ⟨Qn (fun e=>by rw [e,f1] at f;cases f),fun k hk=>Qn (fun e=>f3 m d f (by rw [← e];exact hk))⟩)
  have h3:=h2.add1 (l:=(777000,t)) (ob:=.row eT e xs) (objs':=((777000,t),.row eT e xs)::Ju st.objs l) (by rw [Qh];exact hob _) (fun b hb=>by
   rw [Qh] at hb
   have q:blk (β l)=some b:=by
    rw [r]
    cases A2 with
    | none=>cases hb
    | some ad=>exact hb
   obtain ⟨e1,e2,e3⟩:=h.excl l _ ho b q
   refine ⟨e1,e2,e3,fun m d hm H=>?_⟩
   obtain ⟨D,f⟩:=i m d H
   rw [Qn hm]
   exact fun z=>h.dist m l d _ f ho D b z q) (fun m=>by rw [Q3])
  refine ⟨_,⟨h3.sb,fun u=>?_,h3.objs,h3.excl,h3.dist,h3.fr,h3.size,h3.nodef,h3.within,h3.par⟩⟩
  show Qf P tab.ty S _ w (Q9 ((t,_)::st.slots) u) _
  rw [Qk]
  split
  ·rename_i e
   subst e
   refine ⟨?_,A2,n,c,by rw [hv];rfl⟩
   rw [Qh,hv];rfl
  ·exact h3.slots u
theorem Q17:∀ {rs:List ResultVar} {st st':St} {β:Lab→Value},Rel P tab.ty N w0 F S β st a w→Q29 rs st=some st'→∃ β',Rel P tab.ty N w0 F S β' st' a w
 | [],st,st',β,h,hc=>by have:=sI hc;subst this;exact ⟨β,h⟩
 | .tmp t::r,st,st',β,h,hc=>by
  obtain ⟨s,hs,hc⟩:=bE hc
  obtain ⟨β1,h1⟩:=Q8p h hs
  exact Q17 h1 hc
 | .cell _ _::r,st,st',β,h,hc=>Q17 (rs:=r) h hc
def Qco {A B:Type} (r:A→B→Prop):List A→List B→Prop
 | [],[]=>True
 | x::p,y::q=>r x y∧Qco r p q
 | _,_=>False
def Qb4 (P:Program) (a:Act) (w:World):ResultVar→Value→Prop
 | .tmp t,v=>v=a.tmps.getD t undef
 | .cell c T,v=>(do loadVar T (← asAddr (a.tmps.getD c undef)):Sem Value).run P w=.ok v w
theorem Qdf (d:Qc P tab) (h:Rel P tab.ty N w0 F S β st a w) {r:ResultVar} {sv:SV} (he:Qgo tab st r=some sv):∃ v,Qb4 P a w r v∧Qf P tab.ty S β w sv v:=by
 cases r with
 | tmp t=>have:=sI he;subst this;exact ⟨_,rfl,h.slots t⟩
 | cell c T=>
  obtain ⟨⟨q,v,u⟩,hl,he⟩:=bE he
  cases hq:q with
  | false=>rw [hq] at he;cases he
  | true=>
   rw [hq] at he hl
   have he:=sI he
   subst he
   obtain ⟨t,b,off,cs,hT,hx,e,f,hv,_⟩:=Q9q d h (x:=.tmp c) hl rfl
   refine ⟨_,?_,hv⟩
   have hx:a.tmps.getD c undef=.pointer (some ⟨b,off,none⟩):=hx
   unfold Qb4
   simp [hx,asAddr,Q69 hT e f]
theorem Q9g (c:Qc P tab) (h:Rel P tab.ty N w0 F S β st a w) {S':Nat→Prop} (hS:∀ k,S k→S' k):∀ {rs:List RK} {l:List ResultVar} {z:RDs rs} {own rd:List Lab},Qhb tab st rs l=some (z,own,rd) →
  (∀ l∈rd,∀ b,blk (β l)=some b→S' b)→∃ vs,Qco (Qb4 P a w) l vs∧Xc tab.ty S' w rs z vs (Qr β own)
 | [],[],z,own,rd,he,hr=>by
  obtain ⟨e1,e2⟩:=Prod.mk.inj (sI he)
  obtain ⟨e2,e3⟩:=Prod.mk.inj e2
  subst e2
  exact ⟨[],trivial,rfl,rfl⟩
 | [],_::_,z,own,rd,he,hr=>by cases he
 | _::_,[],z,own,rd,he,hr=>by cases he
 | k::r,x::q,z,own,rd,he,hr=>by
  obtain ⟨sv,d,he⟩:=bE he
  obtain ⟨⟨y,o1,r1⟩,hy,he⟩:=bE he
  obtain ⟨⟨z2,o2,r2⟩,hz,he⟩:=bE he
  obtain ⟨e1,e2⟩:=Prod.mk.inj (sI he)
  obtain ⟨e2,e3⟩:=Prod.mk.inj e2
  subst e1;subst e2;subst e3
  obtain ⟨v,hv,e⟩:=Qdf c h d
  obtain ⟨vs,g1,g2⟩:=Q9g c h hS hz (fun l hl=>hr l (List.mem_append.2 (.inr hl)))
  exact ⟨v::vs,⟨hv,g1⟩,v,vs,_,_,rfl,Qx β o1 o2,Qhc h hS hy e (fun l hl=>hr l (List.mem_append.2 (.inl hl))),g2⟩
def Q60 (a:Act):Nat→List PK→List Value→Prop
 | _,[],_=>True
 | i,.box _ _ _::r,vs=>∃ v vr,vs=v::vr∧a.tmps.getD i undef=v∧Q60 a (i+1) r vr
 | i,.val _::r,vs=>Q60 a (i+1) r vs.tail
 | i,.rbox _::r,vs=>Q60 a (i+1) r vs.tail
 | i,.fn _ _::r,vs=>Q60 a (i+1) r vs.tail
 | i,.own _ _::r,vs=>Q60 a (i+1) r vs.tail
 | i,.ownc _ _::r,vs=>Q60 a (i+1) r vs.tail
 | i,.ownh _ _::r,vs=>Q60 a (i+1) r vs.tail
 | i,.io _ _::r,vs=>∃ v vr,vs=v::vr∧a.tmps.getD i undef=v∧Q60 a (i+1) r vr
theorem Xq (h:Rel P tab.ty N w0 F S β st a w) {S':Nat→Prop} (hS:∀ k,S k→S' k):∀ {ps:List PK} {i:Nat} {vals:List Value} {x:ODs ps} {own rd:List Lab},Q2x st i ps=some (x,own,rd)→Q60 a i ps vals →
  (∀ l∈rd,∀ b,blk (β l)=some b→S' b)→Qu tab.ty S' w ps vals x (Qr β own)
 | [],i,vals,x,own,rd,he,hp,hr=>by
  obtain ⟨e1,e2⟩:=Prod.mk.inj (sI he)
  obtain ⟨e2,e3⟩:=Prod.mk.inj e2
  subst e2
  rfl
 | .box T t ow::r,i,vals,x,own,rd,he,hp,hr=>by
  obtain ⟨v,vr,rfl,hv,hp⟩:=hp
  have hs:=h.slots i
  have he:(match Q9 st.slots i with
   | .cv (.one (.ptr l 0))=>(Q5s (Q0 st.objs) T t ow l).bind fun x=>
    (Q2x st (i+1) r).bind fun z=>some (((x.1,z.1),l::Zs (Qg x.2 ow)++z.2.1,Qj (Qg x.2 ow)++z.2.2):ODs (.box T t ow::r) × List Lab × List Lab)
   | _=>none)=some (x,own,rd):=he
  split at he
  ·rename_i l hsl
   rw [hsl,hv] at hs
   obtain ⟨⟨y,us⟩,hy,he⟩:=bE he
   obtain ⟨⟨z,o2,r2⟩,hz,he⟩:=bE he
   obtain ⟨e1,e2⟩:=Prod.mk.inj (sI he)
   obtain ⟨e2,e3⟩:=Prod.mk.inj e2
   subst e1;subst e2;subst e3
   exact ⟨v,vr,_,_,rfl,Qx β (l::Zs (Qg us ow)) o2,(Q4u h hS hy hs (fun m hm=>hr m (List.mem_append.2 (.inl hm)))).1,Xq h hS hz hp (fun m hm=>hr m (List.mem_append.2 (.inr hm)))⟩
  ·cases he
 | .val t::r,i,vals,x,own,rd,he,hp,hr=>Xq h hS (ps:=r) he hp hr
 | .rbox t::r,i,vals,x,own,rd,he,hp,hr=>Xq h hS (ps:=r) he hp hr
 | .fn ps rs::r,i,vals,x,own,rd,he,hp,hr=>Xq h hS (ps:=r) he hp hr
 | .own eT e::r,i,vals,x,own,rd,he,hp,hr=>Xq h hS (ps:=r) he hp hr
 | .ownc eT e::r,i,vals,x,own,rd,he,hp,hr=>Xq h hS (ps:=r) he hp hr
 | .ownh eT e::r,i,vals,x,own,rd,he,hp,hr=>Xq h hS (ps:=r) he hp hr
 | .io eT e::r,i,vals,x,own,rd,he,hp,hr=>by
  obtain ⟨v,vr,rfl,hv,hp⟩:=hp
  have hs:=h.slots i
  have he:(match Q9 st.slots i with
   | .cv (.one (.ref l))=>bif Nat.blt 0 e.cells then (Q0h (Q0 st.objs) eT e (.ref l)).bind fun x=>(Q2x st (i+1) r).bind fun z=>some (((x.1,z.1),x.2++z.2.1,z.2.2):ODs (.io eT e::r) × List Lab × List Lab) else none
   | _=>none)=some (x,own,rd):=he
  split at he
  ·rename_i l hsl
   rw [hsl,hv] at hs
   cases hq:Nat.blt 0 e.cells with
   | false=>rw [hq] at he;cases he
   | true=>
    rw [hq] at he
    obtain ⟨⟨y,us⟩,hy,he⟩:=bE he
    obtain ⟨⟨z,o2,r2⟩,hz,he⟩:=bE he
    obtain ⟨e1,e2⟩:=Prod.mk.inj (sI he)
    obtain ⟨e2,e3⟩:=Prod.mk.inj e2
    subst e1;subst e2;subst e3
    exact ⟨v,vr,_,_,rfl,Qx β us o2,Q2d h hS (Q2.1 hq) hy hs,Xq h hS hz hp hr⟩
  ·cases he
theorem Q95 {g:ResultVar→Sem Value}:∀ {l:List ResultVar} {vs:List Value},Qco (fun r v=>(g r).run P w=.ok v w) l vs→(l.mapM g).run P w=.ok vs w
 | [],[],_=>rfl
 | [],_::_,h=>h.elim
 | _::_,[],h=>h.elim
 | x::r,v::q,h=>by
  have ih:=Q95 h.2
  simp [List.mapM_cons,h.1,ih]
theorem Qco.mono {A B:Type} {r r':A→B→Prop} (h:∀ x y,r x y→r' x y):∀ {l:List A} {q:List B},Qco r l q→Qco r' l q
 | [],[],_=>trivial
 | [],_::_,h'=>h'.elim
 | _::_,[],h'=>h'.elim
 | x::p,y::q,h'=>⟨h x y h'.1,Qco.mono h h'.2⟩
theorem Qc2 {fn:Func} {vs:List Value} (h:Qco (Qb4 P a w) fn.results.toList vs):(results fn a.tmps).run P w=.ok (Q62 vs) w:=by
 have b:∀ (g:ResultVar→Sem Value),(∀ r v,Qb4 P a w r v→(g r).run P w=.ok v w) →
   (do let vs ← fn.results.mapM g;pure (if h:vs.size=1 then vs[0] else .tuple vs):Sem Value).run P w=.ok (Q62 vs) w:=by
  intro g hg
  have h1:=Q95 (g:=g) (P:=P) (w:=w) (h.mono hg)
  simp only [Array.mapM_eq_mapM_toList]
  simp only [Sem.run_bind,Sem.run_map,h1,Result.andThen_ok]
  cases vs with
  | nil=>rfl
  | cons v q=>
   cases q with
   | nil=>rfl
   | cons _ _=>rfl
 exact b _ (fun r v hv=>by
  cases r with
  | tmp t=>have hv:v=a.tmps.getD t undef:=hv;subst hv;rfl
  | cell c T=>exact hv)
def Q1u:Nat→List PK→List Value→List (Nat × Value)
 | i,.box _ _ _::r,v::vr=>(i,v)::Q1u (i+1) r vr
 | i,.io _ _::r,v::vr=>(i,v)::Q1u (i+1) r vr
 | i,_::r,vs=>Q1u (i+1) r vs.tail
 | _,[],_=>[]
theorem Qby {τ:TypeId→Option Ty}:∀ {ps:List PK} {x:PDs ps} {vals:List Value} {B:List Nat} (i:Nat),X5 τ P S w ps x vals B→(Q1u i ps vals).map (·.1)=Q2t i ps
 | [],x,vals,B,i,h=>by cases vals<;>rfl
 | p::r,x,vals,B,i,h=>by
  obtain ⟨v,vr,B1,B2,rfl,rfl,h1,h2⟩:=h
  have ih:=Qby (i+1) h2
  cases p<;>simp [Q1u,Q2t,ih]
theorem J0 {vals:List Value}:∀ {ps:List PK} {vs:List Value} (i:Nat),vs=vals.drop i→∀ p∈Q1u i ps vs,vals.getD p.1 undef=p.2
 | [],vs,i,hv,p,hp=>by cases vs<;>simp [Q1u] at hp
 | q::r,[],i,hv,p,hp=>by
  have hn:vals.drop (i+1)=[]:=by rw [List.drop_eq_nil_iff] at *;have:=hv.symm;rw [List.drop_eq_nil_iff] at this;omega
  have hp:p∈Q1u (i+1) r []:=by cases q<;>exact hp
  exact J0 (i+1) hn.symm p hp
 | q::r,v::vr,i,hv,p,hp=>by
  have hd:vr=vals.drop (i+1):=by rw [← List.drop_drop,← hv];rfl
  have h0:vals.getD i undef=v:=by
   have:=congrArg (·[0]?) hv
   simp only [List.getElem?_cons_zero,List.getElem?_drop,Nat.add_zero] at this
   rw [List.getD_eq_getElem?_getD,← this];rfl
  cases q with
  | box T t own=>
   rcases List.mem_cons.1 hp with rfl | hp
   ·exact h0
   ·exact J0 (i+1) hd p hp
  | val t=>exact J0 (i+1) hd p hp
  | rbox t=>exact J0 (i+1) hd p hp
  | fn a b=>exact J0 (i+1) hd p hp
  | own eT e=>exact J0 (i+1) hd p hp
  | ownc eT e=>exact J0 (i+1) hd p hp
  | ownh eT e=>exact J0 (i+1) hd p hp
  | io eT e=>
   rcases List.mem_cons.1 hp with rfl | hp
   ·exact h0
   ·exact J0 (i+1) hd p hp
theorem Q0p {τ:TypeId→Option Ty} {a:Act}:∀ {ps:List PK} {x:PDs ps} {vals:List Value} {B:List Nat} (i:Nat),X5 τ P S w ps x vals B→(∀ p∈Q1u i ps vals,a.tmps.getD p.1 undef=p.2)→Q60 a i ps vals
 | [],x,vals,B,i,h,hp=>trivial
 | p::r,x,vals,B,i,h,hp=>by
  obtain ⟨v,vr,B1,B2,rfl,rfl,h1,h2⟩:=h
  cases p with
  | box T t own=>exact ⟨v,vr,rfl,hp (i,v) (List.mem_cons_self ..),Q0p (i+1) h2 (fun p c=>hp p (List.mem_cons_of_mem _ c))⟩
  | val t=>exact Q0p (i+1) h2 hp
  | rbox t=>exact Q0p (i+1) h2 hp
  | fn a b=>exact Q0p (i+1) h2 hp
  | own eT e=>exact Q0p (i+1) h2 hp
  | ownc eT e=>exact Q0p (i+1) h2 hp
  | ownh eT e=>exact Q0p (i+1) h2 hp
  | io eT e=>exact ⟨v,vr,rfl,hp (i,v) (List.mem_cons_self ..),Q0p (i+1) h2 (fun p c=>hp p (List.mem_cons_of_mem _ c))⟩
theorem Qg1 {τ:TypeId→Option Ty}:∀ {ps:List PK} {x:PDs ps} {vals:List Value} {B:List Nat},X5 τ P S w ps x vals B→vals.length=ps.length
 | [],x,vals,B,h=>by obtain ⟨rfl,_⟩:=h;rfl
 | p::r,x,vals,B,h=>by obtain ⟨v,vr,B1,B2,rfl,rfl,h1,h2⟩:=h;simp [Qg1 h2]
theorem Qfv (j:Qc P tab) {B:List Nat} {S0:Nat→Prop} {w1:World} (h:Rel P tab.ty N w1 (fun k=>k∈B,S0) S β st a w) (o:∀ k,S0 k→S k) {ps:List PK} {rs:List RK} {fn:Func} {r:RDs rs × ODs ps} (he:Qa1 tab ps rs fn st=some r)
  {vals:List Value} (hp:Q60 a 0 ps vals) {R:Ending→World→Prop}
  (hR:∀ vs S' B1 B2,Xc tab.ty S' w rs r.1 vs B1→Qu tab.ty S' w ps vals r.2 B2→(B1++B2).Nodup →
   (∀ k∈B1++B2,¬ S' k∧k<w.heap.size∧(w1.heap.size≤k∨k∈B))→(∀ k,S0 k→S' k)→(∀ k,S' k→k<w.heap.size∧(S0 k∨w1.heap.size≤k∨k∈B))→Fr (fun k=>k∈B) w1 w→R (.returned (Q62 vs)) w) :
  ∃ v,(results fn a.tmps).run P w=.ok v w∧R (.returned v) w:=by
 unfold Qa1 at he
 obtain ⟨⟨x,o1,r1⟩,h1,he⟩:=bE he
 obtain ⟨⟨y,o2,r2⟩,h2,he⟩:=bE he
 cases hq:(Zt (o1++o2)&&Q2w (o1++o2) (r1++r2)&&(o1++o2).all (Q0j (Q0 st.objs))&&(r1++r2).all (Q0j (Q0 st.objs))) with
 | false=>simp only [hq] at he;cases he
 | true=>
  simp only [hq,cond_true] at he
  have he:=sI he
  subst he
  simp only [Bool.and_eq_true] at hq
  obtain ⟨⟨⟨q1,q2⟩,q3⟩,q4⟩:=hq
  have c:∀ l∈o1++o2,∃ ob,Q0 st.objs l=some ob:=fun l hl=>Q32 (List.all_eq_true.1 q3 l hl)
  have p:∀ l∈r1++r2,∃ ob,Q0 st.objs l=some ob:=fun l hl=>Q32 (List.all_eq_true.1 q4 l hl)
  have d:∀ k,S k→(S k∨Q0b st β (r1++r2) k):=fun k hk=>.inl hk
  have n:∀ l∈r1++r2,∀ b,blk (β l)=some b→(S b∨Q0b st β (r1++r2) b):=fun l hl b hb=>by
   obtain ⟨ob,ho⟩:=p l hl
   exact .inr ⟨l,hl,ob,ho,hb⟩
  obtain ⟨vs,g1,g2⟩:=Q9g j h d h1 (fun l hl=>n l (List.mem_append.2 (.inl hl)))
  have g3:=Xq h d h2 hp (fun l hl=>n l (List.mem_append.2 (.inr hl)))
  refine ⟨_,Qc2 g1,hR vs _ _ _ g2 g3 (by rw [← Qx];exact Q1p h q1 c) (fun k hk=>?_) (fun k hk=>.inl (o k hk)) (fun k hk=>?_) h.fr⟩
  ·rw [← Qx] at hk
   obtain ⟨l,hl,hb⟩:=Q1b.1 hk
   obtain ⟨ob,ho⟩:=c l hl
   obtain ⟨e1,e2,e3⟩:=h.excl l ob ho k hb
   refine ⟨fun hx=>?_,e3,e2⟩
   rcases hx with hx | ⟨m,hm,i,g,f⟩
   ·exact e1 hx
   ·exact h.dist l m ob i ho g (fun e=>Q16 q2 l hl (e▸hm)) k hb f
  ·rcases hk with hk | ⟨m,hm,i,g,f⟩
   ·exact ⟨h.sb k hk,h.within k hk⟩
   ·obtain ⟨_,e2,e3⟩:=h.excl m i g k f
    exact ⟨e3,.inr e2⟩
theorem Q5j (b:Qc P tab) {B:List Nat} {S0:Nat→Prop} {w1:World} (h:Rel P tab.ty N w1 (fun k=>k∈B,S0) S β st a w) (c:∀ k,S0 k→S k) {ps:List PK} {rs:List RK} {fn:Func} {r:RDs rs × ODs ps} (he:Q4h tab ps rs fn st=some r)
  {vals:List Value} (hp:Q60 a 0 ps vals) {R:Ending→World→Prop}
  (hR:∀ vs S' B1 B2,Xc tab.ty S' w rs r.1 vs B1→Qu tab.ty S' w ps vals r.2 B2→(B1++B2).Nodup →
   (∀ k∈B1++B2,¬ S' k∧k<w.heap.size∧(w1.heap.size≤k∨k∈B))→(∀ k,S0 k→S' k)→(∀ k,S' k→k<w.heap.size∧(S0 k∨w1.heap.size≤k∨k∈B))→Fr (fun k=>k∈B) w1 w→R (.returned (Q62 vs)) w) :
  ∃ v,(results fn a.tmps).run P w=.ok v w∧R (.returned v) w:=by
 rw [Qgw] at he
 obtain ⟨s,hs,he⟩:=bE he
 obtain ⟨β',h'⟩:=Q17 h hs
 exact Qfv b h' c he hp hR
def Q4f (tab:Tab) (w:World) (S:Nat→Prop) (vals:List Value) (B:List Nat) {ps:List PK} {rs:List RK} (r:RDs rs × ODs ps) (ex:Ending) (w':World):Prop:=
 ∃ vs S' B1 B2,ex=.returned (Q62 vs)∧Xc tab.ty S' w' rs r.1 vs B1∧Qu tab.ty S' w' ps vals r.2 B2∧(B1++B2).Nodup ∧
   (∀ k∈B1++B2,¬ S' k∧k<w'.heap.size∧(w.heap.size≤k∨k∈B))∧(∀ k,S k→S' k) ∧
   (∀ k,S' k→k<w'.heap.size∧(S k∨w.heap.size≤k∨k∈B))∧Fr (fun k=>k∈B) w w'
theorem Qg3 {Γ:Ctx} (hΓ:Je tab.ty P Γ) (d:Qc P tab) (hD:∀ N,Q8k P Γ tab N) {f:FuncId} {fn:Func} (hf:P.funcs[f]?=some fn) (m:(fn.name=="runtime.NumGoroutine")=false) (h:fn.body.isNone=false) {ps:List PK} {rs:List RK} {fi:Fi} {n:Nat}
  {G:PDs ps→Option (RDs rs × ODs ps)} (hG:∀ c x r,c≤maxLen→G x=some r→Qdr Γ tab { fi with cap:=c } n ps rs fn x=some r):Q4t tab.ty P f ⟨ps,rs,G⟩:=by
 cases hb:fn.body with
 | none=>rw [hb] at h;cases h
 | some c=>
  refine ⟨⟨fn,hf,m,by rw [hb];rfl⟩,fun w S x vals B r k b l hB hg=>?_⟩
  have he:=hG (Q2z ps vals) x r (Qh2 b) hg
  unfold Qdr at he
  rw [hb] at he
  simp only at he
  cases hq:(X3 fn.ntmps (Q2t 0 ps) c&&Zt ((Zl (Q2z ps vals) 0 ps x).map (·.1))&&Qbe ps) with
  | false=>rw [hq] at he;cases he
  | true=>
   rw [hq] at he
   simp only [cond_true] at he
   simp only [Bool.and_eq_true] at hq
   refine calls_of_wp hf hb ?_
   have i:∀ t,(vals.toArray++Array.replicate (fn.ntmps - vals.toArray.size) undef).getD t undef=vals.getD t undef:=by
    intro t
    rw [Array.getD_eq_getD_getElem?,List.getD_eq_getElem?_getD,Array.getElem?_append]
    split
    ·simp
    ·rename_i j
     rw [List.getElem?_eq_none (by simpa using j)]
     rw [Array.getElem?_replicate]
     split<;>rfl
   obtain ⟨β,h0⟩:=Q98 (N:=((vals.toArray++Array.replicate (fn.ntmps - vals.toArray.size) undef).size,Q1u 0 ps vals)) k b l hB hq.2 hq.1.2
    {tmps:=vals.toArray++Array.replicate (fn.ntmps - vals.toArray.size) undef,defers:=[] } rfl (fun t _=>i t) rfl (fun p hp=>by rw [i];exact J0 0 rfl p hp)
   refine Q0q (n0:=fn.ntmps) (by simp;omega) hΓ d (hD _) (by rw [Qby 0 b];exact hq.1.1) h0 he (fun e a' w' S' β' s hS h' hk=>?_)
   have g:=Q0p (a:=a') 0 b h'.par
   cases e with
   | normal=>exact ⟨h'.nodef,Q5j (R:=Q4f tab w S vals B r) d h' hS hk g (fun vs S1 B1 B2 g1 g2 g3 g4 g5 g6 g7=>⟨vs,S1,B1,B2,rfl,g1,g2,g3,g4,g5,g6,g7⟩)⟩
   | ret=>exact ⟨h'.nodef,Q5j (R:=Q4f tab w S vals B r) d h' hS hk g (fun vs S1 B1 B2 g1 g2 g3 g4 g5 g6 g7=>⟨vs,S1,B1,B2,rfl,g1,g2,g3,g4,g5,g6,g7⟩)⟩
   | exit id=>cases hk
end
end Go.PE
namespace Go.PE
section
variable {P:Program} {tab:Tab} {N:NN} {w0:World} {F:FF} {S:Nat→Prop} {β:Lab→Value} {st:St} {a:Act} {w:World}
theorem Ql {o:Oper} {v:SV} {del:List Lab} {u:Upd} {R:Type} {k:St→List Lab→Option R} {a:R} (h:Z3 st o v del u k=some a) :
  ∃ s W,k s W=some a∧(∀ {R':Type} (k':St→List Lab→Option R'),Z3 st o v del u k'=k' s W)∧∀ l,l ∉ W→Q0 s.objs l=Q0 st.objs l:=by
 obtain ⟨s,hs,hk⟩:=bE h
 refine ⟨_,_,hk,fun k'=>by unfold Z3;rw [hs];rfl,fun l hl=>?_⟩
 have b:=Jj hs
 have e:Q0 (Q2b s o.dst v).objs l=Q0 s.objs l:=by cases o.dst<;>rfl
 rw [e,b.get l]
 have h1:l ∉ del:=fun hx=>hl (List.mem_append.2 (.inl hx))
 cases hu:Q0 u l with
 | some ob=>exact absurd (List.mem_append.2 (.inr (List.mem_map.2 ⟨(l,ob),Zn hu,rfl⟩))) hl
 | none=>simp only;rw [Zq,if_neg h1]
theorem Qb1 {l m:Lab} {T:TypeId} {p:St × (t:Ty) × t.den} (h:frzBox st l T tab=some p) (hm:Q0 st.objs m=none):Q0 p.1.objs m=none:=by
 unfold frzBox at h
 split at h
 ·obtain ⟨t',_,h⟩:=bE h
  obtain ⟨x',_,h⟩:=bE h
  have h:=sI h
  subst h
  simp only [Zw,hm]
  split<;>rfl
 ·cases h
theorem Q1o {Γ:Ctx} {f:FuncId} {m:Lab}:∀ {svs:List SV} {st:St} {cs:List ((t:Ty) × t.den)} {p:St × LV},Q03 Γ tab f st svs cs=some p→Q0 st.objs m=none→Q0 p.1.objs m=none
 | [],st,cs,p,h,hm=>by
  obtain ⟨e,a,h⟩:=bE h
  have h:(bif Xk e.ps&&e.rs.all Q0i then (Qgv (Qt e.ps).2 cs).bind fun y=>some (st,LV.clo (Qt e.ps).1 (e.rs.map (·.t)) (Qc0 e y (e.rs.map (·.t)))) else none)=some p:=h
  cases hq:(Xk e.ps&&e.rs.all Q0i) with
  | false=>rw [hq] at h;cases h
  | true=>
   rw [hq] at h
   obtain ⟨y,hy,h⟩:=bE h
   have h:=sI h
   subst h
   exact hm
 | sv::r,st,cs,p,h,hm=>by
  cases sv with
  | win _ _ _ _=>cases h
  | tupe _ _ _=>cases h
  | tupn _=>cases h
  | dead=>cases h
  | skip=>cases h
  | tup _=>cases h
  | ap _ _ _ _=>cases h
  | ep t x=>exact Q1o (svs:=r) h hm
  | cv c=>
   cases c with
   | agg _=>cases h
   | one u=>
    cases u<;>try (cases h;done)
    case ptr l off=>
    cases off with
    | succ n=>cases h
    | zero=>
     obtain ⟨⟨b,t,x⟩,hf,h⟩:=bE h
     exact Q1o (svs:=r) h (Qb1 hf hm)
theorem Q7u {Γ:Ctx} {o:Lab→Option Ob} {d:Nat} {e:Ent} {args:List SV} {R:Type} {k:SV→List Lab→Upd→Option R} {b:R} (h:Q1v Γ o d e args k=some b) :
  ∃ v del u,k v del u=some b∧∀ {R':Type} (k':SV→List Lab→Upd→Option R'),Q1v Γ o d e args k'=k' v del u:=by
 unfold Q1v at h
 obtain ⟨a,ha,h⟩:=bE h
 cases hq:(Zt a.2.1&&Q2w a.2.1 a.2.2&&a.2.1.all (Q0j o)&&a.2.2.all (Q0j o)&&(bif Q9s e then Qit a.2.2 else true)) with
 | false=>rw [hq] at h;cases h
 | true=>
  rw [hq] at h
  obtain ⟨r,hr,h⟩:=bE h
  refine ⟨_,_,_,h,fun k'=>?_⟩
  unfold Q1v
  rw [ha]
  simp only [Option.bind_some,hq,cond_true,hr]
theorem Q9d {Γ:Ctx} {o:Lab→Option Ob} {d:Nat} {m:String} {v:IV} {args:List SV} {R:Type} {k:SV→List Lab→Upd→Option R} {b:R}:∀ {l:List TypeId},Jb Γ tab o d m v args k l=some b →
  ∃ x del u,k x del u=some b∧∀ {R':Type} (k':SV→List Lab→Upd→Option R'),Jb Γ tab o d m v args k' l=k' x del u
 | [],h=>by cases h
 | T::l,h=>by
  unfold Jb at h
  split at h
  case h_2=>cases h
  case h_1 T' n f t htd hty=>
  cases hq:(decide (n=m)&&t.isAgg&&Nat.beq T' T) with
  | false=>rw [hq] at h;cases h
  | true=>
   rw [hq] at h
   simp only [cond_true] at h
   cases a:IV.is v T with
   | false=>
    rw [a] at h
    obtain ⟨x,del,u,g1,g2⟩:=Q9d (l:=l) h
    exact ⟨x,del,u,g1,fun k'=>by
     have e:Jb Γ tab o d m v args k' (T::l)=Jb Γ tab o d m v args k' l:=by
      rw [Jb,htd,hty];simp only [hq,cond_true,a,cond_false]
     rw [e];exact g2 k'⟩
   | true=>
    rw [a] at h
    simp only [cond_true] at h
    obtain ⟨e,c,h⟩:=bE h
    obtain ⟨x,del,u,g1,g2⟩:=Q7u h
    exact ⟨x,del,u,g1,fun k'=>by
     have e2:Jb Γ tab o d m v args k' (T::l)=Q1v Γ o d e (.cv (.agg (lvs t (IV.val v t)))::args) k':=by
      rw [Jb,htd,hty];simp only [hq,cond_true,a,c,Option.bind_some]
     rw [e2];exact g2 k'⟩
theorem Qb2 {o:Oper} {s x:Operand} {T T':TypeId} {d:Nat} {R:Type} {k:SV→List Lab→Upd→Option R} {a:R} (h:Q02 tab st (Qb st.slots) d s x T T' k=some a) :
  ∃ v del u,k v del u=some a∧∀ {R':Type} (k':SV→List Lab→Upd→Option R'),Q02 tab st (Qb st.slots) d s x T T' k'=k' v del u:=by
 unfold Q02 at h
 split at h
 case h_2=>cases h
 case h_1 eT htd=>
 obtain ⟨e,hte,h⟩:=bE h
 obtain ⟨sv,c,h⟩:=bE h
 obtain ⟨b,hb,h⟩:=bE h
 rw [X8] at h
 obtain ⟨ys,f,h⟩:=bE h
 cases hq:((b.1.all fun l=>!(Xw l (Qe (Qb st.slots x))))&&Nat.ble (b.2.length+ys.length) 1073741824) with
 | false=>rw [hq] at h;cases h
 | true=>
  rw [hq] at h
  exact ⟨_,_,_,h,fun k'=>by unfold Q02;rw [htd];simp only [hte,c,hb,X8,f,Option.bind_some,hq,cond_true]⟩
theorem Qea {Γ:Ctx} {kn:List (Nat × Bool)} {o:Oper} {R:Type} {k:St→List Lab→Option R} {B:R} (h:Zp Γ tab kn st o k=some B) :
  ∃ s W,k s W=some B∧(∀ {R':Type} (k':St→List Lab→Option R'),Zp Γ tab kn st o k'=k' s W)∧∀ l,l ∉ W→(Jx o=false∨Q0 st.objs l=none)→Q0 s.objs l=Q0 st.objs l:=by
 have a:(∀ {R':Type} (k':St→List Lab→Option R'),Zp Γ tab kn st o k'=(ev1 tab kn (Qb st.slots) (Q0 st.objs) (o.dst.getD 999999999) o.op o.type).bind (fun r=>bif r.1 then Z3 st o r.2.1 [] r.2.2 k' else none)) →
   ∃ s W,k s W=some B∧(∀ {R':Type} (k':St→List Lab→Option R'),Zp Γ tab kn st o k'=k' s W)∧∀ l,l ∉ W→(Jx o=false∨Q0 st.objs l=none)→Q0 s.objs l=Q0 st.objs l:=by
  intro d
  rw [d] at h
  obtain ⟨⟨c,v,u⟩,hr,he⟩:=bE h
  cases hc:c with
  | false=>rw [hc] at he;cases he
  | true=>
   rw [hc] at he hr
   obtain ⟨s,W,g1,g2,g3⟩:=Ql he
   exact ⟨s,W,g1,fun k'=>by rw [d,hr];exact g2 k',fun l hl _=>g3 l hl⟩
 cases ho:o.op<;>try (refine a (fun k'=>?_);unfold Zp;rw [ho];done)
 case convert sT dT x=>
  cases w:(bif Q6k Γ then Q3j tab (o.dst.getD 999999999) sT dT (Qb st.slots x) else none) with
  | some r=>
   obtain ⟨c,v,u⟩:=r
   have d:∀ {R':Type} (k':St→List Lab→Option R'),Zp Γ tab kn st o k'=(bif c then Z3 st o v [] u k' else none):=fun k'=>by unfold Zp;simp only [ho,w]
   rw [d] at h
   cases hc:c with
   | false=>rw [hc] at h;cases h
   | true=>
    rw [hc] at h
    obtain ⟨s',W,g1,g2,g3⟩:=Ql h
    exact ⟨s',W,g1,fun k'=>by rw [d,hc];exact g2 k',fun l hl _=>g3 l hl⟩
  | none=>
  cases hb:Q53 tab (Q0 st.objs) sT dT (Qb st.slots x) with
  | none=>refine a (fun k'=>?_);unfold Zp;simp only [ho,w,hb]
  | some r=>
   obtain ⟨c,v,del⟩:=r
   have d:∀ {R':Type} (k':St→List Lab→Option R'),Zp Γ tab kn st o k'=(bif c then Z3 st o v del [] k' else none):=fun k'=>by unfold Zp;simp only [ho,w,hb]
   rw [d] at h
   cases hc:c with
   | false=>rw [hc] at h;cases h
   | true=>
    rw [hc] at h
    obtain ⟨s',W,g1,g2,g3⟩:=Ql h
    exact ⟨s',W,g1,fun k'=>by rw [d,hc];exact g2 k',fun l hl _=>g3 l hl⟩
 case slice T x lo hi mx=>
  cases hw:(Q6k Γ&&Qgu (Q0 st.objs) (Qb st.slots x)) with
  | false=>refine a (fun k'=>?_);unfold Zp;simp only [ho,hw,cond_false]
  | true=>
   clear a
   unfold Zp at h ⊢
   simp only [ho,hw,cond_true] at h ⊢
   obtain ⟨n,hn,h⟩:=bE h
   obtain ⟨l,hl,h⟩:=bE h
   obtain ⟨m,hm,h⟩:=bE h
   obtain ⟨q,hq,h⟩:=bE h
   obtain ⟨⟨c,v,u⟩,hr,h⟩:=bE h
   cases hc:c with
   | false=>rw [hc] at h;cases h
   | true=>
    rw [hc] at h hr
    obtain ⟨s',W,g1,g2,g3⟩:=Ql h
    exact ⟨s',W,g1,fun k'=>by simp only [hn,hl,hm,hq,hr,Option.bind_some];exact g2 k',fun l hl _=>g3 l hl⟩
 case makeFunc fn first captured=>
  clear a
  unfold Zp at h ⊢
  simp only [ho] at h ⊢
  cases fn<;>try (cases h;done)
  case func f=>
  cases j:first.toList with
  | cons _ _=>simp only [j] at h;cases h
  | nil=>
   simp only [j] at h ⊢
   obtain ⟨⟨F,lv⟩,hm,h⟩:=bE h
   obtain ⟨s,W,g1,g2,g3⟩:=Ql h
   refine ⟨s,W,g1,fun k'=>by rw [hm];exact g2 k',fun l hl hh=>?_⟩
   have hn:Q0 st.objs l=none:=by
    rcases hh with hh | hh
    ·unfold Jx at hh;rw [ho] at hh;cases hh
    ·exact hh
   rw [g3 l hl,hn]
   exact Q1o hm hn
 case call cl=>
  obtain ⟨callee,args,argTypes⟩:=cl
  cases callee with
  | invoke r m=>
   clear a
   unfold Zp at h ⊢
   simp only [ho] at h ⊢
   split at h
   case h_2=>cases h
   case h_1 v hr=>
   obtain ⟨x,del,u,i,d⟩:=Q9d h
   obtain ⟨s',W,g1,g2,g3⟩:=Ql i
   exact ⟨s',W,g1,fun k'=>by first | exact (d _).trans (g2 k') | (simp only [hr];exact (d _).trans (g2 k')),fun l hl _=>g3 l hl⟩
  | builtin b=>
   cases b<;>try (refine a (fun k'=>?_);unfold Zp;rw [ho];done)
   case cap=>
    clear a
    unfold Zp at h ⊢
    simp only [ho,Jo,X8] at h ⊢
    split at h
    case h_2=>cases h
    case h_1 x T ha ht=>
    obtain ⟨r,hr,h⟩:=bE h
    cases hq:(Q2l tab T r.eT r.e&&r.ex) with
    | false=>rw [hq] at h;cases h
    | true=>
     rw [hq] at h
     obtain ⟨s',W,g1,g2,g3⟩:=Ql h
     exact ⟨s',W,g1,fun k'=>by simp only [ha,ht,hr,Option.bind_some,hq,cond_true];exact g2 k',fun l hl _=>g3 l hl⟩
   case copy=>
    clear a
    unfold Zp at h ⊢
    simp only [ho,Jo,X8] at h ⊢
    split at h
    case h_2=>cases h
    case h_1 x y T T' ha ht=>
    obtain ⟨r,hr,h⟩:=bE h
    cases hq:Q2l tab T r.eT r.e with
    | false=>rw [hq] at h;cases h
    | true=>
     rw [hq] at h
     obtain ⟨zs,hz,h⟩:=bE h
     obtain ⟨s',W,g1,g2,g3⟩:=Ql h
     exact ⟨s',W,g1,fun k'=>by simp only [ha,ht,hr,Option.bind_some,hq,cond_true,hz];exact g2 k',fun l hl _=>g3 l hl⟩
   case clear=>
    clear a
    unfold Zp at h ⊢
    simp only [ho,Jo,X8] at h ⊢
    split at h
    case h_2=>cases h
    case h_1 x T ha ht=>
    obtain ⟨r,hr,h⟩:=bE h
    cases hq:Q2l tab T r.eT r.e with
    | false=>rw [hq] at h;cases h
    | true=>
     rw [hq] at h
     obtain ⟨s',W,g1,g2,g3⟩:=Ql h
     exact ⟨s',W,g1,fun k'=>by simp only [ha,ht,hr,Option.bind_some,hq,cond_true];exact g2 k',fun l hl _=>g3 l hl⟩
   case append=>
   clear a
   unfold Zp at h ⊢
   simp only [ho,Jo,X8] at h ⊢
   split at h
   case h_2=>cases h
   case h_1 s x T T' ha ht=>
   split at h
   case h_1 l0 lo0 n0 sz0 hws=>
    obtain ⟨r,hr,h⟩:=bE h
    cases hq:(Q2l tab T r.eT r.e&&Nat.beq r.lo 0) with
    | false=>rw [hq] at h;cases h
    | true=>
     rw [hq] at h
     simp only [cond_true] at h
     split at h
     ·rename_i z hz
      cases hc:(z.1&&r.ex&&Nat.blt r.ys.length (r.n+z.2.length)&&Nat.ble (r.ys.length+z.2.length) 536870912) with
      | false=>rw [hc] at h;cases h
      | true=>
       rw [hc] at h
       obtain ⟨s',W,g1,g2,g3⟩:=Ql h
       refine ⟨s',W,g1,fun k'=>?_,fun l hl _=>g3 l hl⟩
       rw [← hws] at *
       simp only [ha,ht,hws,hr,Option.bind_some,hq,cond_true,hz,hc]
       exact g2 k'
     ·rename_i hz
      obtain ⟨zs,C,h⟩:=bE h
      cases hc:Nat.ble (r.n+zs.length) r.ys.length with
      | true=>
       rw [hc] at h
       obtain ⟨s',W,g1,g2,g3⟩:=Ql h
       refine ⟨s',W,g1,fun k'=>?_,fun l hl _=>g3 l hl⟩
       rw [← hws] at *
       simp only [ha,ht,hws,hr,Option.bind_some,hq,cond_true,hz,C,hc]
       exact g2 k'
      | false=>
       rw [hc] at h
       simp only [cond_false] at h
       cases A:(r.ex&&Nat.ble (r.n+zs.length) 1073741824) with
       | false=>rw [A] at h;cases h
       | true=>
        rw [A] at h
        obtain ⟨xs,E,h⟩:=bE h
        obtain ⟨s',W,g1,g2,g3⟩:=Ql h
        refine ⟨s',W,g1,fun k'=>?_,fun l hl _=>g3 l hl⟩
        rw [← hws] at *
        simp only [ha,ht,hws,hr,Option.bind_some,hq,cond_true,hz,C,hc,cond_false,A,E]
        exact g2 k'
   case h_2 hnw=>
   split at h
   case h_1 l0 lo0 n0 sz0 hwx=>
    obtain ⟨v,del,u,i,d⟩:=Qb2 (o:=o) h
    obtain ⟨s',W,g1,g2,g3⟩:=Ql i
    refine ⟨s',W,g1,fun k'=>?_,fun l hl _=>g3 l hl⟩
    first | exact (d _).trans (g2 k') | (simp only [ha,ht,hwx];exact (d _).trans (g2 k')) | (simp only [ha,ht];exact (d _).trans (g2 k'))
   case h_2 hnx=>
   obtain ⟨⟨c,v,del,u⟩,hr,h⟩:=bE h
   cases hc:c with
   | false=>rw [hc] at h;cases h
   | true=>
    rw [hc] at h hr
    obtain ⟨s',W,g1,g2,g3⟩:=Ql h
    exact ⟨s',W,g1,fun k'=>by simp only [ha,ht,hr,Option.bind_some];exact g2 k',fun l hl _=>g3 l hl⟩
  | value f=>
   clear a
   unfold Zp at h ⊢
   simp only [ho] at h ⊢
   split at h
   case h_3=>cases h
   case h_1 g hf=>
    split at h
    ·rename_i e p
     obtain ⟨v,del,u,i,d⟩:=Q7u h
     obtain ⟨s',W,g1,g2,g3⟩:=Ql i
     exact ⟨s',W,g1,fun k'=>by first | exact (d _).trans (g2 k') | (simp only [hf,p];exact (d _).trans (g2 k')),fun l hl _=>g3 l hl⟩
    ·rename_i p
     cases t:Qf2 tab (Q0 st.objs) g (args.toList.map (Qb st.slots)) with
     | some z=>
      rw [t] at h
      simp only at h
      cases hz:z.1 with
      | true=>
       rw [hz] at h
       obtain ⟨s',W,g1,g2,g3⟩:=Ql h
       exact ⟨s',W,g1,fun k'=>by simp only [hf,p,t,hz];exact g2 k',fun l hl _=>g3 l hl⟩
      | false=>
       rw [hz] at h
       obtain ⟨s',W,g1,g2,g3⟩:=Ql h
       exact ⟨s',W,g1,fun k'=>by simp only [hf,p,t,hz];exact g2 k',fun l hl _=>g3 l hl⟩
     | none=>
     rw [t] at h
     obtain ⟨q,D,h⟩:=bE h
     obtain ⟨s',W,g1,g2,g3⟩:=Ql h
     exact ⟨s',W,g1,fun k'=>by simp only [hf,p,t,D,Option.bind_some];exact g2 k',fun l hl _=>g3 l hl⟩
   case h_2 ps rs g hf=>
    obtain ⟨⟨x,rd⟩,hx,h⟩:=bE h
    cases hq:rd.all (Q0j (Q0 st.objs)) with
    | false=>simp only [hq] at h;cases h
    | true=>
     simp only [hq,cond_true] at h
     obtain ⟨r,hr,h⟩:=bE h
     obtain ⟨s',W,g1,g2,g3⟩:=Ql h
     exact ⟨s',W,g1,fun k'=>by simp only [hf,hx,Option.bind_some,hq,cond_true,hr];exact g2 k',fun l hl _=>g3 l hl⟩
theorem Q37 {m:Lab}:∀ {ls:List Lab} {st st':St},Q1w st ls=some st'→Q0 st.objs m=none→Q0 st'.objs m=none
 | [],st,st',h,hm=>by have:=sI h;subst this;exact hm
 | l::r,st,st',h,hm=>by
  unfold Q1w at h
  split at h
  ·obtain ⟨s,hs,h⟩:=bE h
   refine Q37 h ?_
   unfold PE.frz at hs
   split at hs
   ·rename_i eT e xs _
    have hs:=sI hs
    subst hs
    have e1:Q0 ((Ju st.objs l).map fun p=>(p.1,Q0a (Q45 l (.pure (.sl eT e) xs)) p.2)) m=(Q0 (Ju st.objs l) m).map (Q0a (Q45 l (.pure (.sl eT e) xs))):=Q3e _ _ _
    show Q0 ((Ju st.objs l).map fun p=>(p.1,Q0a (Q45 l (.pure (.sl eT e) xs)) p.2)) m=none
    rw [e1,Zw,hm]
    split<;>rfl
   ·cases hs
  ·exact Q37 h hm
theorem Q9k:∀ {ls:List Lab} {st st':St},Q1w st ls=some st'→Qgi st ls=false→st'=st
 | [],st,st',h,_=>(sI h).symm
 | l::r,st,st',h,hf=>by
  unfold Qgi at hf
  rw [List.any_cons,Bool.or_eq_false_iff] at hf
  unfold Q1w at h
  split at h
  ·rename_i h1
   rw [h1] at hf
   cases hf.1
  ·exact Q9k h hf.2
theorem Q7f {o:List (Lab × Ob)} {l:Lab} (h:l ∉ o.map (·.1)):Q0 o l=none:=by
 cases ho:Q0 o l with
 | none=>rfl
 | some ob=>exact absurd (List.mem_map.2 ⟨(l,ob),Zn ho,rfl⟩) h
theorem Qgc {Γ:Ctx} {kn:List (Nat × Bool)} {o:Oper} {R:Type} {k:St→List Lab→Option R} {b:R} (h:Q47 Γ tab kn st o k=some b) :
  ∃ s W,k s W=some b∧(∀ {R':Type} (k':St→List Lab→Option R'),Q47 Γ tab kn st o k'=k' s W)∧∀ l,l ∉ W→Q0 s.objs l=Q0 st.objs l:=by
 unfold Q47 at h
 obtain ⟨c,hz,h⟩:=bE h
 obtain ⟨s,W,g1,g2,g3⟩:=Qea h
 refine ⟨s,_,g1,fun k'=>by unfold Q47;rw [hz];exact g2 _,fun l hl=>?_⟩
 have a:l ∉ W:=fun hx=>hl (List.mem_append.2 (.inr hx))
 cases hq:(Qgi st (Q73 Γ (Q0 st.objs) (Qb st.slots) o)||Jx o) with
 | true=>
  rw [hq] at hl
  have hk:Q0 st.objs l=none:=Q7f (fun hx=>hl (List.mem_append.2 (.inl hx)))
  have h1:=Q37 hz hk
  rw [g3 l a (.inr h1),h1,hk]
 | false=>
  rw [Bool.or_eq_false_iff] at hq
  have:=Q9k hz hq.1
  subst this
  exact g3 l a (.inl hq.2)
theorem Qdz {Γ:Ctx} (hΓ:Je tab.ty P Γ) (c:Qc P tab) {o:Oper} {s:St} {W:List Lab} (e:∀ {R':Type} (k':St→List Lab→Option R'),Q47 Γ tab [] st o k'=k' s W) :
  ∀ {N:NN} {w0:World} {F:FF} {S:Nat→Prop} {β:Lab→Value} {a:Act} {w:World},Rel P tab.ty N w0 F S β st a w→(∀ d,o.dst=some d→okD N d) →
  ∀ (Q:Exit→Act→World→Prop) (K:Act→World→Prop),
   (∀ x w' S' β',(∀ k,S k→S' k)→(∀ l:Lab,l.1≠o.dst.getD 999999999→β' l=β l)→Rel P tab.ty N w0 F S' β' s (a.put o.dst x) w'→K (a.put o.dst x) w')→o.wp P a w K Q:=by
 intro N w0 F S β a w h hd Q K hK
 have he:Q47 Γ tab [] st o (fun s W=>some s)=some s:=e _
 refine Q7l hΓ c (fun t b ht=>by cases ht) h hd he Q K (fun x w' S' β' s' W' h1 h2 h3 h4=>?_)
 have:=sI h4
 subst this
 exact hK x w' S' β' h1 h2 h3
theorem Qdk {τ:TypeId→Option Ty} {sl:Nat→SV} {ob:Lab→Option Ob} (h:Q9x P τ N w0 F S β sl ob a w) {sub s:St} {ls:List Lab} {o:Oper}
  (hsl:∀ t,Q9 sub.slots t=.dead∨Q9 sub.slots t=sl t) (hob:∀ l,Q0 sub.objs l=if l∈ls then ob l else none)
  (I:∀ t,∀ l∈Qe (sl t),l.1≠o.dst.getD 999999999) (D:∀ l x,ob l=some x→l.1≠o.dst.getD 999999999∧∀ m∈Qz x,m.1≠o.dst.getD 999999999)
  (E:∀ {w0:World} {F:FF} {S:Nat→Prop} {β:Lab→Value} {a:Act} {w:World},Rel P τ N w0 F S β sub a w→∀ (Q:Exit→Act→World→Prop) (K:Act→World→Prop),
   (∀ x w' S' β',(∀ k,S k→S' k)→(∀ l:Lab,l.1≠o.dst.getD 999999999→β' l=β l)→Rel P τ N w0 F S' β' s (a.put o.dst x) w'→K (a.put o.dst x) w')→o.wp P a w K Q)
  (hs:∀ l x,Q0 s.objs l=some x→l∈ls∨o.dst=some l.1) (Q:Exit→Act→World→Prop) (K:Act→World→Prop)
  (hK:∀ x w' S' β',(∀ k,S k→S' k)→Q9x P τ N w0 F S' β' (fun t=>if o.dst=some t then Q9 s.slots t else sl t) (fun l=>if l∈ls∨o.dst=some l.1 then Q0 s.objs l else ob l) (a.put o.dst x) w'→K (a.put o.dst x) w'):o.wp P a w K Q:=by
 have h0:Rel P τ N w (fun k=>∃ l∈ls,∃ x,ob l=some x∧blk (β l)=some k,S) S β sub a w:=by
  have g:∀ l x,Q0 sub.objs l=some x→l∈ls∧ob l=some x:=fun l x hl=>by
   rw [hob] at hl
   split at hl
   ·rename_i hm;exact ⟨hm,hl⟩
   ·cases hl
  refine ⟨h.sb,fun t=>?_,fun l x hl=>h.objs l x (g l x hl).2,fun l x hl b hb=>?_,fun l l' x x' hl r=>h.dist l l' x x' (g l x hl).2 (g l' x' r).2,Fr.refl _ w,h.size,h.nodef,fun k hk=>.inl hk,h.par⟩
  ·rcases hsl t with e | e
   ·rw [e];trivial
   ·rw [e];exact h.slots t
  ·obtain ⟨e1,_,e3⟩:=h.excl l x (g l x hl).2 b hb
   exact ⟨e1,.inr ⟨l,(g l x hl).1,x,(g l x hl).2,hb⟩,e3⟩
 refine E h0 Q K (fun x w' S' β' hS hβ h'=>hK x w' S' β' hS ?_)
 have v:∀ k,k<w.heap.size→¬ (∃ l∈ls,∃ x,ob l=some x∧blk (β l)=some k)→w'.heap[k]?=w.heap[k]?:=fun k hk hn=>h'.fr.block hk hn
 have B:∀ k,S k→k<w.heap.size→w'.heap[k]?=w.heap[k]?:=fun k hs hk=>v k hk (fun ⟨l,_,y,hy,hb⟩=>(h.excl l y hy k hb).1 hs)
 have c:∀ l y,(if l∈ls∨o.dst=some l.1 then Q0 s.objs l else ob l)=some y→Q0 s.objs l=some y∧(l∈ls∨o.dst=some l.1)∨(l ∉ ls∧ob l=some y∧β' l=β l):=fun l y hl=>by
  split at hl
  ·rename_i hc;exact .inl ⟨hl,hc⟩
  ·rename_i hc
   exact .inr ⟨fun hm=>hc (.inl hm),hl,hβ l (D l y hl).1⟩
 have own:∀ l y,Q0 s.objs l=some y→∀ b,blk (β' l)=some b→w.heap.size≤b∨∃ m∈ls,∃ z,ob m=some z∧blk (β m)=some b:=fun l y hl b hb=>(h'.excl l y hl b hb).2.1
 refine ⟨h'.sb,fun t=>?_,fun l y hl=>?_,fun l y hl b hb=>?_,fun l l' y y' hl r u b hb n=>?_,?_,h'.size,h'.nodef,fun k hk=>?_,h'.par⟩
 ·show Qf P τ S' β' w' (if o.dst=some t then Q9 s.slots t else sl t) _
  split
  ·exact h'.slots t
  ·rename_i u
   have e:(a.put o.dst x).tmps.getD t undef=a.tmps.getD t undef:=by
    cases hd:o.dst with
    | none=>rfl
    | some d=>
     have H:d≠t:=fun e=>u (by rw [hd,e])
     simp only [Act.put,Array.getD_eq_getD_getElem?,Array.getElem?_setIfInBounds]
     rw [if_neg H]
   rw [e]
   exact (h.slots t).frame hS h'.fr.size B h.sb (fun l hl=>hβ l (I t l hl))
 ·rcases c l y hl with ⟨hl,_⟩ | ⟨hn,hl,hb⟩
  ·exact h'.objs l y hl
  ·rw [hb]
   refine (h.objs l y hl).frame hS h'.fr.size B h.sb (fun m hm=>hβ m ((D l y hl).2 m hm)) (fun b C=>v b (h.excl l y hl b C).2.2 ?_)
   rintro ⟨m,hm,z,hz,f⟩
   exact h.dist l m y z hl hz (fun e=>hn (e▸hm)) b C f
 ·rcases c l y hl with ⟨hl,_⟩ | ⟨hn,hl,A⟩
  ·obtain ⟨e1,e2,e3⟩:=h'.excl l y hl b hb
   refine ⟨e1,?_,e3⟩
   rcases e2 with e2 | ⟨m,_,z,hz,f⟩
   ·exact .inl (Nat.le_trans h.fr.size e2)
   ·exact (h.excl m z hz b f).2.1
  ·rw [A] at hb
   obtain ⟨e1,e2,e3⟩:=h.excl l y hl b hb
   refine ⟨fun J=>?_,e2,Nat.lt_of_lt_of_le e3 h'.fr.size⟩
   rcases h'.within b J with h1 | h1 | ⟨m,hm,z,hz,f⟩
   ·exact e1 h1
   ·omega
   ·exact h.dist l m y z hl hz (fun e=>hn (e▸hm)) b hb f
 ·rcases c l y hl with ⟨p,_⟩ | ⟨hn,p,A⟩
  ·rcases c l' y' r with ⟨j,_⟩ | ⟨G,j,q⟩
   ·exact h'.dist l l' y y' p j u b hb n
   ·rw [q] at n
    have:=(h.excl l' y' j b n).2.2
    rcases own l y p b hb with h1 | ⟨m,hm,z,hz,f⟩
    ·omega
    ·exact h.dist l' m y' z j hz (fun e=>G (e▸hm)) b n f
  ·rw [A] at hb
   rcases c l' y' r with ⟨j,_⟩ | ⟨G,j,q⟩
   ·have:=(h.excl l y p b hb).2.2
    rcases own l' y' j b n with h1 | ⟨m,hm,z,hz,f⟩
    ·omega
    ·exact h.dist l m y z p hz (fun e=>hn (e▸hm)) b hb f
   ·rw [q] at n
    exact h.dist l l' y y' p j u b hb n
 ·refine h.fr.trans' h'.fr (fun i hi hx=>?_)
  obtain ⟨m,_,z,hz,f⟩:=hx
  rcases (h.excl m z hz i f).2.1 with h1 | h1
  ·omega
  ·exact h1
 ·rcases h'.within k hk with h1 | h1 | ⟨m,_,z,hz,f⟩
  ·exact h.within k h1
  ·exact .inr (.inl (Nat.le_trans h.fr.size h1))
  ·exact .inr (h.excl m z hz k f).2.1
end
end Go.PE
namespace Go.PE
structure En where
 o:Oper
 act:Bool
 ls:List Lab
 W:List Lab
 sub:St
 s:St
def En.v (e:En):SV:=match e.act,e.o.dst with
 | true,some d=>Q9 e.s.slots d
 | _,_=>.skip
def En.putSl (e:En) (f:Nat→SV) (t:Nat):SV:=if e.o.dst=some t then e.v else f t
def En.putOb (e:En) (f:Lab→Option Ob) (l:Lab):Option Ob:=if e.act=true∧l∈e.W then Q0 e.s.objs l else f l
def Zd (D:Nat→Bool):Nat→List En→(Nat→SV)→Nat→SV
 | _,[],f=>f
 | i,e::r,f=>Zd D (i+1) r (if D i=true then e.putSl f else f)
def Zb (D:Nat→Bool):Nat→List En→(Lab→Option Ob)→Lab→Option Ob
 | _,[],f=>f
 | i,e::r,f=>Zb D (i+1) r (if D i=true then e.putOb f else f)
theorem Jc {D D':Nat→Bool} {t:Nat}:∀ {es:List En} {i:Nat} {f f':Nat→SV},f t=f' t→(∀ j e,es[j]?=some e→e.o.dst=some t→D (i+j)=D' (i+j))→Zd D i es f t=Zd D' i es f' t
 | [],i,f,f',h,_=>h
 | e::r,i,f,f',h,hd=>by
  simp only [Zd]
  refine Jc ?_ (fun j e' hj b=>by have:=hd (j+1) e' (by simpa using hj) b;rw [show i+(j+1)=i+1+j by omega] at this;exact this)
  by_cases a:e.o.dst=some t
  ·have:=hd 0 e rfl a
   rw [Nat.add_zero] at this
   rw [this]
   split
   ·simp [En.putSl,a]
   ·exact h
  ·have e1:∀ g:Nat→SV,e.putSl g t=g t:=fun g=>by simp [En.putSl,a]
   split<;>split<;>simp only [e1,h]
theorem X4 {D D':Nat→Bool} {l:Lab}:∀ {es:List En} {i:Nat} {f f':Lab→Option Ob},f l=f' l→(∀ j e,es[j]?=some e→e.act=true→l∈e.W→D (i+j)=D' (i+j))→Zb D i es f l=Zb D' i es f' l
 | [],i,f,f',h,_=>h
 | e::r,i,f,f',h,hd=>by
  simp only [Zb]
  refine X4 ?_ (fun j e' hj h1 h2=>by have:=hd (j+1) e' (by simpa using hj) h1 h2;rw [show i+(j+1)=i+1+j by omega] at this;exact this)
  by_cases a:e.act=true∧l∈e.W
  ·have:=hd 0 e rfl a.1 a.2
   rw [Nat.add_zero] at this
   rw [this]
   split
   ·simp [En.putOb,a]
   ·exact h
  ·have e1:∀ g:Lab→Option Ob,e.putOb g l=g l:=fun g=>by simp [En.putOb,a]
   split<;>split<;>simp only [e1,h]
theorem Q9e {D:Nat→Bool} {t:Nat}:∀ {es:List En} {i j:Nat} {f:Nat→SV} {e:En},es[j]?=some e→e.o.dst=some t→D (i+j)=true→(∀ k e',es[k]?=some e'→e'.o.dst=some t→j<k→D (i+k)=false)→Zd D i es f t=e.v
 | [],i,j,f,e,hj,_,_,_=>by simp at hj
 | x::r,i,0,f,e,hj,hd,hD,hk=>by
  simp at hj
  subst hj
  rw [Nat.add_zero] at hD
  simp only [Zd,hD,if_true]
  have e1:Zd D (i+1) r (x.putSl f) t=Zd (fun _=>false) (i+1) r (x.putSl f) t:=Jc rfl (fun k e' hke a=>by
   have:=hk (k+1) e' (by simpa using hke) a (by omega)
   rw [show i+(k+1)=i+1+k by omega] at this
   exact this)
  rw [e1]
  have e2:∀ (es:List En) (i:Nat) (f:Nat→SV),Zd (fun _=>false) i es f=f:=by
   intro es
   induction es with
   | nil=>intro i f;rfl
   | cons y q ih=>intro i f;simp [Zd,ih]
  rw [e2]
  simp [En.putSl,hd]
 | x::r,i,j+1,f,e,hj,hd,hD,hk=>by
  simp only [Zd]
  refine Q9e (j:=j) (by simpa using hj) hd (by rw [show i+1+j=i+(j+1) by omega];exact hD) (fun k e' hke a b=>?_)
  have:=hk (k+1) e' (by simpa using hke) a (by omega)
  rw [show i+(k+1)=i+1+k by omega] at this
  exact this
theorem Q9i {D:Nat→Bool} {l:Lab}:∀ {es:List En} {i j:Nat} {f:Lab→Option Ob} {e:En},es[j]?=some e→e.act=true→l∈e.W→D (i+j)=true→(∀ k e',es[k]?=some e'→e'.act=true→l∈e'.W→j<k→D (i+k)=false) →
  Zb D i es f l=Q0 e.s.objs l
 | [],i,j,f,e,hj,_,_,_,_=>by simp at hj
 | x::r,i,0,f,e,hj,hd,hW,hD,hk=>by
  simp at hj
  subst hj
  rw [Nat.add_zero] at hD
  simp only [Zb,hD,if_true]
  have e1:Zb D (i+1) r (x.putOb f) l=Zb (fun _=>false) (i+1) r (x.putOb f) l:=X4 rfl (fun k e' hke h1 h2=>by
   have:=hk (k+1) e' (by simpa using hke) h1 h2 (by omega)
   rw [show i+(k+1)=i+1+k by omega] at this
   exact this)
  rw [e1]
  have e2:∀ (es:List En) (i:Nat) (f:Lab→Option Ob),Zb (fun _=>false) i es f=f:=by
   intro es
   induction es with
   | nil=>intro i f;rfl
   | cons y q ih=>intro i f;simp [Zb,ih]
  rw [e2]
  simp [En.putOb,hd,hW]
 | x::r,i,j+1,f,e,hj,hd,hW,hD,hk=>by
  simp only [Zb]
  refine Q9i (j:=j) (by simpa using hj) hd hW (by rw [show i+1+j=i+(j+1) by omega];exact hD) (fun k e' hke h1 h2 a=>?_)
  have:=hk (k+1) e' (by simpa using hke) h1 h2 (by omega)
  rw [show i+(k+1)=i+1+k by omega] at this
  exact this
theorem Q3h (D:Nat→Bool):∀ (a b:List En) (i:Nat) (f:Nat→SV),Zd D i (a++b) f=Zd D (i+a.length) b (Zd D i a f)
 | [],b,i,f=>by simp [Zd]
 | e::r,b,i,f=>by simp only [List.cons_append,Zd,List.length_cons];rw [Q3h D r b];congr 1;omega
theorem Q30 (D:Nat→Bool):∀ (a b:List En) (i:Nat) (f:Lab→Option Ob),Zb D i (a++b) f=Zb D (i+a.length) b (Zb D i a f)
 | [],b,i,f=>by simp [Zb]
 | e::r,b,i,f=>by simp only [List.cons_append,Zb,List.length_cons];rw [Q30 D r b];congr 1;omega
theorem Qe3 (ep er:List En) (f:Nat→SV) (t:Nat):Zd (fun i=>decide (i<ep.length)) 0 (ep++er) f t=Zd (fun _=>true) 0 ep f t:=by
 have h1:Zd (fun i=>decide (i<ep.length)) 0 (ep++er) f t=Zd (fun _=>true) 0 (ep++er) f t∨True:=.inr trivial
 rw [Q3h]
 have e2:∀ g:Nat→SV,Zd (fun i=>decide (i<ep.length)) (0+ep.length) er g t=g t:=by
  intro g
  have:Zd (fun i=>decide (i<ep.length)) (0+ep.length) er g t=Zd (fun _=>false) (0+ep.length) er g t:=Jc rfl (fun j e _ _=>by simp)
  rw [this]
  have e3:∀ (es:List En) (i:Nat) (f:Nat→SV),Zd (fun _=>false) i es f=f:=by
   intro es
   induction es with
   | nil=>intro i f;rfl
   | cons y q ih=>intro i f;simp [Zd,ih]
  rw [e3]
 rw [e2]
 refine Jc rfl (fun j e hj _=>?_)
 have:j<ep.length:=(List.getElem?_eq_some_iff.1 hj).1
 simp [this]
theorem Qd8 (ep er:List En) (f:Lab→Option Ob) (l:Lab):Zb (fun i=>decide (i<ep.length)) 0 (ep++er) f l=Zb (fun _=>true) 0 ep f l:=by
 rw [Q30]
 have e2:∀ g:Lab→Option Ob,Zb (fun i=>decide (i<ep.length)) (0+ep.length) er g l=g l:=by
  intro g
  have:Zb (fun i=>decide (i<ep.length)) (0+ep.length) er g l=Zb (fun _=>false) (0+ep.length) er g l:=X4 rfl (fun j e _ _ _=>by simp)
  rw [this]
  have e3:∀ (es:List En) (i:Nat) (f:Lab→Option Ob),Zb (fun _=>false) i es f=f:=by
   intro es
   induction es with
   | nil=>intro i f;rfl
   | cons y q ih=>intro i f;simp [Zb,ih]
  rw [e3]
 rw [e2]
 refine X4 rfl (fun j e hj _ _=>?_)
 have:j<ep.length:=(List.getElem?_eq_some_iff.1 hj).1
 simp [this]
section
variable {P:Program} {tab:Tab} {N:NN}
def Q0s (all:List Oper) (sl:Nat→SV) (o:Oper) (go:Bool):Prop:=
 match o.guard with
 | none=>go=true
 | some (g,a)=>∃ t,(all[g]?).bind (·.dst)=some t∧((sl t=.skip∧go=false)∨∃ b,sl t=.cv (.one (.lit b))∧go=(b==a))
def Qjh (P:Program) (tab:Tab) (N:NN) (e:En):Prop:=∀ {w0:World} {F:FF} {S:Nat→Prop} {β:Lab→Value} {a:Act} {w:World},Rel P tab.ty N w0 F S β e.sub a w →
 ∀ (Q:Exit→Act→World→Prop) (K:Act→World→Prop),(∀ x w' S' β',(∀ k,S k→S' k)→(∀ l:Lab,l.1≠e.o.dst.getD 999999999→β' l=β l)→Rel P tab.ty N w0 F S' β' e.s (a.put e.o.dst x) w'→K (a.put e.o.dst x) w')→e.o.wp P a w K Q
structure Qhn (P:Program) (tab:Tab) (N:NN) (bf:List Nat) (all:List Oper) (es:List En) (sl0:Nat→SV) (ob0:Lab→Option Ob) (j:Nat) (e:En):Prop where
 guard:Q0s all (Zd (fun i=>decide (i<j)) 0 es sl0) e.o e.act
 sl:e.act=true→∀ t,Q9 e.sub.slots t=.dead∨(t∈Xj all e.o∧Q9 e.sub.slots t=Zd (fun i=>decide (i<j)) 0 es sl0 t)
 ob:e.act=true→∀ l,Q0 e.sub.objs l=if l∈e.ls then Zb (fun i=>decide (i<j)) 0 es ob0 l else none
 ls:e.act=true→∀ l∈e.ls,(∃ t∈Xj all e.o,l∈Qe (Zd (fun i=>decide (i<j)) 0 es sl0 t))∨∃ m x,m∈e.ls∧Zb (fun i=>decide (i<j)) 0 es ob0 m=some x∧l∈Qz x
 loc:e.act=true→Qjh P tab N e
 keep:e.act=true→∀ l,l ∉ e.W→Q0 e.s.objs l=Q0 e.sub.objs l
 refs:e.act=true→(∀ l∈Qe e.v,((l∈e.ls∨e.o.dst=some l.1)∨∃ t∈Xj all e.o,l∈Qe (Zd (fun i=>decide (i<j)) 0 es sl0 t))∨∃ m x,m∈e.ls∧Zb (fun i=>decide (i<j)) 0 es ob0 m=some x∧l∈Qz x)∧(∀ l x,Q0 e.s.objs l=some x→(l∈e.ls∨e.o.dst=some l.1)∧∀ m∈Qz x,(m∈e.ls∨e.o.dst=some m.1)∨∃ q y,q∈e.ls∧Zb (fun i=>decide (i<j)) 0 es ob0 q=some y∧m∈Qz y)∧∀ l∈e.W,l∈e.ls∨e.o.dst=some l.1
 tr:e.act=true→∀ i e',es[i]?=some e'→i<j→e'.act=true→Q05 bf i j=true∨((∀ l∈e'.W,l ∉ e.ls)∧(∀ l∈e'.W,l ∉ e.W)∧∀ l∈e.W,l ∉ e'.ls)
end
end Go.PE
