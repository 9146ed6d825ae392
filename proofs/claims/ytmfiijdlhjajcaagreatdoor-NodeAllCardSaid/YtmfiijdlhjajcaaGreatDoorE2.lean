/-
  The evaluator PE and its soundness, part 2.
  Conditions: none.
-/
import Derived.Great.FillDense
import Derived.Laws.Cover3
import Derived.Laws.Tables
import Derived.Great.BuildSlice
import Derived.Lib.AppendStr
import Derived.Lib.ConvBytes
import Derived.Test.YtmfiijdlhjajcaaGreatDoorE1
set_option linter.unusedVariables false
set_option linter.unusedSimpArgs false
namespace Go.PE
section
variable {P:Program} {tab:Tab} {N:NN} {w0:World} {F:FF} {S:Nat→Prop} {β:Lab→Value} {st:St} {a:Act} {w:World}
theorem X9 {o:Oper} {T:TypeId} {x ix:Operand} (ho:o.op=.indexAddr T x ix) {eT:TypeId} {e:Ty} (hu:P.underlying T=some (.slice eT)) (hT:Q5v P eT e)
  {b off n cap:Nat} {k:IntKind} {i:Int} (hx:a.eval x=.slice (some ⟨b,off,none⟩) n cap) (hi:a.eval ix=.int k i) (h0:0≤i) (h1:i<n) :
  (execOp a.eval o).run P w=.ok (.value (.pointer (some ⟨b,off+i.toNat*e.cells,none⟩))) w:=by
 unfold execOp
 simp only [ho,Instr.indexAt,hx,hi]
 simp [asIntOf,run_underlying hu,h0,h1,Z8 hT,Zo]
theorem Q1e {o:Oper} {T:TypeId} {x ix:Operand} (ho:o.op=.indexAddr T x ix) {n:Nat} {eT:TypeId} {e:Ty} (hu:P.underlying T=some (.array n eT)) (hT:Q5v P eT e)
  {b off:Nat} {k:IntKind} {i:Int} (hx:a.eval x=.pointer (some ⟨b,off,none⟩)) (hi:a.eval ix=.int k i) (h0:0≤i) (h1:i<n) :
  (execOp a.eval o).run P w=.ok (.value (.pointer (some ⟨b,off+i.toNat*e.cells,none⟩))) w:=by
 unfold execOp
 simp only [ho,Instr.indexAt,hx,hi]
 simp [asIntOf,run_underlying hu,h0,h1,Z8 hT,Zo,Instr.sureAddr]
theorem Q6s (f:Qc P tab) (h:Rel P tab.ty N w0 F S β st a w) {o:Oper} {T:TypeId} {x ix:Operand} (ho:o.op=.indexAddr T x ix) {c:Bool} {v:SV} {u:Upd}
  (he:Q3g tab (Q0 st.objs) T (Qb st.slots x) (Qb st.slots ix)=some (c,v,u)) (hc:c=true):Qa P tab N w0 F S β st a w o v u:=by
 unfold Q3g at he
 simp only [Option.bind_eq_some_iff] at he
 obtain ⟨iv,r,p,hp,he⟩:=he
 have hi:=Qv hp (Qy r (Q4 h ix))
 have hx:=Q4 h x
 split at he
 case h_3=>cases he
 case h_1 eT htd=>
  have hu:P.underlying T=some (.slice eT):=f.td T _ htd
  simp only [Option.bind_eq_some_iff] at he
  obtain ⟨e0,hte,he⟩:=he
  have hT:=f.ty eT e0 hte
  split at he
  case h_3=>cases he
  case h_1 eT' e xs hsx=>
   rw [hsx] at hx
   cases hb:Ty.beq e0 e with
   | false=>rw [hb] at he;cases he
   | true=>
    rw [hb] at he
    simp only [cond_true,Option.some.injEq,Prod.mk.injEq] at he
    obtain ⟨rfl,rfl,rfl⟩:=he
    have:=Ty.eq_of_beq hb
    subst this
    simp only [Bool.and_eq_true,decide_eq_true_eq] at hc
    obtain ⟨A,cap,hv,O,_,H⟩:=hx
    have hv:=List.singleton_inj.1 hv
    obtain ⟨b,off,rfl,hS,I,D⟩:=H (by omega)
    obtain ⟨ce,hl,j,hr⟩:=D p.2.toNat (by omega)
    exact Qa.plain h (X9 ho hu hT hv hi hc.1 hc.2) ⟨b,_,ce,rfl,hS,I,j,hr⟩
  case h_2 l hsx=>
   rw [hsx] at hx
   cases hol:Q0 st.objs l with
   | none=>rw [hol] at he;cases he
   | some ob=>
    rw [hol] at he
    cases ob with
    | mem eT' e ys n0 ex=>
     simp only at he
     cases hb:Ty.beq e0 e with
     | false=>rw [hb] at he;cases he
     | true=>
      rw [hb] at he
      simp only [cond_true,Option.some.injEq,Prod.mk.injEq] at he
      obtain ⟨rfl,rfl,rfl⟩:=he
      have:=Ty.eq_of_beq hb
      subst this
      simp only [Bool.and_eq_true,decide_eq_true_eq] at hc
      obtain ⟨_,A,c,d,h1,h2,h3,h4,h5⟩:=h.objs l _ hol
      obtain ⟨hv,_⟩:=hx
      rcases h5 with ⟨rfl,h0⟩ | ⟨g,q,rfl,hh,_,_⟩
      ·omega
      ·rw [d] at hv
       refine Qa.plain h (X9 ho hu hT hv.symm hi hc.1 hc.2) ⟨g,by rw [d];rfl,?_⟩
       rw [Nat.zero_add,Nat.add_zero]
    | box B vs=>cases he
    | arr eT' e xs=>
     simp only at he
     cases hb:Ty.beq e0 e with
     | false=>rw [hb] at he;cases he
     | true=>
      rw [hb] at he
      simp only [cond_true,Option.some.injEq,Prod.mk.injEq] at he
      obtain ⟨rfl,rfl,rfl⟩:=he
      have:=Ty.eq_of_beq hb
      subst this
      simp only [Bool.and_eq_true,decide_eq_true_eq] at hc
      obtain ⟨g,T',cs,fr,d,hh,_,K⟩:=h.objs l _ hol
      obtain ⟨hv,A0,n0,c0,M⟩:=hx
      rcases d with d | ⟨cap,d,_⟩
      ·rw [d,M] at hv;cases hv
      ·rw [d] at hv
       refine Qa.plain h (X9 ho hu hT hv.symm hi hc.1 hc.2) ⟨g,by rw [d];rfl,?_⟩
       rw [Nat.zero_add,Nat.add_zero]
    | lrow eT' vs=>
     cases hq:(Nat.beq e0.cells 1&&decide (0≤p.2)&&decide (p.2<vs.length)) with
     | false=>simp only at he;rw [hq] at he;cases he
     | true=>
      simp only at he
      rw [hq] at he
      simp only [cond_true,Option.some.injEq,Prod.mk.injEq] at he
      obtain ⟨rfl,rfl,rfl⟩:=he
      simp only [Bool.and_eq_true,decide_eq_true_eq] at hq
      obtain ⟨⟨q1,q2⟩,q3⟩:=hq
      have q1:=Nat.eq_of_beq_eq_true q1
      obtain ⟨cells,i,L⟩:=h.objs l _ hol
      obtain ⟨hv,_⟩:=hx
      rcases i.2 with ⟨_,h0⟩ | ⟨g,cap,q,d,_,hh,hn,_⟩
      ·rw [h0] at q3;omega
      ·rw [d] at hv
       refine Qa.plain h (X9 ho hu hT hv.symm hi q2 q3) ⟨g,by rw [d];rfl,?_⟩
       rw [Nat.zero_add,Nat.add_zero,q1]
    | row eT' e xs=>
     simp only at he
     cases hb:Ty.beq e0 e with
     | false=>rw [hb] at he;cases he
     | true=>
      rw [hb] at he
      simp only [cond_true,Option.some.injEq,Prod.mk.injEq] at he
      obtain ⟨rfl,rfl,rfl⟩:=he
      have:=Ty.eq_of_beq hb
      subst this
      simp only [Bool.and_eq_true,decide_eq_true_eq] at hc
      obtain ⟨_,cells,i,K⟩:=h.objs l _ hol
      obtain ⟨hv,_⟩:=hx
      rcases i.2 with ⟨_,h0⟩ | ⟨g,cap,q,d,_,hh,hn,_⟩
      ·rw [h0] at hc;omega
      ·rw [d] at hv
       refine Qa.plain h (X9 ho hu hT hv.symm hi hc.1 hc.2) ⟨g,by rw [d];rfl,?_⟩
       rw [Nat.zero_add,Nat.add_zero]
 case h_2 n eT htd=>
  have hu:P.underlying T=some (.array n eT):=f.td T _ htd
  simp only [Option.bind_eq_some_iff] at he
  obtain ⟨e0,hte,he⟩:=he
  have hT:=f.ty eT e0 hte
  split at he
  case h_3=>cases he
  case h_1 l hsx=>
   rw [hsx] at hx
   obtain ⟨b,E,G⟩:=hx
   cases hol:Q0 st.objs l with
   | none=>rw [hol] at he;cases he
   | some ob=>
    rw [hol] at he
    cases ob with
    | mem _ _ _ _ _=>first | (cases he;done) | (intro he;cases he;done) | (intro _ he;cases he;done) | (exact absurd he (by simp))
    | box B vs=>cases he
    | row eT e xs=>cases he
    | lrow eT vs=>cases he
    | arr eT' e xs=>
     simp only at he
     cases hb:(Ty.beq e0 e&&Nat.ble 2 n) with
     | false=>rw [hb] at he;cases he
     | true=>
      rw [hb] at he
      simp only [cond_true,Option.some.injEq,Prod.mk.injEq] at he
      obtain ⟨rfl,rfl,rfl⟩:=he
      simp only [Bool.and_eq_true] at hb
      have:=Ty.eq_of_beq hb.1
      subst this
      simp only [Bool.and_eq_true,decide_eq_true_eq] at hc
      refine Qa.plain h (Q1e ho hu hT G hi hc.1.1 hc.1.2) ⟨b,by rw [E];rfl,?_⟩
      rw [Nat.zero_add,Nat.add_zero]
  case h_2 t y hsx=>
   rw [hsx] at hx
   split at he
   case h_2=>cases he
   case h_1 k m hm=>
   simp only [Option.bind_eq_some_iff] at he
   obtain ⟨z,hz,he⟩:=he
   cases s:Nat.beq e0.cells 0 with
   | true=>rw [s] at he;cases he
   | false=>
    rw [s] at he
    simp only [cond_false,Option.some.injEq,Prod.mk.injEq] at he
    obtain ⟨rfl,rfl,rfl⟩:=he
    simp only [Bool.and_eq_true,decide_eq_true_eq] at hc
    have em:iv=.pure (.int k) m:=sI (r.symm.trans hm)
    subst em
    have ep:p=(k,m):=sI hp.symm
    subst ep
    obtain ⟨b,off,cs,J,h3,h4,j,hr⟩:=hx
    obtain ⟨Q,C⟩:=Q42 hz hr
    exact Qa.plain h (Q1e ho hu hT J hi hc.1 hc.2) ⟨b,_,_,rfl,h3,h4,Q6a j _ _,C⟩
theorem Qct (b:Qc P tab) (h:Rel P tab.ty N w0 F S β st a w) {o:Oper} {T:TypeId} {x ix:Operand} (ho:o.op=.index T x ix) {c:Bool} {v:SV} {u:Upd}
  (he:Qao tab T (Qb st.slots x) (Qb st.slots ix)=some (c,v,u)) (hc:c=true):Qa P tab N w0 F S β st a w o v u:=by
 unfold Qao at he
 simp only [Option.bind_eq_some_iff] at he
 obtain ⟨xv,g,iv,f,p,hp,he⟩:=he
 have hi:=Qv hp (Qy f (Q4 h ix))
 split at he
 case h_2=>cases he
 case h_1 s htd hs=>
 simp only [Option.some.injEq,Prod.mk.injEq] at he
 obtain ⟨rfl,rfl,rfl⟩:=he
 have hu:P.underlying T=some .string:=b.td T _ htd
 have hx:=X1 hs (Qy g (Q4 h x))
 simp only [Bool.and_eq_true,decide_eq_true_eq] at hc
 refine Qa.plain h (x:=.int .u8 ((s.data.getD p.2.toNat 0).toNat:Int)) ?_ (rfl:[_]=[_])
 unfold execOp
 have d:p.2.toNat<s.size:=by omega
 have e:s.data.getD p.2.toNat 0=s[p.2.toNat]'d:=by
  rw [Array.getD_eq_getD_getElem?,Array.getElem?_eq_getElem (by exact d)];rfl
 simp only [ho,hx,hi]
 simp only [Sem.run_bind,run_index_string w T s p.1 p.2 hu,hc,and_self,dif_pos,Result.andThen_ok,Sem.run_pure,e]
theorem Zu.get:∀ {cs:List CV} {vs:List Value} {j:Nat} {d:CV},Zu P tab.ty S β w cs vs→cs[j]?=some d→∃ c,vs[j]?=some c∧Xm P tab.ty S β w d c
 | [],vs,j,d,hr,hd=>by simp at hd
 | y::r,vs,0,d,hr,hd=>by obtain ⟨c,cr,rfl,h1,h2⟩:=hr;simp at hd;subst hd;exact ⟨c,rfl,h1⟩
 | y::r,vs,j+1,d,hr,hd=>by
  obtain ⟨c,cr,rfl,h1,h2⟩:=hr
  obtain ⟨c',h3,h4⟩:=Zu.get h2 (by simpa using hd)
  exact ⟨c',by simpa using h3,h4⟩
theorem Qhf (h:Rel P tab.ty N w0 F S β st a w) {o:Oper} {x:Operand} {j:Nat} (ho:o.op=.extract x j) {cs:List CV} {d:CV}
  (hs:Qb st.slots x=.tup cs) (hd:cs[j]?=some d):Qa P tab N w0 F S β st a w o (.cv d) []:=by
 have hx:=Q4 h x
 rw [hs] at hx
 obtain ⟨vs,hv,hr⟩:=hx
 obtain ⟨c,hc,hr⟩:=hr.get hd
 refine Qa.plain h (x:=c) ?_ hr
 unfold execOp
 simp only [ho,hv,Instr.extract]
 simp [hc]
theorem Q68 {op:BinOp} {T:TypeId} {x y:Operand} {u v:Value} (h1:u≠.nilIface∨v≠.nilIface) (h2:∀ cs,u≠.agg cs):(eqGuard op T x y u v).run P w=.ok () w:=by
 unfold eqGuard
 cases op<;>try simp
 all_goals
  cases u<;>first
   | (exact absurd rfl (h2 _))
   | (cases v<;>first | rfl | (rcases h1 with h | h<;>exact absurd rfl h))
theorem Q0t {o:Oper} {bop:BinOp} {T T':TypeId} {x y:Operand} (ho:o.op=.binOp bop T x y T') {z:Value}
  (hg:(eqGuard bop T x y (a.eval x) (a.eval y)).run P w=.ok () w) (hb:(binOp bop T (a.eval x) (a.eval y)).run P w=.ok z w) :
  (execOp a.eval o).run P w=.ok (.value z) w:=by
 unfold execOp
 simp only [ho]
 simp [hg,hb]
theorem Qm.notAgg {x:LV} {v:Value} (h:Qm P tab.ty S β w x v):∀ cs,v≠.agg cs:=fun cs e=>by
 have:=h.oneCell;rw [e] at this;cases this
theorem Qd9 {op:BinOp} {x y:LV} {r:Bool × LV} {u:Value} (h:Q97 op x y=some r) (hx:Qm P tab.ty S β w x u):u≠.nilIface:=by
 unfold Q97 at h
 split at h
 ·rename_i k m k' n hm hn;rw [Qv hm hx];intro e;cases e
 ·split at h
  ·rename_i s t hs ht;rw [X1 hs hx];intro e;cases e
  ·split at h
   ·rename_i s t hs ht;rw [X6 hs hx];intro e;cases e
   ·cases h
theorem Qcz (h:Rel P tab.ty N w0 F S β st a w) {o:Oper} {uop:UnOp} {T:TypeId} {x:Operand} (ho:o.op=.unOp uop T x) {l r:LV}
  (hl:Jd (Qb st.slots x)=some l) (hr:Qis uop l=some r):Qa P tab N w0 F S β st a w o (.cv (.one r)) []:=by
 have hx:=Qy hl (Q4 h x)
 cases uop<;>simp only [Qis,Option.bind_eq_some_iff,Option.some.injEq,reduceCtorEq] at hr
 case not=>
  obtain ⟨b,hb,rfl⟩:=hr
  have e:=X6 hb hx
  refine Qa.plain h (x:=.bool (!b)) ?_ (Q56 _)
  unfold execOp
  simp [ho,e,Op.unary]
 case neg=>
  obtain ⟨p,hp,rfl⟩:=hr
  have e:=Qv hp hx
  refine Qa.plain h (x:=.int p.1 (p.1.wrap (0 - p.2))) ?_ (Q5r _ _)
  unfold execOp
  simp [ho,e,Op.unary,Op.intArith]
 case xor=>
  obtain ⟨p,hp,rfl⟩:=hr
  have e:=Qv hp hx
  refine Qa.plain h (x:=.int p.1 (p.1.wrap ((BitVec.ofInt p.1.bits (if p.1.signed then -1 else p.1.max) ^^^ BitVec.ofInt p.1.bits p.2).toNat))) ?_ (Q5r _ _)
  unfold execOp
  simp [ho,e,Op.unary,Op.intBits]
 all_goals cases hr
theorem Qel (k:Qc P tab) (h:Rel P tab.ty N w0 F S β st a w) {x:Operand} {n:Int} (hn:Q2v (Q0 st.objs) (Qb st.slots x)=some n) :
  (∃ s:ByteArray,a.eval x=.string s∧n=s.size)∨∃ A m c,a.eval x=.slice A m c∧n=(m:Int)∧m≤c:=by
 have hx:=Q4 h x
 unfold Q2v at hn
 split at hn
 ·rename_i e xs hs
  rw [hs] at hx
  obtain ⟨A,c,hv,d,_⟩:=hx
  have:=sI hn
  exact .inr ⟨A,_,c,List.singleton_inj.1 hv,this.symm,d⟩
 ·rename_i s hs
  rw [hs] at hx
  exact .inl ⟨s,List.singleton_inj.1 hx,(sI hn).symm⟩
 ·rename_i hs
  rw [hs] at hx
  exact .inr ⟨none,0,0,hx,(sI hn).symm,Nat.le_refl _⟩
 ·rename_i l hs
  rw [hs] at hx
  split at hn
  ·rename_i e xs ho
   obtain ⟨_,cells,f,_⟩:=h.objs l _ ho
   obtain ⟨hv,_⟩:=hx
   rcases f.2 with ⟨h1,h0⟩ | ⟨g,cap,i,b,_,hh,d,_⟩
   ·exact .inr ⟨none,0,0,by rw [← hv,h1],by rw [← sI hn,h0],Nat.le_refl _⟩
   ·exact .inr ⟨_,_,cap,by rw [← hv,b],(sI hn).symm,d⟩
  ·rename_i e xs ho
   obtain ⟨g,T',cs,fr,b,_⟩:=h.objs l _ ho
   obtain ⟨hv,A0,n0,c0,j⟩:=hx
   rcases b with b | ⟨cap,b,d,_⟩
   ·rw [b,j] at hv;cases hv
   ·exact .inr ⟨_,_,cap,by rw [← hv,b],(sI hn).symm,d⟩
  ·rename_i e vs ho
   obtain ⟨cells,f,_⟩:=h.objs l _ ho
   obtain ⟨hv,_⟩:=hx
   rcases f.2 with ⟨h1,h0⟩ | ⟨g,cap,i,b,_,hh,d,_⟩
   ·exact .inr ⟨none,0,0,by rw [← hv,h1],by rw [← sI hn,h0],Nat.le_refl _⟩
   ·exact .inr ⟨_,_,cap,by rw [← hv,b],(sI hn).symm,d⟩
  ·rename_i e ys n0 ex ho
   obtain ⟨_,A,c,h1,_,h2,_⟩:=h.objs l _ ho
   obtain ⟨hv,_⟩:=hx
   exact .inr ⟨A,_,c,by rw [← hv,h1],(sI hn).symm,h2⟩
  ·cases hn
 ·rename_i l lo m sz hs
  rw [hs] at hx
  obtain ⟨A,n0,c0,A',_,h2,h3,_⟩:=hx
  exact .inr ⟨A',m,_,h3,(sI hn).symm,by omega⟩
 ·cases hn
theorem Jt {o:Oper} {b:Builtin} {args:Array Operand} {ts:Array TypeId} (ho:o.op=.call { callee:=.builtin b,args:=args,argTypes:=ts }) :
  ∃ cs,(execOp a.eval o).run P w=(builtin b ts o.type cs (args.map a.eval)).run P w:=by
 refine ⟨args.map (fun x=>match x with | .const _=>true | _=>false),?_⟩
 unfold execOp
 rw [ho]
 rfl
theorem Qb3 {args:Array Operand} {x:Operand} (h:args.toList=[x]):args=#[x]:=by
 apply Array.ext';simpa using h
theorem Q3l {args:Array Operand} {x y:Operand} (h:args.toList=[x,y]):args=#[x,y]:=by
 apply Array.ext';simpa using h
theorem Qfq (h:Rel P tab.ty N w0 F S β st a w) {o:Oper} {x y:Operand} {ts:Array TypeId} (ho:o.op=.call { callee:=.builtin .max,args:=#[x,y],argTypes:=ts })
  {l m:LV} {p q:IntKind × Int} (hl:Jd (Qb st.slots x)=some l) (hm:Jd (Qb st.slots y)=some m) (hp:Xp l=some p) (hq:Xp m=some q) :
  Qa P tab N w0 F S β st a w o (.cv (.one (.pure (.int p.1) (if q.2>p.2 then q.2 else p.2)))) []:=by
 have e1:=Qv hp (Qy hl (Q4 h x))
 have e2:=Qv hq (Qy hm (Q4 h y))
 refine Qa.plain h (x:=.int p.1 (if q.2>p.2 then q.2 else p.2)) ?_ (Q5r _ _)
 obtain ⟨cs,hr⟩:=Jt (P:=P) (w:=w) (a:=a) ho
 rw [hr]
 simp [builtin,e1,e2,run_max_int2]
theorem Qfo (h:Rel P tab.ty N w0 F S β st a w) {o:Oper} {x y:Operand} {ts:Array TypeId} (ho:o.op=.call { callee:=.builtin .min,args:=#[x,y],argTypes:=ts })
  {l m:LV} {p q:IntKind × Int} (hl:Jd (Qb st.slots x)=some l) (hm:Jd (Qb st.slots y)=some m) (hp:Xp l=some p) (hq:Xp m=some q) :
  Qa P tab N w0 F S β st a w o (.cv (.one (.pure (.int p.1) (if q.2<p.2 then q.2 else p.2)))) []:=by
 have e1:=Qv hp (Qy hl (Q4 h x))
 have e2:=Qv hq (Qy hm (Q4 h y))
 refine Qa.plain h (x:=.int p.1 (if q.2<p.2 then q.2 else p.2)) ?_ (Q5r _ _)
 obtain ⟨cs,hr⟩:=Jt (P:=P) (w:=w) (a:=a) ho
 rw [hr]
 simp [builtin,e1,e2,run_min_int2]
def Q4r (kn:List (Nat × Bool)) (a:Act):Prop:=∀ t b,Q54 kn t=some b→a.tmps.getD t undef=.bool b
theorem Qbf {o:Oper} {c x y:Operand} (ho:o.op=.pick c x y) {b:Bool} (hb:a.eval c=.bool b):(execOp a.eval o).run P w=.ok (.value (if b then a.eval x else a.eval y)) w:=by
 unfold execOp
 simp only [ho,hb]
 cases b<;>simp [asBool]
theorem Qdn {kn:List (Nat × Bool)} (hk:Q4r kn a) (h:Rel P tab.ty N w0 F S β st a w) {o:Oper} {c x y:Operand} (ho:o.op=.pick c x y) {q:Bool} {v:SV} {u:Upd}
  (he:Qe2 kn c (Qb st.slots) x y=some (q,v,u)):Qa P tab N w0 F S β st a w o v u:=by
 unfold Qe2 at he
 have hx:=Q4 h x
 have hy:=Q4 h y
 have d:∀ b,a.eval c=.bool b→∀ z,(if b then Qb st.slots x else Qb st.slots y)=z→Qa P tab N w0 F S β st a w o z []:=by
  intro b hb z hz
  refine Qa.plain h (Qbf ho hb) ?_
  cases b
  ·simp only [Bool.false_eq_true,if_false] at hz ⊢;rw [← hz];exact hy
  ·simp only [if_true] at hz ⊢;rw [← hz];exact hx
 dsimp only at he
 split at he
 ·rename_i e
  simp only [Option.some.injEq,Prod.mk.injEq] at he
  obtain ⟨rfl,rfl,rfl⟩:=he
  cases c<;>try (cases e;done)
  exact d true (hk _ _ e) _ rfl
 ·rename_i e
  simp only [Option.some.injEq,Prod.mk.injEq] at he
  obtain ⟨rfl,rfl,rfl⟩:=he
  cases c<;>try (cases e;done)
  exact d false (hk _ _ e) _ rfl
 ·have f:=Q4 h c
  split at he
  ·rename_i hc
   simp only [Option.some.injEq,Prod.mk.injEq] at he
   obtain ⟨rfl,rfl,rfl⟩:=he
   exact d true (Qy hc f) _ rfl
  ·rename_i hc
   simp only [Option.some.injEq,Prod.mk.injEq] at he
   obtain ⟨rfl,rfl,rfl⟩:=he
   exact d false (Qy hc f) _ rfl
  ·rename_i cv _ _ hc
   simp only [Option.bind_eq_some_iff] at he
   obtain ⟨b,hb,lx,g,ly,i,he⟩:=he
   split at he
   case h_2=>cases he
   case h_1 p r hp hr=>
   simp only [Option.some.injEq,Prod.mk.injEq] at he
   obtain ⟨rfl,rfl,rfl⟩:=he
   have ec:=X6 hb (Qy hc f)
   have ex:=X6 hp (Qy g hx)
   have ey:=X6 hr (Qy i hy)
   refine Qa.plain h (Qbf ho ec) ?_
   rw [ex,ey]
   cases b<;>exact (rfl:[_]=[_])
  ·cases he
end
end Go.PE
namespace Go.PE
section
variable {P:Program} {tab:Tab} {N:NN} {w0:World} {F:FF} {S:Nat→Prop} {β:Lab→Value} {st:St} {a:Act} {w:World}
theorem Q8a:∀ (xs:List Int) (s:ByteArray),xs.foldl (fun r n=>r.push (UInt8.ofNat n.toNat)) s=⟨s.data++(xs.map fun n=>UInt8.ofNat n.toNat).toArray⟩
 | [],s=>by simp
 | x::r,s=>by
  rw [List.foldl_cons,Q8a r]
  have:(s.push (UInt8.ofNat x.toNat)).data=s.data.push (UInt8.ofNat x.toNat):=rfl
  rw [this]
  congr 1
  apply Array.ext'
  simp
theorem Qfn (xs:List Int) (A:Option Addr) (c:Nat) (h:0<xs.length→∃ b o,A=some ⟨b,o,none⟩∧∀ i,i<xs.length→w.cell? ⟨b,o+i,none⟩=some (.int .u8 (xs.getD i 0))) :
  (Conv.bytesToString (.slice A xs.length c)).run P w=.ok (.string (Q58 xs)) w:=by
 have a:∀ ad:Addr,(loadCells ad xs.length).run P w=.ok (xs.map (Value.int .u8)).toArray w→(Conv.bytesToString (.slice (some ad) xs.length c)).run P w=.ok (.string (Q58 xs)) w:=by
  intro ad hl
  rw [run_bytesToString (P:=P) w ad xs.length c xs hl,Q8a]
  rw [show (ByteArray.empty.data++(xs.map fun n=>UInt8.ofNat n.toNat).toArray)=(xs.map fun n=>UInt8.ofNat n.toNat).toArray from Array.empty_append ..]
  rfl
 cases xs with
 | nil=>
  cases A with
  | none=>rfl
  | some ad=>exact a ad rfl
 | cons x r=>
  obtain ⟨b,o,rfl,d⟩:=h (Nat.succ_pos _)
  refine a _ ?_
  have:=run_loadCells_list (P:=P) w ⟨b,o,none⟩ ((x::r).map (Value.int .u8)) (fun j v hv=>by
   rw [List.getElem?_map] at hv
   cases hj:(x::r)[j]? with
   | none=>rw [hj] at hv;cases hv
   | some y=>
    rw [hj] at hv
    simp only [Option.map_some,Option.some.injEq] at hv
    subst hv
    have e:j<(x::r).length:=(List.getElem?_eq_some_iff.1 hj).1
    rw [Zo,d j e,List.getD_eq_getElem?_getD,hj]
    rfl)
  simpa using this
theorem Qcv {S:Nat→Prop} {eT:TypeId} {xs:List Int} {v:Value} (h:Rep tab.ty S w (.sl eT (.int .u8)) xs [v]) :
  (Conv.bytesToString v).run P w=.ok (.string (Q58 xs)) w:=by
 obtain ⟨A,c,hv,g,hm,e⟩:=h
 have hv:=List.singleton_inj.1 hv
 subst hv
 refine Qfn xs A c (fun hp=>?_)
 obtain ⟨b,o,hA,_,_,a⟩:=e hp
 refine ⟨b,o,hA,fun i hi=>?_⟩
 obtain ⟨ce,f,d,hr⟩:=a i hi
 have hr:ce=[Value.int .u8 (xs.getD i 0)]:=hr
 subst hr
 have h0:=d 0 (Nat.succ_pos _)
 have e1:(Ty.int IntKind.u8).cells=1:=rfl
 rw [e1,Nat.mul_one,Nat.add_zero] at h0
 exact h0
theorem Q8u (b:Qc P tab) (h:Rel P tab.ty N w0 F S β st a w) {o:Oper} {s d:TypeId} {x:Operand} (ho:o.op=.convert s d x) {c:Bool} {v:SV} {u:Upd}
  (he:Q5p tab (Q0 st.objs) s d (Qb st.slots x)=some (c,v,u)):Qa P tab N w0 F S β st a w o v u:=by
 unfold Q5p at he
 simp only [Option.bind_eq_some_iff] at he
 obtain ⟨xv,g,he⟩:=he
 have hx:=Qy g (Q4 h x)
 split at he
 case h_4=>cases he
 case h_1 k k' hs hd=>
  simp only [Option.bind_eq_some_iff,Option.some.injEq,Prod.mk.injEq] at he
  obtain ⟨p,hp,rfl,rfl,rfl⟩:=he
  have e:=Qv hp hx
  have h1:P.underlying s=some (.int k):=b.td s _ hs
  have h2:P.underlying d=some (.int k'):=b.td d _ hd
  refine Qa.plain h (x:=.int k' (k'.wrap p.2)) ?_ (Q5r _ _)
  unfold execOp
  simp [ho,e,convert,run_underlying h1,run_underlying h2,Conv.intToInt]
 case h_2 hs hd=>
  simp only [Option.bind_eq_some_iff,Option.some.injEq,Prod.mk.injEq] at he
  obtain ⟨p,hp,rfl,rfl,rfl⟩:=he
  have e:=X1 hp hx
  have h1:P.underlying s=some .string:=b.td s _ hs
  have h2:P.underlying d=some .string:=b.td d _ hd
  refine Qa.plain h (x:=.string p) ?_ (Qe0 _)
  unfold execOp
  simp [ho,e,convert,run_underlying h1,run_underlying h2]
 case h_3 eT hs hd=>
  split at he
  case h_2=>cases he
  case h_1 hte=>
  simp only [Option.bind_eq_some_iff,Option.some.injEq,Prod.mk.injEq] at he
  obtain ⟨xs,f,rfl,rfl,rfl⟩:=he
  have h1:P.underlying s=some (.slice eT):=b.td s _ hs
  have h2:P.underlying d=some .string:=b.td d _ hd
  have h3:P.underlying eT=some (.int .u8):=b.td eT _ hte
  have hr:=Q20 h.objs f hx
  have hb:=Qcv (P:=P) hr
  refine Qa.plain h (x:=.string (Q58 xs)) ?_ (Qe0 _)
  obtain ⟨A,cc,hv,_⟩:=hr
  have hv:=List.singleton_inj.1 hv
  rw [hv] at hb
  unfold execOp
  simp only [ho,hv]
  simp [convert,run_underlying h1,run_underlying h2,run_underlying h3,hb]
theorem Q2h (h:Rel P tab.ty N w0 F S β st a w) {x:Option Operand} {d n:Int} (he:Q0e (Qb st.slots) x d=some n) :
  (x=none∧n=d)∨∃ y k,x=some y∧a.eval y=.int k n:=by
 cases x with
 | none=>exact .inl ⟨rfl,(sI he).symm⟩
 | some y=>
  simp only [Q0e,Option.bind_eq_some_iff,Option.some.injEq] at he
  obtain ⟨v,hv,p,hp,rfl⟩:=he
  exact .inr ⟨y,p.1,rfl,Qv hp (Qy hv (Q4 h y))⟩
theorem Q4s {b:Bool} {len cap:Nat} {lo hi:Option Operand} {l m:Int} (hl:(lo=none∧l=0)∨∃ y k,lo=some y∧a.eval y=.int k l)
  (hh:(hi=none∧m=len)∨∃ y k,hi=some y∧a.eval y=.int k m) (h0:0≤l) (h1:l≤m) (h2:m≤cap) :
  (Instr.sliceBounds b len cap (lo.map a.eval) (hi.map a.eval) none).run P w=.ok (l.toNat,m.toNat,cap) w:=by
 have hm:(m.toNat:Int)=m:=by omega
 rcases hl with ⟨rfl,rfl⟩ | ⟨y,k,rfl,hy⟩<;>rcases hh with ⟨rfl,rfl⟩ | ⟨z,k',rfl,hz⟩
 ·simp [Instr.sliceBounds]
 ·simp [Instr.sliceBounds,hz,run_sliceBound w k' m cap _ (by omega) h2]
 ·simp [Instr.sliceBounds,hy,run_sliceBound w k l len _ h0 h1]
 ·simp [Instr.sliceBounds,hy,hz,run_sliceBound w k' m cap _ (by omega) h2,run_sliceBound w k l m.toNat _ h0 (by omega)]
theorem Qhm {τ:TypeId→Option Ty} {eT:TypeId} {e:Ty} {xs:List e.den} {A:Option Addr} {cap:Nat} {l m:Nat} (h:Rep τ S w (.sl eT e) xs [.slice A xs.length cap]) (h1:l≤m) (h2:m≤xs.length) :
  Rep τ S w (.sl eT e) ((xs.take m).drop l) [.slice (if cap=l then A else A.map (·.add (l*e.cells))) (m - l) (cap - l)]:=by
 obtain ⟨A',p,hv,q,r,n⟩:=h
 have hv:=List.singleton_inj.1 hv
 injection hv with hA _ c
 subst hA;subst c
 have a:((xs.take m).drop l).length=m - l:=by rw [List.length_drop,List.length_take];omega
 refine ⟨_,cap - l,by rw [a],by rw [a];omega,by omega,fun hp=>?_⟩
 rw [a] at hp
 obtain ⟨b,o,rfl,d,g,f⟩:=n (by omega)
 refine ⟨b,o+l*e.cells,by rw [if_neg (by omega)];simp [Zo],d,g,fun i hi=>?_⟩
 rw [a] at hi
 obtain ⟨ce,k,j,hr⟩:=f (l+i) (by omega)
 refine ⟨ce,k,?_,?_⟩
 ·rw [show o+l*e.cells+i*e.cells=o+(l+i)*e.cells by rw [Nat.add_mul,Nat.add_assoc]]
  exact j
 ·have:List.getD ((xs.take m).drop l) i e.dflt=List.getD xs (l+i) e.dflt:=by
   rw [List.getD_eq_getElem?_getD,List.getD_eq_getElem?_getD,List.getElem?_drop,List.getElem?_take,if_pos (by omega)]
  rw [this]
  exact hr
theorem Qck (d:Qc P tab) (h:Rel P tab.ty N w0 F S β st a w) {o:Oper} {T:TypeId} {x:Operand} {lo hi:Option Operand} (ho:o.op=.slice T x lo hi none) {n l m:Int} {c:Bool} {v:SV} {u:Upd}
  (hn:Q2v (Q0 st.objs) (Qb st.slots x)=some n) (hl:Q0e (Qb st.slots) lo 0=some l) (hm:Q0e (Qb st.slots) hi n=some m)
  (he:Qaa tab T (Qb st.slots x) l m=some (c,v,u)) (hc:c=true):Qa P tab N w0 F S β st a w o v u:=by
 unfold Qaa at he
 simp only [Option.bind_eq_some_iff] at he
 obtain ⟨xv,t,he⟩:=he
 have hx:=Qy t (Q4 h x)
 have p:=Q2h h hl
 have f:=Q2h h hm
 have q:=Qel d h hn
 split at he
 case h_3=>cases he
 case h_1 htd=>
  simp only [Option.bind_eq_some_iff,Option.some.injEq,Prod.mk.injEq] at he
  obtain ⟨s,hs,rfl,rfl,rfl⟩:=he
  have hu:P.underlying T=some .string:=d.td T _ htd
  have e:=X1 hs hx
  simp only [Bool.and_eq_true,decide_eq_true_eq] at hc
  have i:n=(s.size:Int):=by
   rcases q with ⟨s',h1,h2⟩ | ⟨A,k,cc,h1,_⟩
   ·rw [e] at h1;injection h1 with h1;rw [h2,h1]
   ·rw [e] at h1;cases h1
  rw [i] at f
  have hb:=Q4s (P:=P) (w:=w) (b:=false) (len:=s.size) (cap:=s.size) p f hc.1.1 hc.1.2 hc.2
  refine Qa.plain h (x:=.string (s.extract l.toNat m.toNat)) ?_ (Qe0 _)
  unfold execOp
  simp only [ho,e,Option.map_none]
  simp [Instr.sliceAt,Instr.slice,run_underlying hu,hb]
 case h_2 eT htd=>
  have hu:P.underlying T=some (.slice eT):=d.td T _ htd
  simp only [Option.bind_eq_some_iff] at he
  obtain ⟨e0,hte,he⟩:=he
  have hT:=d.ty eT e0 hte
  split at he
  case h_2=>cases he
  case h_1 eT' e xs=>
  cases hb:(Nat.beq eT eT'&&Ty.beq e0 e) with
  | false=>rw [hb] at he;cases he
  | true=>
   rw [hb] at he
   simp only [cond_true,Option.some.injEq,Prod.mk.injEq] at he
   obtain ⟨rfl,rfl,rfl⟩:=he
   simp only [Bool.and_eq_true] at hb
   have e1:=Nat.eq_of_beq_eq_true hb.1
   have e2:=Ty.eq_of_beq hb.2
   subst e1;subst e2
   simp only [Bool.and_eq_true,decide_eq_true_eq] at hc
   obtain ⟨A,cap,hv,j,r,g⟩:=hx
   have hv:=List.singleton_inj.1 hv
   have i:n=(List.length xs:Int):=by
    rcases q with ⟨s',h1,h2⟩ | ⟨A',k,cc,h1,h2,_⟩
    ·rw [hv] at h1;cases h1
    ·rw [hv] at h1;injection h1 with _ h1 _;rw [h2,h1]
   rw [i] at f
   have hb:=Q4s (P:=P) (w:=w) (b:=true) (len:=List.length xs) (cap:=cap) p f hc.1.1 hc.1.2 (Int.le_trans hc.2 (by exact_mod_cast j))
   refine Qa.plain h (x:=.slice (if cap=l.toNat then A else A.map (·.add (l.toNat*e0.cells))) (m.toNat - l.toNat) (cap - l.toNat)) ?_ ?_
   ·unfold execOp
    simp only [ho,hv,Option.map_none]
    simp [Instr.sliceAt,Instr.slice,run_underlying hu,hb,Z8 hT]
   ·refine Qhm (eT:=eT) (xs:=xs) ?_ ?_ ?_
    ·exact ⟨A,cap,rfl,j,r,g⟩
    ·clear g hb;omega
    ·clear g hb;have:=hc.2;exact Int.toNat_le.2 this
end
end Go.PE
namespace Go.PE
section
variable {P:Program} {tab:Tab} {N:NN} {w0:World} {F:FF} {S:Nat→Prop} {β:Lab→Value} {st:St} {a:Act} {w:World}
theorem Qbl:∀ (fs:List Field) (i:Nat) {gs:List (TypeId × Nat)} {vs ws:List LV} {cs ds:List Value} {b:Bool} (xs ys:Array Value) (d:Nat) (e:Qc P tab),
  fs.map (fun g=>(g.type,g.offset))=gs→Q1n tab i gs=true→Qi4 tab gs vs ws=some b→Q5 P tab.ty S β w vs cs→Q5 P tab.ty S β w ws ds →
  xs.toList.drop i=cs→ys.toList.drop i=ds→(∀ f∈fs,f.name≠"_")→(Op.eqFields (d+1) xs ys fs).run P w=.ok b w
 | [],i,gs,vs,ws,cs,ds,b,xs,ys,d,e,hg,hf,he,hv,hw,hx,hy,hn=>by
  subst hg
  cases vs<;>cases ws<;>first | (cases he;done) | skip
  have:=sI he
  subst this
  rfl
 | f::r,i,gs,vs,ws,cs,ds,b,xs,ys,d,e,hg,hf,he,hv,hw,hx,hy,hn=>by
  subst hg
  cases vs with
  | nil=>cases he
  | cons x p=>
  cases ws with
  | nil=>cases he
  | cons y q=>
  obtain ⟨c,cr,rfl,n,D⟩:=hv
  obtain ⟨c',dr,rfl,hwx,E⟩:=hw
  simp only [List.map_cons,Q1n,Bool.and_eq_true] at hf
  obtain ⟨⟨j,htd⟩,z⟩:=hf
  have j:=Nat.eq_of_beq_eq_true j
  simp only [List.map_cons,Qi4,Option.bind_eq_some_iff,Option.some.injEq] at he
  obtain ⟨b1,a,b2,s,rfl⟩:=he
  have ih:=Qbl r (i+1) xs ys d e rfl z s D E (by rw [← List.drop_drop,hx];rfl) (by rw [← List.drop_drop,hy];rfl) (fun g hg=>hn g (List.mem_cons_of_mem _ hg))
  have F:xs[i]?=some c:=by
   have:=congrArg (·[0]?) hx
   simpa using this
  have G:ys[i]?=some c':=by
   have:=congrArg (·[0]?) hy
   simpa using this
  have A:=hn f (List.mem_cons_self ..)
  have o:∀ t,tab.ty f.type=some t→t.isAgg=false→(Op.equalIn (d+1) f.type c c').run P w=.ok b1 w→(Op.eqFields (d+1) xs ys (f::r)).run P w=.ok (b1&&b2) w:=by
   intro t ht ha hr
   have hT:=e.ty _ t ht
   have B:(part f.type xs f.offset).run P w=.ok c w:=by simp [part,Q0u hT,ha,j,F]
   have C:(part f.type ys f.offset).run P w=.ok c' w:=by simp [part,Q0u hT,ha,j,G]
   simp only [Op.eqFields,if_pos A,Sem.run_bind,B,C,Result.andThen_ok,hr]
   cases b1 with
   | true=>simpa using ih
   | false=>simp
  split at a
  case h_4=>cases a
  case h_1 k hk=>
   simp only [Option.bind_eq_some_iff] at a
   obtain ⟨u,hu,v,l,a⟩:=a
   rw [hk] at htd
   have e1:=Qv hu n
   have e2:=Qv l hwx
   have h:P.underlying f.type=some (.int k):=e.td _ _ hk
   cases m:Nat.beq (Qq u.1) (Qq v.1) with
   | false=>rw [m] at a;cases a
   | true=>
    rw [m] at a
    have e3:=Qj1 m
    have:=sI a
    subst this
    cases hty:tab.ty f.type with
    | none=>simp only [hty] at htd;cases htd
    | some t=>
     simp only [hty] at htd
     cases t<;>first | (cases htd;done) | skip
     refine o _ hty rfl ?_
     rw [e1,e2,e3]
     exact run_equalIn_int w d f.type _ _ _ _ h
  case h_2 hk=>
   simp only [Option.bind_eq_some_iff] at a
   obtain ⟨u,hu,v,l,a⟩:=a
   rw [hk] at htd
   have e1:=X1 hu n
   have e2:=X1 l hwx
   have h:P.underlying f.type=some .string:=e.td _ _ hk
   have:=sI a
   subst this
   cases hty:tab.ty f.type with
   | none=>simp only [hty] at htd;cases htd
   | some t=>
    simp only [hty] at htd
    cases t<;>first | (cases htd;done) | skip
    refine o _ hty rfl ?_
    rw [e1,e2]
    rw [← Q9b];exact run_equalIn_string w d f.type _ _ h
  case h_3 hk=>
   simp only [Option.bind_eq_some_iff] at a
   obtain ⟨u,hu,v,l,a⟩:=a
   rw [hk] at htd
   have e1:=X6 hu n
   have e2:=X6 l hwx
   have h:P.underlying f.type=some .bool:=e.td _ _ hk
   have:=sI a
   subst this
   cases hty:tab.ty f.type with
   | none=>simp only [hty] at htd;cases htd
   | some t=>
    simp only [hty] at htd
    cases t<;>first | (cases htd;done) | skip
    refine o _ hty rfl ?_
    rw [e1,e2]
    exact run_equalIn_bool' w d f.type _ _ h
end
end Go.PE
namespace Go.PE
section
variable {P:Program} {tab:Tab} {N:NN} {w0:World} {F:FF} {S:Nat→Prop} {β:Lab→Value} {st:St} {a:Act} {w:World}
theorem Q5t {op:BinOp} {T eT:TypeId} {A:Option Addr} {n c:Nat} (hu:P.underlying T=some (.slice eT)) (ho:op=.eql) :
  (binOp op T (.slice A n c) (.slice none 0 0)).run P w=.ok (.bool A.isNone) w:=by
 subst ho
 simp [binOp,run_equal_slice_nil w T eT A n c hu]
theorem Qc8 (i:Qc P tab) (h:Rel P tab.ty N w0 F S β st a w) {o:Oper} {bop:BinOp} {T T':TypeId} {x y:Operand} (ho:o.op=.binOp bop T x y T') {c:Bool} {v:SV} {u:Upd} {kn:List (Nat × Bool)} {dst:Nat}
  (he:ev1 tab kn (Qb st.slots) (Q0 st.objs) dst (.binOp bop T x y T') o.type=some (c,v,u)) (hc:c=true):Qa P tab N w0 F S β st a w o v u:=by
 have hx:=Q4 h x
 have hy:=Q4 h y
 simp only [ev1] at he
 split at he
 ·rename_i iv yv hsx m
  rw [hsx] at hx
  cases hq:(Q4k y&&Qe9 tab T) with
  | false=>rw [hq] at he;cases he
  | true=>
   rw [hq] at he
   simp only [cond_true] at he
   simp only [Bool.and_eq_true] at hq
   have Q:y=.const .nilIface:=by
    have h1:=hq.1
    unfold Q4k at h1
    split at h1
    ·rfl
    ·cases h1
   subst Q
   have j:∃ ms,P.underlying T=some (.interface ms):=by
    have h2:=hq.2
    unfold Qe9 at h2
    split at h2
    ·rename_i ht;exact i.td T _ ht
    ·cases h2
   obtain ⟨ms,j⟩:=j
   have f:a.eval x=IV.value iv:=List.singleton_inj.1 hx.1
   have hg:(eqGuard bop T x (.const .nilIface) (a.eval x) (a.eval (.const .nilIface))).run P w=.ok () w:=by
    rw [f]
    unfold eqGuard
    cases iv<;>cases bop<;>simp [IV.value,Act.eval]
   have heq:(Op.equal T (a.eval x) .nilIface).run P w=.ok (IV.isNil iv) w:=by
    rw [f]
    have I:∀ d,(Op.equalIn (d+1) T (IV.value iv) .nilIface).run P w=.ok (IV.isNil iv) w:=by
     intro d
     cases iv<;>simp [Op.equalIn,run_underlying j,IV.value,IV.isNil]
    exact I 9999
   generalize IV.isNil iv=nb at he heq
   cases bop<;>simp only [Q71,reduceCtorEq,Option.some.injEq,Prod.mk.injEq] at he<;>first | (cases he;done) | skip
   case eql=>
    obtain ⟨rfl,rfl,rfl⟩:=he
    refine Qa.plain h (Q0t ho hg (z:=.bool nb) ?_) (Q56 _)
    rw [show a.eval (.const .nilIface)=.nilIface from rfl]
    unfold binOp
    rw [f] at heq ⊢
    cases iv<;>simp [IV.value] at heq ⊢<;>simp [heq]
   case neq=>
    obtain ⟨rfl,rfl,rfl⟩:=he
    refine Qa.plain h (Q0t ho hg (z:=.bool (!nb)) ?_) (Q56 _)
    rw [show a.eval (.const .nilIface)=.nilIface from rfl]
    unfold binOp
    rw [f] at heq ⊢
    cases iv<;>simp [IV.value] at heq ⊢<;>simp [heq]
 ·rename_i lv hsx m
  rw [hsx] at hx
  rw [m] at hy
  have p:a.eval y=.slice none 0 0:=hy
  split at he
  case h_2=>cases he
  case h_1 eT htd=>
  have j:P.underlying T=some (.slice eT):=i.td T _ htd
  simp only [Option.bind_eq_some_iff] at he
  obtain ⟨ne,k,he⟩:=he
  split at he
  case h_2=>cases he
  case h_1=>
  simp only [Option.some.injEq,Prod.mk.injEq] at he
  obtain ⟨rfl,rfl,rfl⟩:=he
  have U:∃ A n cc,a.eval x=.slice A n cc∧(ne=true→A.isNone=false):=by
   unfold Qjb at k
   split at k
   ·rename_i e xs
    obtain ⟨A,cc,hv,W,_,L⟩:=hx
    refine ⟨A,_,cc,List.singleton_inj.1 hv,fun B=>?_⟩
    have:=sI k
    rw [B] at this
    have C:0<List.length xs:=by
     cases O:xs with
     | nil=>rw [O] at this;cases this
     | cons q r=>exact Nat.succ_pos _
    obtain ⟨b,o',rfl,_⟩:=L C
    rfl
   ·rename_i l
    split at k
    case h_2=>cases k
    case h_1 eT' e xs hol=>
    obtain ⟨_,cells,E,_⟩:=h.objs l _ hol
    obtain ⟨hv,_⟩:=hx
    rcases E.2 with ⟨h1,h0⟩ | ⟨g,cap,V,G,_,_⟩
    ·refine ⟨none,0,0,by rw [← hv,h1],fun B=>?_⟩
     have:=sI k
     rw [B] at this
     have D:xs=[]:=List.eq_nil_of_length_eq_zero h0
     rw [D] at this;cases this
    ·exact ⟨_,_,cap,by rw [← hv,G],fun _=>rfl⟩
   ·cases k
  obtain ⟨A,n,cc,f,hA⟩:=U
  have hg:(eqGuard .eql T x y (a.eval x) (a.eval y)).run P w=.ok () w:=by
   rw [f]
   exact Q68 (.inl (by intro e;cases e)) (by intro cs e;cases e)
  refine Qa.plain h (Q0t ho hg (z:=.bool A.isNone) ?_) ⟨A.isNone,rfl,hA⟩
  rw [f,p]
  exact Q5t j rfl
 ·rename_i lv lw _ _ hsx m
  rw [hsx] at hx
  rw [m] at hy
  cases hq:Qa9 tab T lv with
  | false=>rw [hq] at he;cases he
  | true=>
   rw [hq] at he
   simp only [cond_true,Option.bind_eq_some_iff,Option.some.injEq,Prod.mk.injEq] at he
   obtain ⟨r,hr,rfl,rfl,rfl⟩:=he
   have hT:∀ b,Q00 lv=some b→P.underlying T=some .bool:=by
    intro b hb
    unfold Qa9 at hq
    rw [hb] at hq
    split at hq
    ·rename_i ht;exact i.td T _ ht
    ·cases hq
    ·simp_all
   obtain ⟨z,hz,R⟩:=Qfb (w:=w) (T:=T) (show Q97 bop lv lw=some (r.1,r.2) from hr) hc hT hx hy
   have H:Qm P tab.ty S β w lv (a.eval x):=hx
   have hg:(eqGuard bop T x y (a.eval x) (a.eval y)).run P w=.ok () w:=
    Q68 (.inl (Qd9 hr H)) (Qm.notAgg H)
   exact Qa.plain h (Q0t ho hg hz) R
 ·rename_i vs ws hsx m
  rw [hsx] at hx
  rw [m] at hy
  split at he
  case h_2=>cases he
  case h_1 fs htd=>
  cases hf:Q1n tab 0 fs with
  | false=>rw [hf] at he;cases he
  | true=>
   rw [hf] at he
   simp only [cond_true,Option.bind_eq_some_iff] at he
   obtain ⟨b,hb,he⟩:=he
   obtain ⟨gs,j,M⟩:=i.td T _ htd
   obtain ⟨h1,h2,h3⟩:=i.eqs T fs htd hf
   obtain ⟨cs,f,J⟩:=hx
   obtain ⟨ds,p,K⟩:=hy
   have t:P.fieldsOf T=gs:=by unfold Program.fieldsOf;rw [j]
   have s:(Op.equalIn 10000 T (.agg cs.toArray) (.agg ds.toArray)).run P w=.ok b w:=by
    rw [run_equalIn_struct w 9999 T _ _ (by rw [t];exact j) h1]
    rw [t]
    exact Qbl gs.toList 0 cs.toArray ds.toArray 9998 i M hf hb J K (by simp) (by simp) (by rw [← t];exact h3)
   have hg:(eqGuard bop T x y (a.eval x) (a.eval y)).run P w=.ok () w:=by
    rw [f,p];exact run_eqGuard_agg w bop T x y _ _ h2
   cases bop<;>simp only [Q71,reduceCtorEq,Option.some.injEq,Prod.mk.injEq] at he<;>first | (cases he;done) | skip
   case eql=>
    obtain ⟨rfl,rfl,rfl⟩:=he
    refine Qa.plain h (Q0t ho hg (z:=.bool b) ?_) (Q56 _)
    rw [f,p,run_eql_struct,s];rfl
   case neq=>
    obtain ⟨rfl,rfl,rfl⟩:=he
    refine Qa.plain h (Q0t ho hg (z:=.bool (!b)) ?_) (Q56 _)
    rw [f,p,run_neq_struct,s];rfl
 ·cases he
end
end Go.PE
namespace Go.PE
section
variable {P:Program} {tab:Tab} {N:NN} {w0:World} {F:FF} {S:Nat→Prop} {β:Lab→Value} {st:St} {a:Act} {w:World}
theorem Qfe (b:Qc P tab) (h:Rel P tab.ty N w0 F S β st a w) {o:Oper} {x:Operand} {T:TypeId} {args:Array Operand} {ts:Array TypeId}
  (ho:o.op=.call { callee:=.builtin .len,args:=args,argTypes:=ts }) (ha:args.toList=[x]) (ht:ts.toList=[T]) {n:Int} (hn:Q2v (Q0 st.objs) (Qb st.slots x)=some n)
  (hf:Q7g tab T (Qb st.slots x)=true):Qa P tab N w0 F S β st a w o (.cv (.one (.pure (.int .i64) n))) []:=by
 have e1:=Qb3 ha
 have e2:ts=#[T]:=by apply Array.ext';simpa using ht
 subst e1;subst e2
 obtain ⟨cs,hr⟩:=Jt (P:=P) (w:=w) (a:=a) ho
 refine Qa.plain h (x:=.int .i64 n) ?_ (Q5r _ _)
 rw [hr]
 have hx:=Q4 h x
 rcases Qel b h hn with ⟨s,hv,rfl⟩ | ⟨A,m,c,hv,rfl,_⟩
 ·have hT:P.underlying T=some .string:=by
   unfold Q7g at hf
   split at hf
   ·rename_i ht _;exact b.td T _ ht
   ·cases hf
   ·rename_i eT htd f
    exfalso
    unfold Q2v at hn
    split at hn
    ·rename_i e xs hs
     rw [hs] at hx
     obtain ⟨A,c,d,_⟩:=hx
     rw [List.singleton_inj.1 d] at hv;cases hv
    ·rename_i s' hs;exact f s' hs
    ·rename_i hs;rw [hs] at hx;have hx:a.eval x=_:=hx;rw [hx] at hv;cases hv
    ·rename_i l hs
     rw [hs] at hx
     obtain ⟨_,A,n',c,d⟩:=hx
     rw [d] at hv;cases hv
    ·rename_i l lo m sz hs
     rw [hs] at hx
     obtain ⟨A,n0,c0,A',_,_,h3,_⟩:=hx
     rw [h3] at hv;cases hv
    ·cases hn
   ·cases hf
  simp [builtin,hv,run_len_string,hT,goInt]
 ·have hT:∃ eT,P.underlying T=some (.slice eT):=by
   unfold Q7g at hf
   split at hf
   ·rename_i hs
    rw [hs] at hx
    rw [List.singleton_inj.1 hx] at hv;cases hv
   ·cases hf
   ·rename_i eT htd f;exact ⟨eT,b.td T _ htd⟩
   ·cases hf
  obtain ⟨eT,hT⟩:=hT
  simp [builtin,hv,Builtin.len_,run_underlying hT,goInt]
theorem Q3y (h:Rel P tab.ty N w0 F S β st a w) {o:Oper} {ob:Ob} {sv:SV} {cs:Obj} {v:Value}
  (hr:(execOp a.eval o).run P w=.ok (.value v) (w.alloc cs)) (hb:blk v=some w.heap.size) (hob:Z7 P tab.ty S β (w.alloc cs) ob v)
  (hl:∀ l,X2 st l=true→l ∉ Qz ob) {jl:Nat} (hv:∀ β',β' (o.dst.getD 999999999,jl)=v→Qf P tab.ty S β' (w.alloc cs) sv v) :
  Qa P tab N w0 F S β st a w o sv [((o.dst.getD 999999999,jl),ob)]:=by
 refine ⟨v,w.alloc cs,.inl hr,fun st' he=>?_⟩
 obtain ⟨hf,rfl⟩:=Q2k rfl he
 obtain ⟨h1,h2,h3⟩:=Z2 hf
 refine ⟨S,Jy β (o.dst.getD 999999999,jl) v,fun _ h=>h,fun m hm=>Qn (fun e=>hm (by rw [e])),?_,hv _ (Qh ..)⟩
 refine h.setObj (X:=fun _=>False) (Fr.alloc _ w cs) (fun _ _ h=>h.elim) (.inr ⟨h2,fun m d hm _=>h3 m d hm⟩) (.inr (hl _ hf)) hob (fun b c=>?_) (fun m=>?_)
 ·rw [hb] at c
  have:=sI c
  subst this
  exact ⟨.inl (Nat.le_refl _),by simp⟩
 ·rw [Q3]
theorem Qba {w':World} (t:Ty):Q5 P tab.ty S β w' (Q0m t) (Z9 t):=by
 induction t with
 | int k=>exact ⟨_,_,rfl,(rfl:[_]=[_]),rfl⟩
 | bool=>exact ⟨_,_,rfl,(rfl:_=_),rfl⟩
 | str=>exact ⟨_,_,rfl,(rfl:[_]=[_]),rfl⟩
 | ifc=>exact ⟨_,_,rfl,⟨rfl,trivial⟩,rfl⟩
 | sl n e ih=>exact ⟨_,_,rfl,(rfl:_=_),rfl⟩
 | pair a b c d=>exact Q5.append c d
 | unit=>rfl
theorem Q08 {τ:TypeId→Option Ty} {w':World} (t:Ty):Rep τ S w' t t.dflt (Z9 t):=by
 induction t with
 | int k=>rfl
 | bool=>rfl
 | str=>rfl
 | ifc=>exact ⟨rfl,trivial⟩
 | sl n e ih=>exact ⟨none,0,rfl,Nat.le_refl _,by simp [maxLen],fun h=>absurd h (by simp [Ty.dflt])⟩
 | pair a b c d=>exact ⟨_,_,rfl,c,d⟩
 | unit=>rfl
theorem Q8q (t:Ty):(Q0m t).flatMap Qw=[]:=by
 induction t with
 | pair a b c d=>simp [Q0m,c,d]
 | _=>rfl
theorem Qi3 (c:CV):(Xt c).flatMap Qw=Q0w c:=by cases c<;>simp [Xt,Q0w]
theorem Qb0 {l:Lab} (hf:X2 st l=true) (x:Operand):l ∉ Qe (Qb st.slots x):=by
 obtain ⟨h1,h2,h3⟩:=Z2 hf
 cases x with
 | tmp t=>exact h2 t
 | const v=>
  simp only [Qb,Qax]
  cases hc:Q3u v with
  | none=>simp [Qe]
  | some u=>
   have:Qw u=[]:=by
    unfold Q3u at hc
    split at hc<;>first | (cases hc;done) | (have:=sI hc;subst this;rfl)
   simp [Qe,Q0w,this]
 | func f=>simp [Qb,Qe,Q0w,Qw]
 | global g=>simp [Qb,Qe]
theorem Q5.alloc (b:∀ k,S k→k<w.heap.size) {xs:List LV} {cs:List Value} (ob:Obj) (h:Q5 P tab.ty S β w xs cs):Q5 P tab.ty S β (w.alloc ob) xs cs:=
 h.frame (fun _ x=>x) (by simp) (fun k hk a=>RowKit.Below.heap_alloc w ob k a) b (fun _ _=>rfl)
theorem Qfs (h:Rel P tab.ty N w0 F S β st a w) {o:Oper} {T:TypeId} {x:Operand} (ho:o.op=.box T x) {c:CV} (hx:Qb st.slots x=.cv c) :
  Qa P tab N w0 F S β st a w o (.cv (.one (.ptr (o.dst.getD 999999999,0) 0))) [((o.dst.getD 999999999,0),.box T (Xt c))]:=by
 have hv:=Q4 h x
 rw [hx] at hv
 have b:=Xm.cells hv
 refine Q3y h (cs:=.cells (a.eval x).cells T) (v:=.pointer (some ⟨w.heap.size,0,none⟩)) ?_ rfl ?_ (fun l hl=>?_) (fun β' hβ=>⟨w.heap.size,hβ,rfl⟩)
 ·unfold execOp
  simp only [ho]
  simp [Instr.box,newVar,newRow]
 ·exact ⟨w.heap.size,T,_,rfl,heap_alloc_new w _,b.alloc h.sb _⟩
 ·have:=Qb0 hl x
  rw [hx] at this
  simp only [Qz,Qi3]
  exact this
theorem Qbi (b:Qc P tab) (h:Rel P tab.ty N w0 F S β st a w) {o:Oper} {T:TypeId} (ho:o.op=.alloc T) {t:Ty} (ht:tab.ty T=some t) :
  Qa P tab N w0 F S β st a w o (.cv (.one (.ptr (o.dst.getD 999999999,0) 0))) [((o.dst.getD 999999999,0),.box T (Q0m t))]:=by
 obtain ⟨z,hz,c,_⟩:=Q4c (w:=w) (b.ty T t ht)
 refine Q3y h (cs:=.cells z.cells T) (v:=.pointer (some ⟨w.heap.size,0,none⟩)) ?_ rfl ?_ (fun l hl=>?_) (fun β' hβ=>⟨w.heap.size,hβ,rfl⟩)
 ·unfold execOp
  simp only [ho]
  simp [Instr.alloc,newVar,newRow,hz]
 ·refine ⟨w.heap.size,T,_,rfl,heap_alloc_new w _,?_⟩
  rw [c]
  exact Qba t
 ·simp [Qz,Q8q]
theorem Q19 {τ:TypeId→Option Ty} {e:Ty} {x:e.den} {c:Value} (h:Rep τ S w e x [c]):∀ n,Q1 τ S w e (List.replicate n x) (List.replicate n c)
 | 0=>rfl
 | n+1=>⟨[c],List.replicate n c,rfl,h,Q19 h n⟩
theorem Q7q (b:Qc P tab) (h:Rel P tab.ty N w0 F S β st a w) {o:Oper} {T:TypeId} (ho:o.op=.alloc T) {n:Nat} {eT:TypeId} {e:Ty} (htd:tab.td T=some (.arr n eT)) (ht:tab.ty eT=some e)
  (h1:e.cells=1):Qa P tab N w0 F S β st a w o (.cv (.one (.ptr (o.dst.getD 999999999,0) 0))) [((o.dst.getD 999999999,0),.arr eT e (List.replicate n e.dflt))]:=by
 obtain ⟨i,z,hi,hz,d⟩:=b.arrz T n eT e htd ht h1
 refine Q3y h (cs:=.cells z T) (v:=.pointer (some ⟨w.heap.size,0,none⟩)) ?_ rfl ?_ (fun l hl=>?_) (fun β' hβ=>⟨w.heap.size,hβ,rfl⟩)
 ·unfold execOp
  simp only [ho]
  simp [Instr.alloc,newVar,newRow,zeroValue,typeInfo,hi,hz,Value.cells]
 ·refine ⟨w.heap.size,T,_,_,.inl rfl,heap_alloc_new w _,.inl rfl,?_⟩
  rw [d,h1,List.take_of_length_le (by simp)]
  refine Q19 ?_ n
  have hr:=Q08 (S:=S) (w':=w.alloc (.cells z T)) (τ:=tab.ty) e
  have hl:=hr.length
  rw [h1] at hl
  obtain ⟨c,hc⟩:=List.length_eq_one_iff.1 hl
  rw [hc] at hr ⊢
  exact hr
 ·simp [Qz]
end
end Go.PE
namespace Go.PE
section
variable {P:Program} {tab:Tab} {N:NN} {w0:World} {F:FF} {S:Nat→Prop} {β:Lab→Value} {st:St} {a:Act} {w:World}
theorem Qbg (off:Nat) (ns:List Value) (cs:Array Value) (h:off+ns.length≤cs.size) :
  ((ns.zipIdx 0).foldl (fun cs (x:Value × Nat)=>cs.setIfInBounds (off+x.2) x.1) cs).toList=cs.toList.take off++ns++cs.toList.drop (off+ns.length):=by
 obtain ⟨h1,h2⟩:=Great.foldl_set off ns 0 cs
 apply List.ext_getElem?
 intro k
 rw [Array.getElem?_toList,h2 k]
 simp only [Nat.add_zero]
 have e1:(cs.toList.take off).length=off:=by rw [List.length_take,Array.length_toList];omega
 have e2:(cs.toList.take off++ns).length=off+ns.length:=by rw [List.length_append,e1]
 by_cases hk:k<off
 ·rw [if_neg (by omega),List.append_assoc,List.getElem?_append_left (by omega),List.getElem?_take,if_pos hk,Array.getElem?_toList]
 ·by_cases a:k<off+ns.length
  ·rw [if_pos (by omega),List.getElem?_append_left (by omega),List.getElem?_append_right (by omega),e1]
  ·rw [if_neg (by omega),List.getElem?_append_right (by omega),e2,List.getElem?_drop,Array.getElem?_toList]
   congr 1;omega
theorem Q8o (g:Qc P tab) (h:Rel P tab.ty N w0 F S β st a w) {fs:List (TypeId × Nat)} {place:Nat→Option (Nat × Nat)}
  (hp:∀ j f t,fs[j]?=some f→tab.ty f.1=some t→place j=some (f.2,t.cells)) :
  ∀ {parts:List (Nat × Operand)} {vs vs':List LV} {cs:Array Value},Q01 fs tab (Qb st.slots) vs parts=some vs'→Q5 P tab.ty S β w vs cs.toList →
   ∃ e,Instr.fill place cs (parts.map fun p=>(p.1,a.eval p.2))=some e∧Q5 P tab.ty S β w vs' e.toList
 | [],vs,vs',cs,he,hv=>by
  simp only [Q01,Option.some.injEq] at he
  subst he
  exact ⟨cs,rfl,hv⟩
 | (j,x)::r,vs,vs',cs,he,hv=>by
  simp only [Q01,Option.bind_eq_some_iff] at he
  obtain ⟨f,hf,t,ht,he⟩:=he
  have hx:=Q4 h x
  revert he hx
  cases Qb st.slots x<;>try (intro he;cases he;done)
  case cv c=>
  intro he hx
  have d:=Xm.cells hx
  have k:=d.length
  rw [Array.length_toList] at k
  have l:=hv.length
  rw [Array.length_toList] at l
  simp only at he
  cases b:(Nat.beq (Xt c).length t.cells&&Nat.ble (f.2+t.cells) vs.length) with
  | false=>rw [b] at he;cases he
  | true=>
   rw [b] at he
   simp only [cond_true] at he
   simp only [Bool.and_eq_true] at b
   have e1:=Nat.eq_of_beq_eq_true b.1
   have e2:=Q2.1 b.2
   have i:=Q2q f.2 hv d (by omega)
   rw [← Qbg f.2 (a.eval x).cells.toList cs (by rw [Array.length_toList];omega)] at i
   obtain ⟨e,h1,h2⟩:=Q8o g h hp he i
   refine ⟨e,?_,h2⟩
   simp only [List.map_cons]
   unfold Instr.fill
   simp only [hp j f t hf ht]
   rw [if_neg (by simp;omega),← h1]
   congr 1
   rw [← Array.foldl_toList,Array.toList_zipIdx]
theorem Qiv (b:Qc P tab) {T:TypeId} {fs:List (TypeId × Nat)} (htd:tab.td T=some (.stc fs)):∃ gs a,P.underlying T=some (.struct gs)∧gs.toList.map (fun g=>(g.type,g.offset))=fs ∧
  gs.toList.mapM (fun f=>(P.info? f.type).map fun i=>(f.offset,i.size))=some a ∧
  ∀ (j:Nat) (f:TypeId × Nat) (t:Ty),fs[j]?=some f→tab.ty f.1=some t→a[j]?=some (f.2,t.cells):=by
 obtain ⟨gs,hu,c⟩:=b.td T _ htd
 have d:∀ g∈gs.toList,∃ i,P.info? g.type=some i:=fun g hg=>b.fld T fs htd (g.type,g.offset) (by rw [← c];exact List.mem_map.2 ⟨g,hg,rfl⟩)
 suffices ∀ (l:List Field),(∀ g∈l,∃ i,P.info? g.type=some i)→∃ a,l.mapM (fun f=>(P.info? f.type).map fun i=>(f.offset,i.size))=some a ∧
   ∀ (j:Nat) (f:TypeId × Nat) (t:Ty),(l.map (fun (g:Field)=>(g.type,g.offset)))[j]?=some f→tab.ty f.1=some t→a[j]?=some (f.2,t.cells) by
  obtain ⟨a,h1,h2⟩:=this gs.toList d
  exact ⟨gs,a,hu,c,h1,by rw [← c];exact h2⟩
 intro l
 induction l with
 | nil=>intro _;exact ⟨[],rfl,fun j f t hj=>by simp at hj⟩
 | cons g r ih=>
  intro hl
  obtain ⟨a,h1,h2⟩:=ih (fun q hq=>hl q (List.mem_cons_of_mem _ hq))
  obtain ⟨i,hi⟩:=hl g (List.mem_cons_self ..)
  refine ⟨(g.offset,i.size)::a,by simp [List.mapM_cons,hi,h1],fun j f t hj ht=>?_⟩
  cases j with
  | zero=>
   simp only [List.map_cons,List.getElem?_cons_zero,Option.some.injEq] at hj
   subst hj
   obtain ⟨i',z,h3,h4,_⟩:=(b.ty g.type t ht).info
   rw [hi] at h3
   simp only [Option.some.injEq] at h3
   subst h3
   simp [h4]
  | succ j=>simpa using h2 j f t (by simpa using hj) ht
theorem Qb5 (b:Qc P tab) (h:Rel P tab.ty N w0 F S β st a w) {o:Oper} {T:TypeId} {parts:Array (Nat × Operand)} (ho:o.op=.build T parts) {fs:List (TypeId × Nat)} (htd:tab.td T=some (.stc fs))
  {t:Ty} (ht:tab.ty T=some t) {vs:List LV} (he:Q01 fs tab (Qb st.slots) (Q0m t) parts.toList=some vs):Qa P tab N w0 F S β st a w o (.cv (.agg vs)) []:=by
 obtain ⟨gs,c,hu,l,f,hp⟩:=Qiv b htd
 obtain ⟨i,z,hi,k,hz,g,m,_⟩:=(b.ty T t ht).info
 obtain ⟨d,h1,h2⟩:=Q8o b h (place:=fun j=>c[j]?) hp he (cs:=z.cells) (by rw [g];exact Qba t)
 refine Qa.plain h (x:=.agg d) ?_ ⟨d.toList,by simp,h2⟩
 have e:(parts.map fun (x:Nat × Operand)=>(x.1,a.eval x.2)).toList=parts.toList.map fun p=>(p.1,a.eval p.2):=by simp
 have hb:(Instr.build T (parts.map fun (x:Nat × Operand)=>(x.1,a.eval x.2))).run P w=.ok (.agg d) w:=by
  simp [Instr.build,run_underlying hu,typeInfo,zeroValue,hi,hz,Array.mapM_eq_mapM_toList,run_places w _ _ f,h1]
 unfold execOp
 simp only [ho]
 simp only [Sem.run_bind,hb,Result.andThen_ok]
 rfl
theorem Q3p (b:Qc P tab) (h:Rel P tab.ty N w0 F S β st a w) {eT:TypeId} {e:Ty} :
  ∀ {parts:List (Nat × Operand)} {i:Nat} {xs:List e.den},Q22 tab (Qb st.slots) (Q0 st.objs) eT e i parts=some xs →
   ∃ vs:List Value,(parts.map fun p=>(p.1,a.eval p.2))=(vs.zipIdx i).map (fun x=>(x.2,x.1))∧vs.length=parts.length∧xs.length=parts.length∧(∀ v∈vs,v.cells.size=e.cells) ∧
    Q1 tab.ty S w e xs (vs.flatMap fun v=>v.cells.toList)
 | [],i,xs,he=>by
  simp only [Q22,Option.some.injEq] at he
  subst he
  exact ⟨[],rfl,rfl,rfl,by simp,rfl⟩
 | (j,x)::r,i,xs,he=>by
  simp only [Q22] at he
  cases hj:Nat.beq i j with
  | false=>rw [hj] at he;cases he
  | true=>
   rw [hj] at he
   have:=Nat.eq_of_beq_eq_true hj
   subst this
   simp only [cond_true] at he
   have hx:=Q4 h x
   revert he hx
   cases Qb st.slots x<;>try (intro he;cases he;done)
   case cv c=>
   intro he hx
   simp only [Option.bind_eq_some_iff,Option.some.injEq] at he
   obtain ⟨y,hy,l,hl,rfl⟩:=he
   cases hn:Q07 c with
   | false=>rw [hn] at hy;cases hy
   | true=>
    rw [hn] at hy
    simp only [cond_true] at hy
    have hr:=(Q1f h hy hx hn).cellsRep
    obtain ⟨vs,h1,h2,h3,h4,h5⟩:=Q3p b h hl
    refine ⟨a.eval x::vs,by simp [h1],by simp [h2],by simp [h3],?_,⟨_,_,rfl,hr,h5⟩⟩
    intro v hv
    rcases List.mem_cons.1 hv with rfl | hv
    ·have:=hr.length;simpa using this
    ·exact h4 v hv
theorem Q1.alloc (b:∀ k,S k→k<w.heap.size) {e:Ty} {xs:List e.den} {cs:List Value} (ob:Obj) (h:Q1 tab.ty S w e xs cs):Q1 tab.ty S (w.alloc ob) e xs cs:=
 h.frame (fun _ x=>x) (by simp) (fun k hk a=>RowKit.Below.heap_alloc w ob k a)
theorem Q5y (b:Qc P tab) (h:Rel P tab.ty N w0 F S β st a w) {o:Oper} {T:TypeId} {n:Nat} {parts:Array (Nat × Operand)} (ho:o.op=.buildSlice T n parts) {eT:TypeId} (htd:tab.td T=some (.slc eT))
  {e:Ty} (ht:tab.ty eT=some e) (hn:parts.toList.length=n) (r:n*e.cells≤16777216) {xs:List e.den} (he:Q22 tab (Qb st.slots) (Q0 st.objs) eT e 0 parts.toList=some xs) :
  Qa P tab N w0 F S β st a w o (.cv (.one (.ref (o.dst.getD 999999999,0)))) [((o.dst.getD 999999999,0),.row eT e xs)]:=by
 have c:=b.pos T eT e htd ht
 have hu:P.underlying T=some (.slice eT):=b.td T _ htd
 obtain ⟨vs,h1,h2,h3,h4,h5⟩:=Q3p b h he
 obtain ⟨i,z,hi,d,hz,s,_⟩:=(b.ty eT e ht).info
 have e0:(parts.map fun (x:Nat × Operand)=>(x.1,a.eval x.2)).toList=(vs.zipIdx 0).map (fun x=>(x.2,x.1)):=by simp [← h1]
 have j:xs.length=n:=by rw [h3,hn]
 have m:(Instr.buildSlice T n (parts.map fun (x:Nat × Operand)=>(x.1,a.eval x.2))).run P w =
   .ok (.slice (some ⟨w.heap.size,0,none⟩) n n) (w.alloc (.cells (vs.flatMap fun v=>v.cells.toList).toArray eT)):=by
  cases f:n with
  | zero=>
   subst f
   have q:vs=[]:=List.eq_nil_of_length_eq_zero (by rw [h2,hn])
   subst q
   have ep:(parts.map fun (x:Nat × Operand)=>(x.1,a.eval x.2)).toList=[]:=by rw [e0];rfl
   simp only [Instr.buildSlice,Sem.run_bind,run_underlying hu,Result.andThen_ok]
   have p:parts.toList=[]:=List.eq_nil_of_length_eq_zero hn
   simp [Z8 (b.ty eT e ht),newRow,p,Instr.fill]
   congr 2
   apply Array.ext<;>simp
  | succ k=>
   rw [← f]
   refine run_buildSlice w T eT n _ _ i z hu hi hz (by rw [d];simp;omega) (by rw [d,f];exact Nat.ne_of_gt (Nat.mul_pos (Nat.succ_pos k) c)) ?_
   rw [e0,d]
   exact Great.fill_whole c vs _ h4 (by simp [h2,hn])
 have g:=h5.length
 refine Q3y h (cs:=.cells (vs.flatMap fun v=>v.cells.toList).toArray eT) (v:=.slice (some ⟨w.heap.size,0,none⟩) n n) ?_ rfl ?_ (fun l hl=>by simp [Qz]) (fun β' hβ=>⟨hβ,_,_,_,rfl⟩)
 ·unfold execOp
  simp only [ho]
  simp only [Sem.run_bind,m,Result.andThen_ok]
  rfl
 ·refine ⟨c,vs.flatMap fun v=>v.cells.toList,⟨by rw [g],.inr ⟨w.heap.size,n,_,by rw [j],Nat.zero_le _,heap_alloc_new w _,by rw [j];exact Nat.le_refl _,?_,?_,?_⟩⟩,h5.alloc h.sb _⟩
  ·have:n≤n*e.cells:=Nat.le_mul_of_pos_right n c
   simp [maxLen];omega
  ·rw [List.size_toArray,g,j]
  ·rw [List.take_of_length_le (by rw [g];exact Nat.le_refl _)]
theorem Q3i (h:Rel P tab.ty N w0 F S β st a w) :
  ∀ {parts:List (Nat × Operand)} {i:Nat} {ls:List LV},Q25 (Qb st.slots) i parts=some ls →
   ∃ vs:List Value,(parts.map fun p=>(p.1,a.eval p.2))=(vs.zipIdx i).map (fun x=>(x.2,x.1))∧vs.length=parts.length∧ls.length=parts.length∧(∀ v∈vs,v.cells.size=1) ∧
    Q5 P tab.ty S β w ls vs∧(vs.flatMap fun v=>v.cells.toList)=vs∧(∀ l∈ls.flatMap Qw,∃ x,l∈Qe (Qb st.slots x))
 | [],i,ls,he=>by
  simp only [Q25,Option.some.injEq] at he
  subst he
  exact ⟨[],rfl,rfl,rfl,by simp,rfl,rfl,fun l hl=>by cases hl⟩
 | (j,x)::r,i,ls,he=>by
  simp only [Q25] at he
  cases hj:Nat.beq i j with
  | false=>rw [hj] at he;cases he
  | true=>
   rw [hj] at he
   have:=Nat.eq_of_beq_eq_true hj
   subst this
   simp only [cond_true] at he
   have hx:=Q4 h x
   revert he hx
   cases hs:Qb st.slots x<;>try (intro he;cases he;done)
   case cv c=>
   cases c<;>try (intro he;cases he;done)
   case one u=>
   cases u<;>try (intro he;cases he;done)
   case ref l=>
   intro he hx
   simp only [Option.bind_eq_some_iff,Option.some.injEq] at he
   obtain ⟨d,hl,rfl⟩:=he
   obtain ⟨vs,h1,h2,h3,h4,h5,h6,h7⟩:=Q3i h hl
   obtain ⟨hb,A,n,c,hv⟩:=hx
   refine ⟨a.eval x::vs,by simp [h1],by simp [h2],by simp [h3],?_,⟨_,_,rfl,⟨hb,A,n,c,hv⟩,h5⟩,?_,?_⟩
   ·intro v b
    rcases List.mem_cons.1 b with rfl | b
    ·rw [hv];rfl
    ·exact h4 v b
   ·rw [List.flatMap_cons,h6,hv];rfl
   ·intro m hm
    simp only [List.flatMap_cons,List.mem_append] at hm
    rcases hm with hm | hm
    ·exact ⟨x,by rw [hs];exact hm⟩
    ·exact h7 m hm
theorem Qaq (b:Qc P tab) (h:Rel P tab.ty N w0 F S β st a w) {o:Oper} {T:TypeId} {n:Nat} {parts:Array (Nat × Operand)} (ho:o.op=.buildSlice T n parts) {eT:TypeId} (htd:tab.td T=some (.slc eT))
  {e:Ty} (ht:tab.ty eT=some e) (j:e.cells=1) (hn:parts.toList.length=n) (p:n*e.cells≤16777216) {ls:List LV} (he:Q25 (Qb st.slots) 0 parts.toList=some ls) :
  Qa P tab N w0 F S β st a w o (.cv (.one (.ref (o.dst.getD 999999999,0)))) [((o.dst.getD 999999999,0),.lrow eT ls)]:=by
 have hu:P.underlying T=some (.slice eT):=b.td T _ htd
 obtain ⟨vs,h1,h2,h3,h4,h5,h6,h7⟩:=Q3i h he
 obtain ⟨i,z,hi,c,hz,t,_⟩:=(b.ty eT e ht).info
 have e0:(parts.map fun (x:Nat × Operand)=>(x.1,a.eval x.2)).toList=(vs.zipIdx 0).map (fun x=>(x.2,x.1)):=by simp [← h1]
 have f:ls.length=n:=by rw [h3,hn]
 have g:(Instr.buildSlice T n (parts.map fun (x:Nat × Operand)=>(x.1,a.eval x.2))).run P w =
   .ok (.slice (some ⟨w.heap.size,0,none⟩) n n) (w.alloc (.cells (vs.flatMap fun v=>v.cells.toList).toArray eT)):=by
  cases m:n with
  | zero=>
   subst m
   have s:vs=[]:=List.eq_nil_of_length_eq_zero (by rw [h2,hn])
   subst s
   have ep:(parts.map fun (x:Nat × Operand)=>(x.1,a.eval x.2)).toList=[]:=by rw [e0];rfl
   simp only [Instr.buildSlice,Sem.run_bind,run_underlying hu,Result.andThen_ok]
   have q:parts.toList=[]:=List.eq_nil_of_length_eq_zero hn
   simp [Z8 (b.ty eT e ht),newRow,q,Instr.fill]
   congr 2
   apply Array.ext<;>simp
  | succ k=>
   rw [← m]
   refine run_buildSlice w T eT n _ _ i z hu hi hz (by rw [c];simp;omega) (by rw [c,m,j];omega) ?_
   rw [e0,c,j]
   exact Great.fill_whole (by omega) vs _ h4 (by simp [h2,hn])
 rw [h6] at g
 have d:vs.length=n:=by rw [h2,hn]
 refine Q3y h (cs:=.cells vs.toArray eT) (v:=.slice (some ⟨w.heap.size,0,none⟩) n n) ?_ rfl ?_ (fun l hf hl=>?_) (fun β' hβ=>⟨hβ,_,_,_,rfl⟩)
 ·unfold execOp
  simp only [ho]
  simp only [Sem.run_bind,g,Result.andThen_ok]
  rfl
 ·refine ⟨vs,⟨by rw [d,f,Nat.mul_one],.inr ⟨w.heap.size,n,_,by rw [f],Nat.zero_le _,heap_alloc_new w _,by rw [f];exact Nat.le_refl _,?_,?_,?_⟩⟩,
   h5.frame (fun _ x=>x) (by simp) (fun k hk r=>RowKit.Below.heap_alloc w _ k r) h.sb (fun _ _=>rfl)⟩
  ·rw [j,Nat.mul_one] at p
   simp [maxLen];omega
  ·rw [List.size_toArray,d,Nat.mul_one]
  ·rw [List.take_of_length_le (by rw [f,Nat.mul_one];simp [d])]
 ·obtain ⟨x,hx⟩:=h7 l hl
  exact Qb0 hf x hx
theorem Q63 {l:List Value} (hl:0<l.length) (d:Value):∀ (n:Nat),(List.range (n*l.length)).map (fun i=>l.getD (i % l.length) d)=(List.replicate n l).flatten
 | 0=>by simp
 | n+1=>by
  rw [Nat.succ_mul,List.range_add,List.map_append,Q63 hl d n,List.replicate_succ',List.flatten_append]
  congr 1
  simp only [List.flatten_cons,List.flatten_nil,List.append_nil,List.map_map]
  apply List.ext_getElem (by simp)
  intro i h1 h2
  simp only [List.getElem_map,List.getElem_range,Function.comp]
  rw [Nat.mul_comm n,Nat.mul_add_mod,Nat.mod_eq_of_lt h2]
  simp [List.getD_eq_getElem?_getD,h2]
theorem Q1.zeros {τ:TypeId→Option Ty} (e:Ty):∀ (n:Nat),Q1 τ S w e (List.replicate n e.dflt) (List.replicate n (Z9 e)).flatten
 | 0=>rfl
 | n+1=>⟨Z9 e,(List.replicate n (Z9 e)).flatten,rfl,Q08 e,Q1.zeros e n⟩
theorem Q6r (c:Qc P tab) (h:Rel P tab.ty N w0 F S β st a w) {o:Oper} {T:TypeId} {x y:Operand} (ho:o.op=.makeSlice T x y) {n:Nat} (hx:Q64 x=some n) (hy:Q64 y=some n) {eT:TypeId} (htd:tab.td T=some (.slc eT))
  {e:Ty} (ht:tab.ty eT=some e) (f:n*e.cells≤16777216) :
  Qa P tab N w0 F S β st a w o (.cv (.one (.ref (o.dst.getD 999999999,77777)))) [((o.dst.getD 999999999,77777),.row eT e (List.replicate n e.dflt))]:=by
 have b:=c.pos T eT e htd ht
 have hu:P.underlying T=some (.slice eT):=c.td T _ htd
 obtain ⟨i,z,hi,d,hz,s,_,u⟩:=(c.ty eT e ht).info
 have cn:∀ {x:Operand},Q64 x=some n→a.eval x=.int .i64 (n:Int):=by
  intro x hx
  unfold Q64 at hx
  split at hx
  ·rename_i m
   cases hd:decide (0≤m) with
   | false=>rw [hd] at hx;cases hx
   | true=>
    rw [hd] at hx
    have e1:=sI hx
    have:=of_decide_eq_true hd
    have e2:m=(n:Int):=by rw [← e1];omega
    rw [e2];rfl
  ·cases hx
 have hn:n≤16777216:=Nat.le_trans (Nat.le_mul_of_pos_right n b) f
 have A:i.bytes*n≤131072*16777216:=Nat.mul_le_mul u hn
 have g:=run_makeSlice w (P:=P) T eT i z hu hi hz .i64 .i64 (n:Int) (n:Int) (by omega) (Int.le_refl _) (by rw [d];simpa using f) (by
   have e1:((i.bytes*n:Nat):Int)=(i.bytes:Int)*(n:Int):=Int.natCast_mul ..
   rw [← e1];omega) (by omega)
 simp only [Int.toNat_natCast] at g
 have p:z.cells.toList.length=e.cells:=by rw [s];exact (Q08 (S:=S) (w':=w) (τ:=tab.ty) e).length
 have q:(madeCells z.cells (n*i.size)).toList=(List.replicate n (Z9 e)).flatten:=by
  rw [← s,← Q63 (by rw [p];exact b) undef n]
  simp only [madeCells,Array.toList_map,Array.toList_range,d,p]
  apply List.map_congr_left
  intro j hj
  have t:z.cells.size=e.cells:=by simpa using p
  have r:j % e.cells<z.cells.size:=by rw [t];exact Nat.mod_lt _ b
  rw [t,getElem!_pos z.cells _ r,List.getD_eq_getElem?_getD,List.getElem?_eq_getElem (by simpa using r)]
  simp
 have h5:=Q1.zeros (τ:=tab.ty) (S:=S) (w:=w) e n
 have k:=h5.length
 refine Q3y h (cs:=.cells (madeCells z.cells (n*i.size)) eT) (v:=.slice (some ⟨w.heap.size,0,none⟩) n n) ?_ rfl ?_ (fun l hl=>by simp [Qz]) (fun β' hβ=>⟨hβ,_,_,_,rfl⟩)
 ·unfold execOp
  simp only [ho,cn hx,cn hy]
  simp only [Sem.run_bind,g,Result.andThen_ok]
  rfl
 ·refine ⟨b,(List.replicate n (Z9 e)).flatten,⟨by rw [k],.inr ⟨w.heap.size,n,_,by rw [List.length_replicate],Nat.zero_le _,heap_alloc_new w _,by rw [List.length_replicate];exact Nat.le_refl _,?_,?_,?_⟩⟩,h5.alloc h.sb _⟩
  ·simp [maxLen];omega
  ·rw [← Array.length_toList,q,k,List.length_replicate]
  ·rw [q,List.take_of_length_le (by rw [k];exact Nat.le_refl _)]
theorem Qfz {v:LV} {t:AT} {c:Value} (h:Qec v=some t) (hv:Qm P tab.ty S β w v c):c=t.val:=by
 unfold Qec at h
 split at h<;>first | (cases h;done) | skip
 ·have:=sI h;subst this;exact List.singleton_inj.1 hv
 ·have:=sI h;subst this;exact List.singleton_inj.1 hv
 ·have:=sI h;subst this;exact hv
 ·have:=sI h;subst this;exact List.singleton_inj.1 hv
theorem Q9r:∀ {vs:List LV} {l:List AT} {cs:List Value},Q90 vs=some l→Q5 P tab.ty S β w vs cs→cs=l.map AT.val
 | [],l,cs,h,hv=>by
  simp only [Q90,Option.some.injEq] at h
  subst h
  exact hv
 | v::r,l,cs,h,hv=>by
  simp only [Q90,Option.bind_eq_some_iff,Option.some.injEq] at h
  obtain ⟨t,ht,q,hq,rfl⟩:=h
  obtain ⟨c,cr,rfl,h1,h2⟩:=hv
  rw [Qfz ht h1,Q9r hq h2]
  rfl
theorem Q9o {τ:TypeId→Option Ty}:∀ {t:Ty} {l r:List AT} {x:t.den},Q4g t l=some (x,r)→∃ l1,l=l1++r∧Rep τ S w t x (l1.map AT.val):=by
 intro t
 induction t with
 | int k=>
  intro l r x h
  cases l with
  | nil=>cases h
  | cons q l=>
   cases q<;>first | (cases h;done) | skip
   case int k' n=>
    have h:(if Nat.beq (Qq k) (Qq k') then some ((n:Int),l) else none)=some (x,r):=h
    split at h
    ·rename_i hk
     have hk:=Qj1 hk
     obtain ⟨e1,e2⟩:=Prod.mk.inj (sI h)
     subst e1;subst e2
     exact ⟨[.int k' n],rfl,by rw [hk];exact rfl⟩
    ·cases h
 | bool=>
  intro l r x h
  cases l with
  | nil=>cases h
  | cons q l=>
   cases q<;>first | (cases h;done) | skip
   case bool b=>
    obtain ⟨e1,e2⟩:=Prod.mk.inj (sI h)
    subst e1;subst e2
    exact ⟨[.bool b],rfl,rfl⟩
 | str=>
  intro l r x h
  cases l with
  | nil=>cases h
  | cons q l=>
   cases q<;>first | (cases h;done) | skip
   case str b=>
    obtain ⟨e1,e2⟩:=Prod.mk.inj (sI h)
    subst e1;subst e2
    exact ⟨[.str b],rfl,rfl⟩
 | ifc=>intro l r x h;cases l<;>cases h
 | sl n e ih=>intro l r x h;cases l<;>cases h
 | pair a b f g=>
  intro l r x h
  have h:((Q4g a l).bind fun x=>(Q4g b x.2).bind fun y=>some ((x.1,y.1),y.2))=some (x,r):=by
   cases l<;>exact h
  obtain ⟨⟨y1,r1⟩,h1,h⟩:=bE h
  obtain ⟨⟨y2,r2⟩,h2,h3⟩:=bE h
  obtain ⟨e1,e2⟩:=Prod.mk.inj (sI h3)
  subst e1;subst e2
  obtain ⟨l1,rfl,c⟩:=f h1
  obtain ⟨l2,rfl,d⟩:=g h2
  exact ⟨l1++l2,by simp,_,_,by rw [List.map_append],c,d⟩
 | unit=>
  intro l r x h
  have h:some ((),l)=some (x,r):=by cases l<;>exact h
  obtain ⟨e1,e2⟩:=Prod.mk.inj (sI h)
  subst e1;subst e2
  exact ⟨[],rfl,rfl⟩
end
end Go.PE
namespace Go.PE
section
variable {P:Program} {tab:Tab} {N:NN} {w0:World} {F:FF} {S:Nat→Prop} {β:Lab→Value} {st:St} {a:Act} {w:World}
theorem Q44 (b:Qc P tab) (h:Rel P tab.ty N w0 F S β st a w) {o:Oper} {T:TypeId} {x:Operand} (ho:o.op=.makeInterface T x) {fs:List (TypeId × Nat)} (htd:tab.td T=some (.stc fs))
  {vs:List LV} (hsx:Qb st.slots x=.cv (.agg vs)) {t:Ty} (ht:tab.ty T=some t) {l:List AT} (hl:Q90 vs=some l) {y:t.den} (hd:Q4g t l=some (y,[])) :
  Qa P tab N w0 F S β st a w o (.cv (.one (.pure .ifc (IV.mk T l)))) []:=by
 obtain ⟨gs,hu,_⟩:=b.td T _ htd
 have hx:=Q4 h x
 rw [hsx] at hx
 obtain ⟨cs,d,c⟩:=hx
 have e:=Q9r hl c
 subst e
 refine Qa.plain h (x:=.iface T (.agg (l.map AT.val).toArray)) ?_ ⟨rfl,fun t' ht'=>?_⟩
 ·unfold execOp
  simp only [ho,d]
  simp [Instr.makeInterface,run_underlying hu]
 ·rw [ht] at ht'
  have:=sI ht'
  subst this
  exact ⟨y,hd⟩
theorem Qi0 (a:Qc P tab) {T:TypeId} {fs:List (TypeId × Nat)} (htd:tab.td T=some (.stc fs)) {t:Ty} (ht:tab.ty T=some t):t.isAgg=true:=by
 cases ha:t.isAgg with
 | true=>rfl
 | false=>
  obtain ⟨gs,hu,_⟩:=a.td T _ htd
  obtain ⟨d,hd,hn⟩:=(a.ty T t ht).one ha
  rw [hu] at hd
  have:=sI hd
  subst this
  cases hn
theorem IV.value_case (v:IV) (A:TypeId):(IV.is v A=true∧∃ cs,v=.mk A cs)∨(IV.is v A=false∧(v=.nil∨∃ B cs,v=.mk B cs∧B≠A)):=by
 cases v with
 | nil=>exact .inr ⟨rfl,.inl rfl⟩
 | mk T cs=>
  cases hb:Nat.beq T A with
  | true=>exact .inl ⟨hb,cs,by rw [Nat.eq_of_beq_eq_true hb]⟩
  | false=>exact .inr ⟨hb,.inr ⟨T,cs,rfl,Z1.1 hb⟩⟩
theorem Q5u (c:Qc P tab) (h:Rel P tab.ty N w0 F S β st a w) {o:Oper} {x:Operand} {X A:TypeId} (ho:o.op=.typeAssert x X A true) {fs:List (TypeId × Nat)} (htd:tab.td A=some (.stc fs))
  {v:IV} (hsx:Qb st.slots x=.cv (.one (.pure .ifc v))) {t:Ty} (ht:tab.ty A=some t) :
  Qa P tab N w0 F S β st a w o (.tup [.agg (lvs t (IV.val (bif IV.is v A then v else IV.nil) t)),.one (.pure .bool (IV.is v A))]) []:=by
 obtain ⟨gs,hu,_⟩:=c.td A _ htd
 have hx:=Q4 h x
 rw [hsx] at hx
 obtain ⟨hv,g⟩:=hx
 have hv:a.eval x=IV.value v:=List.singleton_inj.1 hv
 have ha:=Qi0 c htd ht
 obtain ⟨z,hz,k,j⟩:=Q4c (w:=w) (c.ty A t ht)
 obtain ⟨zc,rfl⟩:=j ha
 have d:∀ (b:Bool) (cs:List Value) (y:t.den),Rep tab.ty S w t y cs→Qf P tab.ty S β w (.tup [.agg (lvs t y),.one (.pure .bool b)]) (.tuple #[.agg cs.toArray,.bool b]):=by
  intro b cs y hr
  exact ⟨[.agg cs.toArray,.bool b],rfl,_,_,rfl,⟨cs,rfl,Q9u hr⟩,_,_,rfl,(rfl:[_]=[_]),rfl⟩
 rcases IV.value_case v A with ⟨hi,cs,rfl⟩ | ⟨hi,i⟩
 ·rw [hi]
  obtain ⟨y,hy⟩:=g t ht
  have e:IV.val (IV.mk A cs) t=y:=by simp [IV.val,hy]
  obtain ⟨l1,e1,hr⟩:=Q9o (S:=S) (w:=w) (τ:=tab.ty) hy
  rw [List.append_nil] at e1
  subst e1
  rw [cond_true,e]
  refine Qa.plain h (x:=.tuple #[.agg (cs.map AT.val).toArray,.bool true]) ?_ (d true _ y hr)
  unfold execOp
  simp only [ho,hv,IV.value]
  simp [Instr.typeAssert,run_underlying hu]
 ·rw [hi,cond_false]
  have hr:Rep tab.ty S w t (IV.val IV.nil t) zc.toList:=by
   have:=Q08 (S:=S) (w':=w) (τ:=tab.ty) t
   rw [← k] at this
   exact this
  refine Qa.plain h (x:=.tuple #[.agg zc.toList.toArray,.bool false]) ?_ (d false _ _ hr)
  unfold execOp
  rcases i with rfl | ⟨B,cs,rfl,f⟩
  ·simp only [ho,hv,IV.value]
   simp [Instr.typeAssert,run_underlying hu,hz]
  ·simp only [ho,hv,IV.value]
   simp [Instr.typeAssert,run_underlying hu,hz,f]
theorem Q7z (h:Rel P tab.ty N w0 F S β st a w) {o:Oper} {x:Operand} (ho:o.op=.move x∨o.op=.assign x):Qa P tab N w0 F S β st a w o (Qb st.slots x) []:=by
 refine Qa.plain h (x:=a.eval x) ?_ (Q4 h x)
 unfold execOp
 rcases ho with ho | ho<;>simp [ho]
theorem Q0v (h:Rel P tab.ty N w0 F S β st a w) {o:Oper} {x:Operand} (ho:o.op=.nilCheck x) {v:SV} (hv:Qb st.slots x=v)
  (hs:(∃ l off,v=.cv (.one (.ptr l off)))∨(∃ t y,v=.ep t y)∨(∃ l i off sz,v=.ap l i off sz)):Qa P tab N w0 F S β st a w o v []:=by
 have hx:=Q4 h x
 rw [hv] at hx
 have hp:∃ ad,a.eval x=.pointer (some ad):=by
  rcases hs with ⟨l,off,rfl⟩ | ⟨t,y,rfl⟩ | ⟨l,i,off,sz,rfl⟩
  ·obtain ⟨b,_,hb⟩:=hx;exact ⟨_,hb⟩
  ·obtain ⟨b,o',cs,hb,_⟩:=hx;exact ⟨_,hb⟩
  ·obtain ⟨b,_,hb⟩:=hx;exact ⟨_,hb⟩
 obtain ⟨ad,hp⟩:=hp
 refine Qa.plain h (x:=a.eval x) ?_ hx
 unfold execOp
 simp [ho,hp]
theorem Qe7 (h:Rel P tab.ty N w0 F S β st a w) {o:Oper} {x:Operand} {j:Nat} (ho:o.op=.extract x j) {cs:List CV} (hsx:Qb st.slots x=.tup cs) {c:CV} (hc:cs[j]?=some c) :
  Qa P tab N w0 F S β st a w o (.cv c) []:=by
 have hx:=Q4 h x
 rw [hsx] at hx
 obtain ⟨vs,hv,hr⟩:=hx
 have e:∀ (cs:List CV) (vs:List Value) (j:Nat),Zu P tab.ty S β w cs vs→cs[j]?=some c→∃ v,vs[j]?=some v∧Xm P tab.ty S β w c v:=by
  intro cs
  induction cs with
  | nil=>intro vs j hr hc;simp at hc
  | cons q r ih=>
   intro vs j hr hc
   obtain ⟨v,vr,rfl,h1,h2⟩:=hr
   cases j with
   | zero=>simp at hc;subst hc;exact ⟨v,rfl,h1⟩
   | succ j=>exact ih vr j h2 (by simpa using hc)
 obtain ⟨v,d,b⟩:=e cs vs j hr hc
 refine Qa.plain h (x:=v) ?_ b
 unfold execOp
 simp [ho,hv,Instr.extract,d]
theorem Qfh (f:Qc P tab) {kn:List (Nat × Bool)} (hk:Q4r kn a) (h:Rel P tab.ty N w0 F S β st a w) {o:Oper} {c:Bool} {v:SV} {u:Upd}
  (he:ev1 tab kn (Qb st.slots) (Q0 st.objs) (o.dst.getD 999999999) o.op o.type=some (c,v,u)) (hc:c=true):Qa P tab N w0 F S β st a w o v u:=by
 cases ho:o.op<;>rw [ho] at he<;>try (cases he;done)
 case move x=>cases he;exact Q7z h (.inl ho)
 case assign x=>cases he;exact Q7z h (.inr ho)
 case pick x y z=>exact Qdn hk h ho he
 case load T x=>exact Qdi f h ho he hc
 case store T x y=>exact Qcr f h ho he hc
 case nilCheck x=>
  simp only [ev1] at he
  split at he<;>first | (cases he;done) | skip
  ·rename_i l off hs;cases he;exact Q0v h ho hs (.inl ⟨_,_,rfl⟩)
  ·rename_i t y hs;cases he;exact Q0v h ho hs (.inr (.inl ⟨_,_,rfl⟩))
  ·rename_i l i off sz hs;cases he;exact Q0v h ho hs (.inr (.inr ⟨_,_,_,_,rfl⟩))
 case fieldAddr T x j=>exact Q6u f h ho he
 case field T x j=>exact Qca f h ho he
 case indexAddr T x ix=>exact Q6s f h ho he hc
 case index T x ix=>exact Qct f h ho he hc
 case extract x j=>
  simp only [ev1] at he
  split at he<;>first | (cases he;done) | skip
  ·rename_i cs hs
   simp only [Option.bind_eq_some_iff] at he
   obtain ⟨q,hq,he⟩:=he
   cases he
   exact Qe7 h ho hs hq
  ·rename_i l i sz hs
   have hx:=Q4 h x
   rw [hs] at hx
   obtain ⟨b,hb,hv⟩:=hx
   split at he
   ·cases he
    exact Qa.plain h (by unfold execOp;simp [ho,hv,Instr.extract]) ⟨b,hb,rfl⟩
   ·cases he
    exact Qa.plain h (x:=.nilIface) (by unfold execOp;simp [ho,hv,Instr.extract]) ⟨rfl,trivial⟩
   ·cases he
  ·rename_i iv hs
   have hx:=Q4 h x
   rw [hs] at hx
   obtain ⟨u,hv,C⟩:=hx
   split at he
   ·cases he
    exact Qa.plain h (x:=u) (by unfold execOp;simp [ho,hv,Instr.extract]) trivial
   ·cases he
    exact Qa.plain h (x:=IV.value iv) (by unfold execOp;simp [ho,hv,Instr.extract]) ⟨rfl,C⟩
   ·cases he
 case binOp bop T x y T'=>exact Qc8 f h ho he hc
 case unOp uop T x=>
  simp only [ev1,Option.bind_eq_some_iff] at he
  obtain ⟨l,hl,r,hr,he⟩:=he
  cases he
  exact Qcz h ho hl hr
 case convert s d x=>exact Q8u f h ho he
 case slice T x lo hi mx=>
  cases mx with
  | some m=>cases he
  | none=>
   simp only [ev1,Option.bind_eq_some_iff] at he
   obtain ⟨n,hn,l,hl,m,hm,he⟩:=he
   exact Qck f h ho hn hl hm he hc
 case alloc T=>
  simp only [ev1] at he
  split at he
  ·rename_i n eT htd
   simp only [Option.bind_eq_some_iff] at he
   obtain ⟨e,B,he⟩:=he
   cases hq:(Nat.ble (n*e.cells) 16777216&&Nat.beq e.cells 1&&e.flat) with
   | false=>rw [hq] at he;cases he
   | true=>
    rw [hq] at he
    cases he
    simp only [Bool.and_eq_true] at hq
    exact Q7q f h ho htd B (Nat.eq_of_beq_eq_true hq.1.2)
  ·simp only [Option.bind_eq_some_iff] at he
   obtain ⟨t,ht,he⟩:=he
   cases he
   exact Qbi f h ho ht
 case box T x=>
  simp only [ev1,Option.bind_eq_some_iff] at he
  obtain ⟨t,ht,he⟩:=he
  split at he<;>first | (cases he;done) | skip
  rename_i cc hs
  cases hq:Nat.beq (Xt cc).length t.cells with
  | false=>rw [hq] at he;cases he
  | true=>rw [hq] at he;cases he;exact Qfs h ho hs
 case build T parts=>
  simp only [ev1] at he
  split at he<;>first | (cases he;done) | skip
  rename_i fs htd
  simp only [Option.bind_eq_some_iff] at he
  obtain ⟨t,ht,vs,D,he⟩:=he
  cases he
  exact Qb5 f h ho htd ht D
 case buildSlice T n parts=>
  simp only [ev1] at he
  split at he<;>first | (cases he;done) | skip
  rename_i eT htd
  simp only [Option.bind_eq_some_iff] at he
  obtain ⟨e,ht,he⟩:=he
  cases hq:(Nat.beq parts.toList.length n&&Nat.ble (n*e.cells) 16777216) with
  | false=>rw [hq] at he;cases he
  | true=>
   rw [hq] at he
   simp only [Bool.and_eq_true] at hq
   cases hr:(Q9f (Qb st.slots) parts.toList&&Nat.beq e.cells 1) with
   | true=>
    rw [hr] at he
    simp only [cond_true,Option.bind_eq_some_iff] at he
    obtain ⟨xs,k,he⟩:=he
    cases he
    simp only [Bool.and_eq_true] at hr
    exact Qaq f h ho htd ht (Nat.eq_of_beq_eq_true hr.2) (Nat.eq_of_beq_eq_true hq.1) (Q2.1 hq.2) k
   | false=>
   rw [hr] at he
   simp only [cond_true,cond_false,Option.bind_eq_some_iff] at he
   obtain ⟨xs,k,he⟩:=he
   cases he
   exact Q5y f h ho htd ht (Nat.eq_of_beq_eq_true hq.1) (Q2.1 hq.2) k
 case makeSlice T x y=>
  simp only [ev1,Qgs] at he
  split at he<;>first | (cases he;done) | skip
  rename_i eT n c htd hx hy
  simp only [Option.bind_eq_some_iff] at he
  obtain ⟨e,ht,he⟩:=he
  cases hq:(Nat.beq n c&&Nat.ble (n*e.cells) 16777216) with
  | false=>rw [hq] at he;cases he
  | true=>
   rw [hq] at he
   simp only [cond_true,Option.some.injEq,Prod.mk.injEq] at he
   obtain ⟨rfl,rfl,rfl⟩:=he
   simp only [Bool.and_eq_true] at hq
   obtain rfl:=Nat.eq_of_beq_eq_true hq.1
   exact Q6r f h ho hx hy htd ht (Q2.1 hq.2)
 case makeInterface T x=>
  simp only [ev1] at he
  split at he<;>first | (cases he;done) | skip
  rename_i fs vs htd hs
  simp only [Option.bind_eq_some_iff] at he
  obtain ⟨t,ht,l,hl,⟨y,r⟩,hp,he⟩:=he
  cases r with
  | cons q r=>cases he
  | nil=>cases he;exact Q44 f h ho htd hs ht hl hp
 case typeAssert x X A ok=>
  cases ok with
  | false=>cases he
  | true=>
   simp only [ev1] at he
   split at he<;>first | (cases he;done) | skip
   rename_i fs v htd _ hs
   simp only [Option.bind_eq_some_iff] at he
   obtain ⟨t,ht,he⟩:=he
   cases he
   exact Q5u f h ho htd hs ht
 case call cl=>
  obtain ⟨callee,args,argTypes⟩:=cl
  cases callee<;>try (cases he;done)
  case builtin b=>
  cases b<;>try (cases he;done)
  case len=>
   simp only [ev1] at he
   split at he<;>first | (cases he;done) | skip
   rename_i x T ha ht
   simp only [Option.bind_eq_some_iff] at he
   obtain ⟨n,hn,he⟩:=he
   cases hq:Q7g tab T (Qb st.slots x) with
   | false=>rw [hq] at he;cases he
   | true=>rw [hq] at he;cases he;exact Qfe f h ho ha ht hn hq
  case max=>
   simp only [ev1] at he
   split at he<;>first | (cases he;done) | skip
   rename_i x y ha
   simp only [Option.bind_eq_some_iff] at he
   obtain ⟨l,hl,m,hm,p,hp,q,hq,he⟩:=he
   cases g:Nat.beq (Qq p.1) (Qq q.1) with
   | false=>rw [g] at he;cases he
   | true=>
    rw [g] at he;cases he
    have:=Q3l ha
    subst this
    exact Qfq h ho hl hm hp hq
  case min=>
   simp only [ev1] at he
   split at he<;>first | (cases he;done) | skip
   rename_i x y ha
   simp only [Option.bind_eq_some_iff] at he
   obtain ⟨l,hl,m,hm,p,hp,q,hq,he⟩:=he
   cases g:Nat.beq (Qq p.1) (Qq q.1) with
   | false=>rw [g] at he;cases he
   | true=>
    rw [g] at he;cases he
    have:=Q3l ha
    subst this
    exact Qfo h ho hl hm hp hq
end
end Go.PE
namespace Go.PE
section
variable {P:Program} {tab:Tab} {N:NN} {w0:World} {F:FF} {S:Nat→Prop} {β:Lab→Value} {st:St} {a:Act} {w:World}
def Xe (P:Program) (tab:Tab) (N:NN) (w0:World) (F:FF) (S:Nat→Prop) (β:Lab→Value) (st:St) (a:Act) (w:World) (o:Oper) (v:SV) (del:List Lab) (u:Upd):Prop:=
 ∀ (Q:Exit→Act→World→Prop) (K:Act→World→Prop),
  (∀ x w',(∀ st',Qs (delAll st del) (o.dst.getD 999999999) u=some st'→∃ S' β',(∀ k,S k→S' k)∧(∀ l:Lab,l.1≠o.dst.getD 999999999→β' l=β l) ∧
   Rel P tab.ty N w0 F S' β' st' a w'∧Qf P tab.ty S' β' w' v x)→K (a.put o.dst x) w')→o.wp P a w K Q
theorem Qa.toO {o:Oper} {v:SV} {u:Upd} (h:Qa P tab N w0 F S β st a w o v u):Xe P tab N w0 F S β st a w o v [] u:=by
 intro Q K hK
 obtain ⟨x,w',hr,b⟩:=h
 unfold Oper.wp
 rcases hr with hr | ⟨hr,rfl⟩
 ·rw [hr];exact hK x w' b
 ·rw [hr];exact hK undef w' b
theorem Qcs {S:Nat→Prop} {τ:TypeId→Option Ty} {e:Ty} {b:Nat}:∀ (xs:List e.den) (o:Nat),
  (∀ i,i<xs.length→∃ ce,ce.length=e.cells∧Ja w b (o+i*e.cells) ce∧Rep τ S w e (List.getD xs i e.dflt) ce) →
  ∃ news,Q1 τ S w e xs news∧∀ j u,news[j]?=some u→w.cell? ⟨b,o+j,none⟩=some u
 | [],o,_=>⟨[],rfl,fun j u h=>by simp at h⟩
 | x::r,o,h=>by
  obtain ⟨ce,hl,hc,hr⟩:=h 0 (Nat.succ_pos _)
  obtain ⟨news,h1,h2⟩:=Qcs r (o+e.cells) (fun i hi=>by
   obtain ⟨ce,hl,hc,hr⟩:=h (i+1) (Nat.succ_lt_succ hi)
   refine ⟨ce,hl,?_,hr⟩
   rw [show o+e.cells+i*e.cells=o+(i+1)*e.cells by rw [Nat.add_mul,Nat.one_mul];omega]
   exact hc)
  refine ⟨ce++news,⟨ce,news,rfl,hr,h1⟩,fun j u hu=>?_⟩
  by_cases hj:j<ce.length
  ·rw [List.getElem?_append_left hj] at hu
   have:=hc j hj
   rw [Nat.zero_mul,Nat.add_zero] at this
   rw [this,List.getD_eq_getElem?_getD,hu];rfl
  ·rw [List.getElem?_append_right (by omega),hl] at hu
   have:=h2 _ _ hu
   rw [show o+e.cells+(j - e.cells)=o+j by omega] at this
   exact this
theorem Q1.oneCell {τ:TypeId→Option Ty} {e:Ty}:∀ {xs:List e.den} {cs:List Value},Q1 τ S w e xs cs→∀ u∈cs,u.oneCell'=true
 | [],cs,h,u,hu=>by simp only [Q1] at h;subst h;cases hu
 | x::r,cs,h,u,hu=>by
  obtain ⟨c,cr,rfl,h1,h2⟩:=h
  rcases List.mem_append.1 hu with hu | hu
  ·exact h1.oneCell u hu
  ·exact Q1.oneCell h2 u hu
def Qgx (P:Program) (tab:Tab) (S:Nat→Prop) (w:World) (e:Ty) (ys:List e.den) (v:Value):Prop:=
 ∃ A c news,v=.slice A ys.length c∧(A=none→ys.length=0)∧(∀ ad,A=some ad→∀ j u,news[j]?=some u→w.cell? (ad.add j)=some u)∧Q1 tab.ty S w e ys news
theorem Qgd {eT:TypeId} {e:Ty} {ys:List e.den} {v:Value} (h:Rep tab.ty S w (.sl eT e) ys [v]):Qgx P tab S w e ys v:=by
 obtain ⟨A,c,hv,g,hm,f⟩:=h
 have hv:=List.singleton_inj.1 hv
 cases ys with
 | nil=>exact ⟨A,c,[],hv,fun _=>rfl,fun _ _ j u h=>by simp at h,rfl⟩
 | cons y r=>
  obtain ⟨b,o,rfl,_,_,d⟩:=f (Nat.succ_pos _)
  obtain ⟨news,h1,h2⟩:=Qcs (y::r) o d
  refine ⟨_,c,news,hv,(fun h=>by cases h),fun ad a j u hu=>?_,h1⟩
  have:=sI a
  subst this
  rw [Zo]
  exact h2 j u hu
theorem Qhs {eT:TypeId} {e:Ty} {ys:List e.den} {v:Value} (h:Z7 P tab.ty S β w (.row eT e ys) v):Qgx P tab S w e ys v:=by
 obtain ⟨hp,cells,a,d⟩:=h
 rcases a.2 with ⟨h1,h0⟩ | ⟨g,cap,f,b,_,_⟩
 ·have hx:ys=[]:=List.eq_nil_of_length_eq_zero h0
  subst hx
  exact ⟨none,0,[],by rw [h1];rfl,fun _=>rfl,fun _ _ j u h=>by simp at h,rfl⟩
 ·refine ⟨_,cap,cells,b,(fun h=>by cases h),fun ad c j u hu=>?_,d⟩
  have:=sI c
  subst this
  exact a.cells (g:=g) (by rw [b];rfl) j u hu
theorem Qg7 (h:Rel P tab.ty N w0 F S β st a w) {eT:TypeId} {e:Ty} {lv:LV} {ys:List e.den} {v:Value} (hd:Jp (Q0 st.objs) (.sl eT e) lv=some ys) (hv:Qm P tab.ty S β w lv v):Qgx P tab S w e ys v:=by
 cases lv with
 | pure t y=>
  exact Qgd (Xz hd hv)
 | nil=>
  have hv:v=.slice none 0 0:=hv
  have hx:([]:List e.den)=ys:=sI hd
  subst hx
  exact ⟨none,0,[],hv,fun _=>rfl,fun _ _ j u h=>by simp at h,rfl⟩
 | lit b=>obtain ⟨e',_⟩:=Z0 (t:=.bool) (t':=.sl eT e) (x:=b) (y:=ys) hd;cases e'
 | ref l=>
  simp only [Jp] at hd
  split at hd
  case h_3=>cases hd
  case h_2 eT' e' xs ho=>
   obtain ⟨e1,e2⟩:=Z0 hd
   injection e1 with e3 e4
   subst e3;subst e4
   have e2:xs=ys:=e2
   subst e2
   obtain ⟨g,T',cs,fr,c,hh,_,i⟩:=h.objs l _ ho
   rcases c with c | ⟨cap,c,_⟩
   ·obtain ⟨h1,A0,n0,c0,h2⟩:=hv
    rw [c,h2] at h1;cases h1
   ·refine ⟨_,cap,_,hv.1.symm.trans c,(fun h=>by cases h),fun ad d j u hu=>?_,i⟩
    have:=sI d
    subst this
    rw [Zo,Nat.zero_add,cell_of_row w g _ cs T' fr hh]
    rw [List.getElem?_take] at hu
    split at hu
    ·simpa using hu
    ·cases hu
  case h_1 eT' e' xs ho=>
  obtain ⟨e1,e2⟩:=Z0 hd
  injection e1 with e3 e4
  subst e3;subst e4
  have e2:xs=ys:=e2
  subst e2
  have:=Qhs (h.objs l _ ho)
  rw [hv.1] at this
  exact this
 | ptr l off=>cases hd
 | gfn f=>cases hd
 | clo ps rs g=>cases hd
 | nb ne=>cases hd
theorem Q0n {t t' ty e e':TypeId} {i:TypeInfo} (ht:P.underlying t=some (.slice e)) (ht':P.underlying t'=some (.slice e')) (hi:P.info? e=some i) (A:Option Addr) (n c:Nat) (v:Value) :
  (Builtin.append_ #[t,t'] ty #[.slice A n c,v]).run P w=(Builtin.append_ #[t,t] ty #[.slice A n c,v]).run P w:=by
 simp [Builtin.append_,run_underlying ht,run_underlying ht',sizeOf,typeInfo,hi]
theorem Q5n (base:Nat) (t ty e:TypeId) (i:TypeInfo) (size:Nat) (ht:P.underlying t=some (.slice e)) (hi:P.info? e=some i)
  (v:Value) (n:Nat) (xs:List Value) (a:w.ownsRow base e size v n xs) (c:Nat) :
  (Builtin.append_ #[t,t] ty #[v,.slice none 0 c]).run P w=.ok v w:=by
 rcases a.2 with ⟨rfl,rfl⟩ | ⟨g,cap,d,rfl,_,_,b,_⟩
 ·simp [Builtin.append_,run_underlying ht,sizeOf,typeInfo,hi,Builtin.lenOf,Builtin.firstCells]
 ·simp [Builtin.append_,run_underlying ht,sizeOf,typeInfo,hi,Builtin.lenOf,Builtin.firstCells,b,storeCells]
theorem Qey (v:Value) (h:∃ A n c,v=.slice A n c):blk v=v.ownBlock:=by
 obtain ⟨A,n,c,rfl⟩:=h
 cases A<;>rfl
def Q3f (w:World) (eT:TypeId) (size:Nat) (v:Value) (n:Nat) (cells:List Value) (v':Value) (w':World):Prop:=
 w'.ownsRow 0 eT size v' n cells∧Fr (fun k=>blk v=some k) w w'∧(∀ b,blk v'=some b→(blk v=some b∨w.heap.size≤b)∧b<w'.heap.size)
theorem Zy {eT:TypeId} {size n:Nat} {v:Value} {cells:List Value} (h:w.ownsRow 0 eT size v n cells):∃ A n c,v=.slice A n c:=by
 rcases h.2 with ⟨rfl,_⟩ | ⟨g,cap,a,rfl,_⟩
 ·exact ⟨_,_,_,rfl⟩
 ·exact ⟨_,_,_,rfl⟩
theorem Q33 {w':World} {eT:TypeId} {size n n':Nat} {v v':Value} {cells xs:List Value} (a:w.ownsRow 0 eT size v n' xs) (h1:w'.ownsRow 0 eT size v' n cells) (h2:w.grownBy w' v.ownBlock)
  (h3:∀ b,blk v'=some b→blk v=some b∨w.heap.size≤b):Q3f w eT size v n cells v' w':=by
 refine ⟨h1,?_,fun b hb=>⟨h3 b hb,?_⟩⟩
 ·have:=Fr.grown h2
  rw [← Qey v (Zy a)] at this
  exact this.mono (fun k hk=>hk.symm)
 ·rw [Qey v' (Zy h1)] at hb
  exact (h1.lt b hb).2
theorem Q2c {T ty eT:TypeId} {t:Ty} (y:Qc P tab) (hu:P.underlying T=some (.slice eT)) (hT:Q5v P eT t) (o:0<t.cells) {v:Value} {n:Nat} {xs:List Value} (a:w.ownsRow 0 eT t.cells v n xs)
  {A:Option Addr} {m c:Nat} {news:List Value} (hA:A=none→m=0) (hl:news.length=m*t.cells) (d:∀ ad,A=some ad→∀ j u,news[j]?=some u→w.cell? (ad.add j)=some u) (h1:∀ u∈news,u.oneCell'=true)
  (l:n+m≤1073741824):∃ v' w',(Builtin.append_ #[T,T] ty #[v,.slice A m c]).run P w=.ok v' w'∧Q3f w eT t.cells v (n+m) (xs++news) v' w':=by
 obtain ⟨i,z,hi,e,hz,s,_,p⟩:=hT.info
 cases A with
 | none=>
  have hm:=hA rfl
  subst hm
  have hn:news=[]:=List.eq_nil_of_length_eq_zero (by rw [hl,Nat.zero_mul])
  subst hn
  refine ⟨v,w,Q5n 0 T ty eT i _ hu hi v n xs a c,Q33 a (by rw [List.append_nil];exact a) ⟨rfl,rfl,rfl,Nat.le_refl _,fun _ _ _=>rfl⟩ (fun b hb=>.inl hb)⟩
 | some ad=>
  have x:z.cells.size=t.cells:=by
   have:=(Q08 (S:=fun _=>False) (w':=w) (τ:=tab.ty) t).length
   rw [← s] at this
   simpa using this
  have h:(n+m)*i.bytes≤140737488355328:=Nat.le_trans (Nat.mul_le_mul l p) (by decide)
  have f:n+m≤maxLen:=by simp [maxLen];omega
  obtain ⟨v',w',hr,h2,h3,h4⟩:=run_append_own (P:=P) w 0 T ty eT i z t.cells i.bytes hu hi hz e rfl x o v n xs a ad m c news hl (d ad rfl) h1 f h (Nat.zero_le _)
  refine ⟨v',w',hr,Q33 a h2 h3 (fun b hb=>?_)⟩
  rcases a.2 with ⟨rfl,rfl⟩ | ⟨g,cap,B,rfl,_,hg,E,C,D,r⟩
  ·by_cases hm:m=0
   ·have:=h4.2 ⟨rfl,hm⟩
    subst this
    cases hb
   ·rw [Nat.zero_add] at f h
    rw [run_append_nil (P:=P) w T ty eT i z hu hi hz ad m c news (by rw [e];exact hl) (d ad rfl) (by omega) (by simp only [maxLen] at f;omega) (by omega)] at hr
    injection hr with e1 _
    subst e1
    simp only [blk,Option.some.injEq] at hb
    exact .inr (by omega)
  ·by_cases k:n+m≤cap
   ·obtain ⟨F,q,_⟩:=run_append_fits (P:=P) w 0 T ty eT i t.cells hu hi e g n cap xs a ad m c news hl (d ad rfl) h1 k
    rw [q] at hr
    injection hr with e1 _
    subst e1
    exact .inl hb
   ·rw [run_append_grow (P:=P) w T ty eT i z hu hi hz ⟨g,0,none⟩ n cap xs (by rw [e];exact a.1) (a.cells (g:=g) rfl) ad m c news (by rw [e];exact hl) (d ad rfl) (by omega) (by simp only [maxLen] at f;omega) (growslice_fits (by omega) h)] at hr
    injection hr with e1 _
    subst e1
    simp only [blk,Option.some.injEq] at hb
    exact .inr (by omega)
theorem Q8t {T T' ty eT:TypeId} (h:Qc P tab) (hu:P.underlying T=some (.slice eT)) (c:P.underlying T'=some .string) (hT:tab.ty eT=some (.int .u8)) {v:Value} {n:Nat} {xs:List Value} (a:w.ownsRow 0 eT 1 v n xs)
  {s:ByteArray} (o:n+s.size≤1073741824):∃ v' w',(Builtin.append_ #[T,T'] ty #[v,.string s]).run P w=.ok v' w'∧Q3f w eT 1 v (n+s.size) (xs++Lib.strCells s) v' w':=by
 obtain ⟨i,hi,f,d,hz⟩:=h.u8 eT hT
 have k:n+s.size≤maxLen:=by simp [maxLen];omega
 obtain ⟨v',w',hr,h2,h3,h4⟩:=Lib.run_append_own_string (P:=P) w 0 T T' ty eT i hu c hi hz f d v n xs a s k (by omega) (Nat.zero_le _)
 refine ⟨v',w',hr,Q33 a h2 h3 (fun b hb=>?_)⟩
 rcases a.2 with ⟨rfl,rfl⟩ | ⟨g,cap,j,rfl,_,hg,q,p,l,m⟩
 ·by_cases hm:s.size=0
  ·have:=h4.2 ⟨rfl,hm⟩
   subst this
   cases hb
  ·rw [run_append_nil_string (P:=P) w T T' ty eT i (.int .u8 0) hu c hi hz s (by omega) (by omega) (by rw [d];omega)] at hr
   injection hr with e1 _
   subst e1
   simp only [blk,Option.some.injEq] at hb
   exact .inr (by omega)
 ·by_cases e:n+s.size≤cap
  ·rw [Lib.run_append_room_string (P:=P) w T T' ty eT i hu c hi f g n cap j hg s e (by rw [l];omega)] at hr
   injection hr with e1 _
   subst e1
   exact .inl hb
  ·rw [Lib.run_append_grow_string (P:=P) w T T' ty eT i (.int .u8 0) hu c hi hz ⟨g,0,none⟩ n cap xs (by rw [f];exact a.1) (a.cells (g:=g) rfl) s (by omega) (by omega) (by rw [d];exact growslice_fits (by omega) (by omega))] at hr
   injection hr with e1 _
   subst e1
   simp only [blk,Option.some.injEq] at hb
   exact .inr (by omega)
end
end Go.PE
namespace Go.PE
theorem Q0o:∀ (D:List Lab) (st:St),(delAll st D).slots=st.slots
 | [],st=>rfl
 | l::r,st=>by simp only [delAll];rw [Q0o r]
theorem Zq:∀ (D:List Lab) (st:St) (m:Lab),Q0 (delAll st D).objs m=if m∈D then none else Q0 st.objs m
 | [],st,m=>by simp [delAll]
 | l::r,st,m=>by
  simp only [delAll]
  rw [Zq r]
  simp only [Zw,List.mem_cons]
  by_cases h1:m∈r
  ·simp [h1]
  ·by_cases h2:l=m
   ·simp [h2]
   ·have h3:m≠l:=fun e=>h2 e.symm
    simp [h1,h2,h3]
theorem Q66:∀ (u:Upd) (o:List (Lab × Ob)) (m:Lab),Zt (u.map (·.1))=true→(∀ p∈u,∃ ob,Q0 o p.1=some ob) →
  Q0 (Q2n o u) m=match Q0 u m with | some ob=>some ob | none=>Q0 o m
 | [],o,m,_,_=>rfl
 | (l,x)::r,o,m,hd,he=>by
  simp only [List.map_cons,Zt,Bool.and_eq_true,Bool.not_eq_true',Zx] at hd
  simp only [Q2n]
  obtain ⟨ob0,h0⟩:=he (l,x) (List.mem_cons_self ..)
  have a:∀ (r:Upd),l ∉ r.map (·.1)→Q0 r l=none:=by
   intro r
   induction r with
   | nil=>intro _;rfl
   | cons p q ih=>
    obtain ⟨k,y⟩:=p
    intro hk
    simp only [List.map_cons,List.mem_cons,not_or] at hk
    rw [Q3,if_neg (fun e=>hk.1 e.symm)]
    exact ih hk.2
  rw [Q66 r (Q46 o l x) m hd.2 (fun p hp=>by
   obtain ⟨ob,ho⟩:=he p (List.mem_cons_of_mem _ hp)
   rw [Jf]
   split
   ·exact ⟨x,by rw [h0];rfl⟩
   ·exact ⟨ob,ho⟩)]
  rw [Q3]
  by_cases e:l=m
  ·subst e
   rw [a r hd.1,if_pos rfl]
   simp only [Jf,h0]
   simp
  ·rw [if_neg e]
   simp only [Jf,if_neg e]
theorem Q39 (a b:List (Lab × Ob)) (m:Lab):Q0 (a++b) m=match Q0 a m with | some ob=>some ob | none=>Q0 b m:=by
 induction a with
 | nil=>rfl
 | cons p r ih=>
  obtain ⟨l,x⟩:=p
  rw [List.cons_append,Q3,Q3,ih]
  split<;>rfl
theorem Jh (f:Lab→Bool) (u:Upd) (m:Lab):Q0 (u.filter fun p=>f p.1) m=if f m then Q0 u m else none:=by
 induction u with
 | nil=>simp [Q0]
 | cons p r ih=>
  obtain ⟨l,x⟩:=p
  rw [List.filter_cons,Q3]
  cases hf:f l with
  | true=>
   simp only [if_true]
   rw [Q3,ih]
   by_cases e:l=m
   ·subst e;simp [hf]
   ·simp [e]
  | false=>
   simp only [Bool.false_eq_true,if_false]
   rw [ih]
   by_cases e:l=m
   ·subst e;simp [hf]
   ·simp [e]
theorem Q2s (f:Lab→Bool):∀ (u:Upd),Zt (u.map (·.1))=true→Zt ((u.filter fun p=>f p.1).map (·.1))=true
 | [],_=>rfl
 | (l,x)::r,h=>by
  simp only [List.map_cons,Zt,Bool.and_eq_true,Bool.not_eq_true',Zx] at h
  rw [List.filter_cons]
  split
  ·simp only [List.map_cons,Zt,Bool.and_eq_true,Bool.not_eq_true',Zx]
   refine ⟨fun hm=>h.1 ?_,Q2s f r h.2⟩
   obtain ⟨p,hp,he⟩:=List.mem_map.1 hm
   exact List.mem_map.2 ⟨p,(List.mem_filter.1 hp).1,he⟩
  ·exact Q2s f r h.2
theorem Zn {o:List (Lab × Ob)} {l:Lab} {b:Ob} (h:Q0 o l=some b):(l,b)∈o:=by
 induction o with
 | nil=>simp [Q0] at h
 | cons p r ih=>
  obtain ⟨m,x⟩:=p
  rw [Q3] at h
  split at h
  ·rename_i e
   have:=sI h
   subst this;subst e
   exact List.mem_cons_self ..
  ·exact List.mem_cons_of_mem _ (ih h)
theorem Q7n {u:Upd} (hd:Zt (u.map (·.1))=true) {l:Lab} {b:Ob} (h:(l,b)∈u):Q0 u l=some b:=by
 induction u with
 | nil=>cases h
 | cons p r ih=>
  obtain ⟨m,x⟩:=p
  simp only [List.map_cons,Zt,Bool.and_eq_true,Bool.not_eq_true',Zx] at hd
  rw [Q3]
  rcases List.mem_cons.1 h with e | h
  ·injection e with e1 e2;subst e1;subst e2;rw [if_pos rfl]
  ·have:m≠l:=fun e=>hd.1 (by rw [e];exact List.mem_map.2 ⟨(l,b),h,rfl⟩)
   rw [if_neg this]
   exact ih hd.2 h
structure Qjg (st:St) (d:Nat) (u:Upd) (st':St):Prop where
 nodup:Zt (u.map (·.1))=true
 slots:st'.slots=st.slots
 get:∀ m,Q0 st'.objs m=match Q0 u m with | some ob=>some ob | none=>Q0 st.objs m
 mods:∀ l ob,Q0 u l=some ob→l.1≠d→∃ ob0,Q0 st.objs l=some ob0
 news:∀ l ob,Q0 u l=some ob→l.1=d→X2 (delAll st ((Zh d u).map (·.1))) l=true
theorem Jj {st:St} {d:Nat} {u:Upd} {st':St} (h:Qs st d u=some st'):Qjg st d u st':=by
 unfold Qs at h
 cases hc:(Zt (u.map (·.1))&&(Zh d u).all (fun p=>has st.objs p.1)&&(Xl d u).all (fun p=>X2 (delAll st ((Zh d u).map (·.1))) p.1)) with
 | false=>rw [hc] at h;cases h
 | true=>
  rw [hc] at h
  simp only [cond_true] at h
  have h:=sI h
  subst h
  simp only [Bool.and_eq_true,List.all_eq_true] at hc
  obtain ⟨⟨h1,h2⟩,h3⟩:=hc
  have hm:∀ p∈Zh d u,∃ ob,Q0 st.objs p.1=some ob:=fun p hp=>by
   have:=h2 p hp
   unfold has at this
   split at this
   ·rename_i ob ho;exact ⟨ob,ho⟩
   ·cases this
  have a:=Q2s (fun l=>!(Nat.beq l.1 d)) u h1
  refine ⟨h1,rfl,fun m=>?_,fun l ob hl hd=>?_,fun l ob hl hd=>?_⟩
  ·show Q0 (Xl d u++Q2n st.objs (Zh d u)) m=_
   rw [Q39,Q66 (Zh d u) st.objs m a hm]
   have e1:Q0 (Xl d u) m=if Nat.beq m.1 d then Q0 u m else none:=Jh (fun l=>Nat.beq l.1 d) u m
   have e2:Q0 (Zh d u) m=if !(Nat.beq m.1 d) then Q0 u m else none:=Jh (fun l=>!(Nat.beq l.1 d)) u m
   rw [e1,e2]
   cases Nat.beq m.1 d<;>cases Q0 u m<;>simp
  ·have:=Zn hl
   exact hm (l,ob) (List.mem_filter.2 ⟨this,by simp [Z1.2 hd]⟩)
  ·have:=Zn hl
   exact h3 (l,ob) (List.mem_filter.2 ⟨this,by simp [Z6.2 hd]⟩)
section
variable {P:Program} {tab:Tab} {N:NN} {w0:World} {F:FF} {S:Nat→Prop} {β:Lab→Value} {st:St} {a:Act} {w:World}
def Q0b (st:St) (β:Lab→Value) (D:List Lab) (k:Nat):Prop:=∃ l∈D,∃ ob,Q0 st.objs l=some ob∧blk (β l)=some k
theorem Rel.away {τ:TypeId→Option Ty} (h:Rel P τ N w0 F S β st a w) {D:List Lab} {w':World} {X:Nat→Prop} {S':Nat→Prop} (hf:Fr X w w') (hX:∀ k,k<w.heap.size→X k→Q0b st β D k)
  (hS:∀ k,S k→S' k) (hn:∀ k,S' k→S k∨w.heap.size≤k∨Q0b st β D k) (hb:∀ k,S' k→k<w'.heap.size):Rel P τ N w0 F S' β (PE.delAll st D) a w':=by
 have n:∀ k,S k→k<w.heap.size→w'.heap[k]?=w.heap[k]?:=fun k hs p=>hf.block p (fun hx=>by
  obtain ⟨l,_,ob,ho,c⟩:=hX k p hx
  exact (h.excl l ob ho k c).1 hs)
 have o:=Zq D st
 have g:∀ m ob,Q0 (PE.delAll st D).objs m=some ob→m ∉ D∧Q0 st.objs m=some ob:=fun m ob hm=>by
  rw [o] at hm
  split at hm
  ·cases hm
  ·rename_i hd;exact ⟨hd,hm⟩
 refine ⟨hb,fun t=>?_,fun m ob hm=>?_,fun m ob hm b c=>?_,fun m m' ob d hm q r=>?_,h.fr.trans' hf (fun i hi hx=>?_),h.size,h.nodef,fun k hk=>?_,h.par⟩
 ·rw [Q0o];exact (h.slots t).frame hS hf.size n h.sb (fun _ _=>rfl)
 ·obtain ⟨hd,ho⟩:=g m ob hm
  refine (h.objs m ob ho).frame hS hf.size n h.sb (fun _ _=>rfl) (fun b c=>hf.block (h.excl m ob ho b c).2.2 (fun hx=>?_))
  obtain ⟨l,hl,d,j,f⟩:=hX b (h.excl m ob ho b c).2.2 hx
  exact h.dist m l ob d ho j (fun e=>hd (e▸hl)) b c f
 ·obtain ⟨hd,ho⟩:=g m ob hm
  obtain ⟨h1,h2,h3⟩:=h.excl m ob ho b c
  refine ⟨fun hs=>?_,h2,Nat.lt_of_lt_of_le h3 hf.size⟩
  rcases hn b hs with hs | hs | ⟨l,hl,d,j,f⟩
  ·exact h1 hs
  ·omega
  ·exact h.dist m l ob d ho j (fun e=>hd (e▸hl)) b c f
 ·exact h.dist m m' ob d (g m ob hm).2 (g m' d q).2 r
 ·obtain ⟨l,_,ob,ho,c⟩:=hX i (Nat.lt_of_lt_of_le hi h.fr.size) hx
  rcases (h.excl l ob ho i c).2.1 with h1 | h1
  ·omega
  ·exact h1
 ·rcases hn k hk with hs | hs | ⟨l,_,ob,ho,c⟩
  ·exact h.within k hs
  ·exact .inr (.inl (Nat.le_trans h.fr.size hs))
  ·exact .inr (h.excl l ob ho k c).2.1
theorem Rel.reβ {τ:TypeId→Option Ty} (h:Rel P τ N w0 F S β st a w) {β':Lab→Value} (hs:∀ t,∀ l∈Qe (Q9 st.slots t),β' l=β l)
  (ho:∀ m ob,Q0 st.objs m=some ob→β' m=β m∧∀ l∈Qz ob,β' l=β l):Rel P τ N w0 F S β' st a w:=
 ⟨h.sb,fun t=>(h.slots t).frame (fun _ x=>x) (Nat.le_refl _) (fun _ _ _=>rfl) h.sb (hs t),
  fun m ob hm=>by
   rw [(ho m ob hm).1]
   exact (h.objs m ob hm).frame (fun _ x=>x) (Nat.le_refl _) (fun _ _ _=>rfl) h.sb (ho m ob hm).2 (fun _ _=>rfl),
  fun m ob hm b hb=>h.excl m ob hm b (by rw [← (ho m ob hm).1];exact hb),
  fun m m' ob d hm c e b hb=>by rw [(ho m' d c).1];exact h.dist m m' ob d hm c e b (by rw [← (ho m ob hm).1];exact hb),
  h.fr,h.size,h.nodef,h.within,h.par⟩
theorem Rel.same {τ:TypeId→Option Ty} (h:Rel P τ N w0 F S β st a w) {st':St} (hs:∀ t,Q9 st'.slots t=Q9 st.slots t) (ho:∀ m,Q0 st'.objs m=Q0 st.objs m):Rel P τ N w0 F S β st' a w:=
 h.weaken (fun t=>.inr (hs t)) (fun l ob hl=>by rw [← ho];exact hl)
theorem Rel.add1 {τ:TypeId→Option Ty} (h:Rel P τ N w0 F S β st a w) {l:Lab} {ob:Ob} {objs':List (Lab × Ob)} (hob:Z7 P τ S β w ob (β l))
  (hb:∀ b,blk (β l)=some b→¬ S b∧(w0.heap.size≤b∨F.1 b)∧b<w.heap.size∧∀ m c,m≠l→Q0 st.objs m=some c→blk (β m)≠some b)
  (o:∀ m,Q0 objs' m=if l=m then some ob else Q0 st.objs m):Rel P τ N w0 F S β { st with objs:=objs' } a w:=by
 have g:∀ m c,Q0 objs' m=some c→(l=m∧ob=c)∨(l≠m∧Q0 st.objs m=some c):=fun m c hm=>by
  rw [o] at hm
  split at hm
  ·rename_i e;exact .inl ⟨e,sI hm⟩
  ·rename_i e;exact .inr ⟨e,hm⟩
 refine ⟨h.sb,h.slots,fun m c hm=>?_,fun m c hm b d=>?_,fun m m' n j hm p i b d f=>?_,h.fr,h.size,h.nodef,h.within,h.par⟩
 ·rcases g m c hm with ⟨rfl,rfl⟩ | ⟨_,ho⟩
  ·exact hob
  ·exact h.objs m c ho
 ·rcases g m c hm with ⟨rfl,rfl⟩ | ⟨_,ho⟩
  ·obtain ⟨h1,h2,h3,_⟩:=hb b d;exact ⟨h1,h2,h3⟩
  ·exact h.excl m c ho b d
 ·rcases g m n hm with ⟨rfl,rfl⟩ | ⟨_,ho⟩
  ·rcases g m' j p with ⟨rfl,rfl⟩ | ⟨_,k⟩
   ·exact i rfl
   ·exact (hb b d).2.2.2 m' j (fun e=>i e.symm) k f
  ·rcases g m' j p with ⟨rfl,rfl⟩ | ⟨_,k⟩
   ·exact (hb b f).2.2.2 m n i ho d
   ·exact h.dist m m' n j ho k i b d f
theorem Rel.addAll {τ:TypeId→Option Ty}:∀ (u:Upd) {st:St} {objs':List (Lab × Ob)},Rel P τ N w0 F S β st a w→Zt (u.map (·.1))=true →
  (∀ l ob,Q0 u l=some ob→Z7 P τ S β w ob (β l)∧∀ b,blk (β l)=some b→¬ S b∧(w0.heap.size≤b∨F.1 b)∧b<w.heap.size ∧
   (∀ m c,Q0 u m=none→Q0 st.objs m=some c→blk (β m)≠some b)∧(∀ m c,m≠l→Q0 u m=some c→blk (β m)≠some b)) →
  (∀ l ob,Q0 u l=some ob→Q0 st.objs l=none) →
  (∀ m,Q0 objs' m=match Q0 u m with | some ob=>some ob | none=>Q0 st.objs m)→Rel P τ N w0 F S β { st with objs:=objs' } a w
 | [],st,objs',h,_,_,_,d=>h.same (fun _=>rfl) d
 | (l,x)::r,st,objs',h,hd,hob,f,d=>by
  simp only [List.map_cons,Zt,Bool.and_eq_true,Bool.not_eq_true',Zx] at hd
  have n:Q0 r l=none:=by
   cases hr:Q0 r l with
   | none=>rfl
   | some b=>exact absurd (List.mem_map.2 ⟨(l,b),Zn hr,rfl⟩) hd.1
  have hl:=hob l x (by rw [Q3,if_pos rfl])
  have up:∀ m ob,Q0 r m=some ob→l≠m∧Q0 ((l,x)::r) m=some ob:=fun m ob hm=>by
   have:l≠m:=fun e=>by rw [← e,n] at hm;cases hm
   exact ⟨this,by rw [Q3,if_neg this];exact hm⟩
  have h1:Rel P τ N w0 F S β { st with objs:=(l,x)::st.objs } a w:=by
   refine h.add1 hl.1 (fun b hb=>?_) (fun m=>by rw [Q3])
   obtain ⟨g1,g2,g3,g4,g5⟩:=hl.2 b hb
   refine ⟨g1,g2,g3,fun m c hm ho=>?_⟩
   cases hr:Q0 r m with
   | none=>exact g4 m c (by rw [Q3,if_neg (fun e=>hm e.symm)];exact hr) ho
   | some o=>have:=f m o (up m o hr).2;rw [this] at ho;cases ho
  refine (Rel.addAll r (st:={ st with objs:=(l,x)::st.objs }) (objs':=objs') h1 hd.2 (fun m ob hm=>?_) (fun m ob hm=>?_) (fun m=>?_))
  ·obtain ⟨j,i⟩:=up m ob hm
   obtain ⟨g0,g⟩:=hob m ob i
   refine ⟨g0,fun b hb=>?_⟩
   obtain ⟨g1,g2,g3,g4,g5⟩:=g b hb
   refine ⟨g1,g2,g3,fun k c hk ho=>?_,fun k c hk p=>g5 k c hk (up k c p).2⟩
   rw [Q3] at ho
   split at ho
   ·rename_i e;subst e
    exact g5 _ x j (by rw [Q3,if_pos rfl])
   ·rename_i e;exact g4 k c (by rw [Q3,if_neg e];exact hk) ho
  ·obtain ⟨j,i⟩:=up m ob hm
   rw [Q3,if_neg j]
   exact f m ob i
  ·rw [d m,Q3]
   show _=match Q0 r m with | some ob=>some ob | none=>Q0 ((l,x)::st.objs) m
   rw [Q3]
   by_cases e:l=m
   ·subst e;rw [if_pos rfl,n,if_pos rfl]
   ·rw [if_neg e,if_neg e]
def Jl (β:Lab→Value) (d:Nat) (u:Upd) (val:Lab→Value):Lab→Value:=fun l=>match Q0 (Xl d u) l with | some _=>val l | none=>β l
theorem Rel.upd {τ:TypeId→Option Ty} (h:Rel P τ N w0 F S β st a w) {del:List Lab} {d:Nat} {u:Upd} {st':St} (G:Qs (PE.delAll st del) d u=some st') {w':World} {X:Nat→Prop} {S':Nat→Prop} (hf:Fr X w w')
  (hX:∀ k,k<w.heap.size→X k→Q0b st β (del++(Zh d u).map (·.1)) k) (hS:∀ k,S k→S' k) (hn:∀ k,S' k→S k∨w.heap.size≤k∨Q0b st β (del++(Zh d u).map (·.1)) k) (hb:∀ k,S' k→k<w'.heap.size)
  (val:Lab→Value) (hob:∀ l ob,Q0 u l=some ob→Z7 P τ S' (Jl β d u val) w' ob (Jl β d u val l)∧∀ b,blk (Jl β d u val l)=some b →
   ¬ S' b∧(w.heap.size≤b∨Q0b st β (del++(Zh d u).map (·.1)) b)∧b<w'.heap.size∧∀ m f,m≠l→Q0 u m=some f→blk (Jl β d u val m)≠some b) :
  Rel P τ N w0 F S' (Jl β d u val) st' a w':=by
 have hu:=Jj G
 have h1:=h.away (D:=del++(Zh d u).map (·.1)) hf hX hS hn hb
 have c:∀ l ob,Q0 (Xl d u) l=some ob→X2 (PE.delAll (PE.delAll st del) ((Zh d u).map (·.1))) l=true:=fun l ob hl=>by
  have e1:Q0 (Xl d u) l=if Nat.beq l.1 d then Q0 u l else none:=Jh (fun l=>Nat.beq l.1 d) u l
  rw [e1] at hl
  split at hl
  ·rename_i hd;exact hu.news l ob hl (Z6.1 hd)
  ·cases hl
 have y:∀ (A B:List Lab) (s:St),PE.delAll s (A++B)=PE.delAll (PE.delAll s A) B:=by
  intro A
  induction A with
  | nil=>intro B s;rfl
  | cons x r ih=>intro B s;exact ih B _
 have h2:Rel P τ N w0 F S' (Jl β d u val) (PE.delAll st (del++(Zh d u).map (·.1))) a w':=by
  rw [y] at h1 ⊢
  refine h1.reβ (fun t l hl=>?_) (fun m ob hm=>⟨?_,fun l hl=>?_⟩)
  ·unfold Jl
   cases hc:Q0 (Xl d u) l with
   | none=>rfl
   | some ob=>exact absurd hl ((Z2 (c l ob hc)).2.1 t)
  ·unfold Jl
   cases hc:Q0 (Xl d u) m with
   | none=>rfl
   | some f=>rw [(Z2 (c m f hc)).1] at hm;cases hm
  ·unfold Jl
   cases hc:Q0 (Xl d u) l with
   | none=>rfl
   | some f=>exact absurd hl ((Z2 (c l f hc)).2.2 m ob hm)
 have n:∀ l ob,Q0 u l=some ob→Q0 (PE.delAll st (del++(Zh d u).map (·.1))).objs l=none:=fun l ob hl=>by
  rw [y]
  by_cases hd:l.1=d
  ·exact (Z2 (hu.news l ob hl hd)).1
  ·rw [Zq,if_pos]
   exact List.mem_map.2 ⟨(l,ob),List.mem_filter.2 ⟨Zn hl,by simp [Z1.2 hd]⟩,rfl⟩
 have H:∀ m ob,Q0 u m=none→Q0 (PE.delAll st (del++(Zh d u).map (·.1))).objs m=some ob→m ∉ (del++(Zh d u).map (·.1))∧Q0 st.objs m=some ob:=fun m ob _ hm=>by
  rw [Zq] at hm
  split at hm
  ·cases hm
  ·rename_i hd;exact ⟨hd,hm⟩
 have h3:=Rel.addAll u (objs':=st'.objs) h2 hu.nodup (fun l ob hl=>by
  obtain ⟨g0,g⟩:=hob l ob hl
  refine ⟨g0,fun b z=>?_⟩
  obtain ⟨g1,g2,g3,g4⟩:=g b z
  refine ⟨g1,?_,g3,fun m f hm C=>?_,g4⟩
  ·rcases g2 with g2 | ⟨k,_,q,o,j⟩
   ·exact .inl (Nat.le_trans h.fr.size g2)
   ·exact (h.excl k q o b j).2.1
  ·obtain ⟨hd,ho⟩:=H m f hm C
   have e:Jl β d u val m=β m:=by
    unfold Jl
    have e1:Q0 (Xl d u) m=if Nat.beq m.1 d then Q0 u m else none:=Jh (fun l=>Nat.beq l.1 d) u m
    rw [e1,hm]
    simp
   rw [e]
   intro v
   rcases g2 with g2 | ⟨k,hk,q,o,j⟩
   ·have:=(h.excl m f ho b v).2.2;omega
   ·exact h.dist m k f q ho o (fun e=>hd (e▸hk)) b v j) n (fun m=>by
  rw [hu.get m]
  cases hc:Q0 u m with
  | some ob=>rfl
  | none=>
   show Q0 (PE.delAll st del).objs m=Q0 (PE.delAll st (del++(Zh d u).map (·.1))).objs m
   rw [Zq,Zq]
   have:m ∉ (Zh d u).map (·.1):=fun hm=>by
    obtain ⟨p,hp,e⟩:=List.mem_map.1 hm
    have E:=(List.mem_filter.1 hp).1
    have:=Q7n hu.nodup (l:=p.1) (b:=p.2) E
    rw [e,hc] at this;cases this
   by_cases i:m∈del
   ·rw [if_pos i,if_pos (List.mem_append.2 (.inl i))]
   ·rw [if_neg i,if_neg (fun hx=>(List.mem_append.1 hx).elim i this)])
 exact h3.same (fun t=>by rw [hu.slots,Q0o];show _=Q9 (PE.delAll st _).slots t;rw [Q0o]) (fun m=>rfl)
theorem Xi {d:Nat} {u:Upd} {val:Lab→Value} {l:Lab} (h:l.1≠d):Jl β d u val l=β l:=by
 unfold Jl
 have e1:Q0 (Xl d u) l=if Nat.beq l.1 d then Q0 u l else none:=Jh (fun l=>Nat.beq l.1 d) u l
 rw [e1,Z1.2 h]
 rfl
end
end Go.PE
namespace Go.PE
section
variable {P:Program} {tab:Tab} {N:NN} {w0:World} {F:FF} {S:Nat→Prop} {β:Lab→Value} {st:St} {a:Act} {w:World}
theorem Q87 (h:Rel P tab.ty N w0 F S β st a w) (g:Qc P tab) {T eT:TypeId} {e:Ty} (htd:tab.td T=some (.slc eT)) (ht:tab.ty eT=some e) {lv:LV} {ls:List Lab} {xs:List e.den} {v:Value}
  (hb:Q6x (Q0 st.objs) eT e lv=some (ls,xs)) (hv:Qm P tab.ty S β w lv v) :
  ∃ cells,w.ownsRow 0 eT e.cells v xs.length cells∧Q1 tab.ty S w e xs cells∧(∀ k,blk v=some k→Q0b st β ls k)∧(∀ l∈ls,∃ ob,Q0 st.objs l=some ob):=by
 unfold Q6x at hb
 split at hb
 ·obtain ⟨rfl,rfl⟩:=Prod.mk.inj (sI hb)
  have hv:v=.slice none 0 0:=hv
  subst hv
  exact ⟨[],World.ownsRow_nil w 0 eT e.cells,rfl,(fun k hk=>by cases hk),(fun l hl=>by cases hl)⟩
 ·rename_i l
  split at hb
  case h_2=>cases hb
  case h_1 eT' e' xs' ho=>
  cases hq:Nat.beq eT eT' with
  | false=>rw [hq] at hb;cases hb
  | true=>
   have e1:=Nat.eq_of_beq_eq_true hq
   subst e1
   rw [hq] at hb
   simp only [cond_true] at hb
   obtain ⟨ys,f,hb⟩:=bE hb
   obtain ⟨rfl,rfl⟩:=Prod.mk.inj (sI hb)
   obtain ⟨e2,e3⟩:=Z0 f
   injection e2 with _ e4
   subst e4
   have e3:xs'=ys:=e3
   subst e3
   obtain ⟨hp,cells,b,d⟩:=h.objs l _ ho
   obtain ⟨hv,_⟩:=hv
   rw [hv] at b
   exact ⟨cells,b,d,fun k hk=>⟨l,List.mem_singleton.2 rfl,_,ho,by rw [hv];exact hk⟩,fun l' c=>by have:=List.mem_singleton.1 c;subst this;exact ⟨_,ho⟩⟩
 ·cases hb
theorem Q1.str {τ:TypeId→Option Ty}:∀ (xs:List UInt8),Q1 τ S w (.int .u8) (xs.map fun b=>(b.toNat:Int)) (xs.map fun b=>Value.int .u8 b.toNat)
 | []=>rfl
 | b::r=>⟨[.int .u8 b.toNat],_,rfl,rfl,Q1.str r⟩
theorem Q4n (h:Rel P tab.ty N w0 F S β st a w) {o:Oper} {eT:TypeId} {e:Ty} (q:0<e.cells) {ls:List Lab} {xs:List e.den} {v v':Value} {cells:List Value} {w':World} {n:Nat} (hn:n=xs.length)
  (ha:Q3f w eT e.cells v n cells v' w') (u:Q1 tab.ty S w e xs cells) (hls:∀ k,blk v=some k→Q0b st β ls k)
  {st':St} (y:Qs (delAll st ls) (o.dst.getD 999999999) [((o.dst.getD 999999999,0),.row eT e xs)]=some st') :
  ∃ S' β',(∀ k,S k→S' k)∧(∀ l:Lab,l.1≠o.dst.getD 999999999→β' l=β l)∧Rel P tab.ty N w0 F S' β' st' a w'∧Qf P tab.ty S' β' w' (.cv (.one (.ref (o.dst.getD 999999999,0)))) v':=by
 obtain ⟨g,hf,s⟩:=ha
 have f:(Zh (o.dst.getD 999999999) [((o.dst.getD 999999999,0),Ob.row eT e xs)]).map (·.1)=[]:=by
  simp [Zh,Z6.2 rfl]
 have p:Q0 (Xl (o.dst.getD 999999999) [((o.dst.getD 999999999,0),Ob.row eT e xs)]) (o.dst.getD 999999999,0)=some (.row eT e xs):=by
  have hb:Nat.beq (o.dst.getD 999999999) (o.dst.getD 999999999)=true:=Z6.2 rfl
  simp [Xl,Q0,hb,Zc.2 rfl]
 have hβ:Jl β (o.dst.getD 999999999) [((o.dst.getD 999999999,0),Ob.row eT e xs)] (fun _=>v') (o.dst.getD 999999999,0)=v':=by
  unfold Jl;rw [p]
 have t:∀ k,S k→k<w'.heap.size:=fun k hk=>Nat.lt_of_lt_of_le (h.sb k hk) hf.size
 have hk:∀ k,S k→k<w.heap.size→w'.heap[k]?=w.heap[k]?:=fun k hs i=>hf.block i (fun hx=>by
  obtain ⟨l,_,ob,ho,d⟩:=hls k hx
  exact (h.excl l ob ho k d).1 hs)
 refine ⟨S,Jl β (o.dst.getD 999999999) [((o.dst.getD 999999999,0),Ob.row eT e xs)] (fun _=>v'),fun _ x=>x,fun l hl=>Xi hl,?_,?_⟩
 ·refine h.upd y (X:=fun k=>blk v=some k) hf (fun k _ hx=>?_) (fun _ x=>x) (fun k hk=>.inl hk) t (fun _=>v') (fun l ob hl=>?_)
  ·rw [f,List.append_nil];exact hls k hx
  ·rw [Q3] at hl
   split at hl
   ·rename_i e1
    have hl:=sI hl
    subst hl;subst e1
    rw [hβ]
    refine ⟨⟨q,cells,by rw [← hn];exact g,u.frame (fun _ x=>x) hf.size hk⟩,fun b hb=>?_⟩
    obtain ⟨c,r⟩:=s b hb
    refine ⟨fun hs=>?_,?_,r,fun m z hm j=>?_⟩
    ·rcases c with c | c
     ·obtain ⟨l,_,ob,ho,d⟩:=hls b c
      exact (h.excl l ob ho b d).1 hs
     ·have:=h.sb b hs;omega
    ·rw [f,List.append_nil]
     rcases c with c | c
     ·exact .inr (hls b c)
     ·exact .inl c
    ·rw [Q3,if_neg (fun e=>hm e.symm)] at j;cases j
   ·cases hl
 ·exact ⟨hβ,Zy g⟩
theorem Q04 {o:Oper} {s x:Operand} {args:Array Operand} {ts:Array TypeId} {T T':TypeId} (ho:o.op=.call { callee:=.builtin .append,args:=args,argTypes:=ts }) (ha:args.toList=[s,x]) (ht:ts.toList=[T,T'])
  {v':Value} {w':World} (hr:(Builtin.append_ #[T,T'] o.type #[a.eval s,a.eval x]).run P w=.ok v' w') (Q:Exit→Act→World→Prop) (K:Act→World→Prop) (hK:K (a.put o.dst v') w'):o.wp P a w K Q:=by
 have e1:=Q3l ha
 have e2:ts=#[T,T']:=by apply Array.ext';simpa using ht
 subst e1;subst e2
 unfold Oper.wp execOp
 simp only [ho,resolve,invoke,builtin,Sem.run_bind,Sem.run_pure,Result.andThen_ok,List.map_toArray,List.map_cons,List.map_nil,hr]
 exact hK
theorem Qat (d:Qc P tab) (h:Rel P tab.ty N w0 F S β st a w) {o:Oper} {s x:Operand} {args:Array Operand} {ts:Array TypeId} {T T':TypeId} (ho:o.op=.call { callee:=.builtin .append,args:=args,argTypes:=ts }) (ha:args.toList=[s,x]) (ht:ts.toList=[T,T'])
  {c:Bool} {v:SV} {del:List Lab} {u:Upd} (he:Q77 tab st (Qb st.slots) (o.dst.getD 999999999) s x T T'=some (c,v,del,u)) (hc:c=true):Xe P tab N w0 F S β st a w o v del u:=by
 unfold Q77 at he
 split at he
 case h_2=>cases he
 case h_1 eT htd=>
 simp only [Option.bind_eq_some_iff] at he
 obtain ⟨e,hte,sv,I,xv,J,⟨ls,xs⟩,hb,ys,f,he⟩:=he
 have k:=d.pos T eT e htd hte
 have hu:P.underlying T=some (.slice eT):=d.td T _ htd
 have hT:=d.ty eT e hte
 have hs:=Qy I (Q4 h s)
 have hx:=Qy J (Q4 h x)
 obtain ⟨cells,j,E,hls,L⟩:=Q87 h d htd hte hb hs
 cases hq:(ls.all fun l=>!(Xw l (Qw xv))) with
 | false=>simp only [hq] at he;cases he
 | true=>
  simp only [hq,cond_true] at he
  have he:=sI he
  obtain ⟨e1,he⟩:=Prod.mk.inj he
  obtain ⟨e2,he⟩:=Prod.mk.inj he
  obtain ⟨e3,e4⟩:=Prod.mk.inj he
  subst e2;subst e3;subst e4
  rw [hc] at e1
  have g:xs.length+ys.length≤1073741824:=Q2.1 e1
  intro Q K hK
  unfold Q75 at f
  split at f
  ·rename_i p
   obtain ⟨str,H,f⟩:=bE f
   obtain ⟨e5,e6⟩:=Z0 f
   injection e5 with _ e7
   subst e7
   have e6:str.data.toList.map (fun b=>(b.toNat:Int))=ys:=e6
   have q:ys.length=str.size:=(congrArg (List.length (α:=Int)) e6).symm.trans (by rw [List.length_map,Array.length_toList];rfl)
   have C:P.underlying T'=some .string:=d.td T' _ p
   have D:a.eval x=.string str:=X1 H hx
   obtain ⟨v',w',hr,r⟩:=Q8t (ty:=o.type) d hu C hte j (s:=str) (by rw [← q];exact g)
   refine Q04 ho ha ht (by rw [D];exact hr) Q K (hK v' w' (fun st' B=>?_))
   refine Q4n h k (n:=xs.length+str.size) (by rw [List.length_append,q]) r ?_ hls B
   rw [← e6]
   exact E.append (Q1.str str.data.toList)
  ·rename_i eT' p
   cases y:Nat.beq eT eT' with
   | false=>rw [y] at f;cases f
   | true=>
    have e5:=Nat.eq_of_beq_eq_true y
    subst e5
    rw [y] at f
    have C:P.underlying T'=some (.slice eT):=d.td T' _ p
    obtain ⟨A,cc,news,D,hA,t,m⟩:=Qg7 h f hx
    obtain ⟨i,z,hi,_⟩:=hT.info
    obtain ⟨v',w',hr,r⟩:=Q2c (tab:=tab) (ty:=o.type) (c:=cc) d hu hT k j hA m.length t m.oneCell g
    obtain ⟨A0,n0,c0,G⟩:=Zy j
    refine Q04 ho ha ht (v':=v') (w':=w') ?_ Q K (hK v' w' (fun st' B=>?_))
    ·rw [D,G,Q0n hu C hi,← G];exact hr
    ·exact Q4n h k (n:=xs.length+ys.length) (by rw [List.length_append]) r (E.append m) hls B
  ·cases f
theorem Qc3 (h:Rel P tab.ty N w0 F S β st a w) {eT:TypeId} {lv:LV} {ls:List Lab} {vs:List LV} {v:Value}
  (hb:Q79 (Q0 st.objs) eT lv=some (ls,vs)) (hv:Qm P tab.ty S β w lv v) :
  ∃ cells,w.ownsRow 0 eT 1 v vs.length cells∧Q5 P tab.ty S β w vs cells∧(∀ k,blk v=some k→Q0b st β ls k):=by
 unfold Q79 at hb
 split at hb
 ·obtain ⟨rfl,rfl⟩:=Prod.mk.inj (sI hb)
  have hv:v=.slice none 0 0:=hv
  subst hv
  exact ⟨[],World.ownsRow_nil w 0 eT 1,rfl,(fun k hk=>by cases hk)⟩
 ·rename_i l
  split at hb
  case h_2=>cases hb
  case h_1 eT' vs' ho=>
  cases hq:Nat.beq eT eT' with
  | false=>rw [hq] at hb;cases hb
  | true=>
   have e1:=Nat.eq_of_beq_eq_true hq
   subst e1
   rw [hq] at hb
   obtain ⟨rfl,rfl⟩:=Prod.mk.inj (sI hb)
   obtain ⟨cells,b,c⟩:=h.objs l _ ho
   obtain ⟨hv,_⟩:=hv
   rw [hv] at b
   exact ⟨cells,b,c,fun k hk=>⟨l,List.mem_singleton.2 rfl,_,ho,by rw [hv];exact hk⟩⟩
 ·cases hb
theorem Qdc (h:Rel P tab.ty N w0 F S β st a w) {eT:TypeId} {lv:LV} {vs:List LV} {v:Value}
  (hb:Qag (Q0 st.objs) eT lv=some vs) (hv:Qm P tab.ty S β w lv v) :
  ∃ A c news,v=.slice A vs.length c∧(A=none→vs.length=0)∧(∀ ad,A=some ad→∀ j u,news[j]?=some u→w.cell? (ad.add j)=some u)∧Q5 P tab.ty S β w vs news:=by
 unfold Qag at hb
 split at hb
 ·rename_i l
  split at hb
  case h_2=>cases hb
  case h_1 eT' vs' ho=>
  cases hq:(Nat.beq eT eT'&&vs'.all Qi8) with
  | false=>rw [hq] at hb;cases hb
  | true=>
   rw [hq] at hb
   have:=sI hb
   subst this
   obtain ⟨cells,b,f⟩:=h.objs l _ ho
   obtain ⟨hv,_⟩:=hv
   rcases b.2 with ⟨h1,h0⟩ | ⟨g,cap,i,d,_,_⟩
   ·have hx:vs'=[]:=List.eq_nil_of_length_eq_zero h0
    subst hx
    exact ⟨none,0,[],by rw [← hv,h1];rfl,fun _=>rfl,fun _ _ j u h=>by simp at h,rfl⟩
   ·refine ⟨_,cap,cells,by rw [← hv];exact d,(fun h=>by cases h),fun ad e j u hu=>?_,f⟩
    have:=sI e
    subst this
    exact b.cells (g:=g) (by rw [d];rfl) j u hu
 ·cases hb
theorem Qb6 (h:Rel P tab.ty N w0 F S β st a w) {o:Oper} {eT:TypeId} {ls:List Lab} {xs:List LV} {v v':Value} {cells:List Value} {w':World} {n:Nat} (hn:n=xs.length)
  (ha:Q3f w eT 1 v n cells v' w') (y:Q5 P tab.ty S β w xs cells) (hls:∀ k,blk v=some k→Q0b st β ls k) (u:(o.dst.getD 999999999,0) ∉ xs.flatMap Qw)
  {st':St} (z:Qs (delAll st ls) (o.dst.getD 999999999) [((o.dst.getD 999999999,0),.lrow eT xs)]=some st') :
  ∃ S' β',(∀ k,S k→S' k)∧(∀ l:Lab,l.1≠o.dst.getD 999999999→β' l=β l)∧Rel P tab.ty N w0 F S' β' st' a w'∧Qf P tab.ty S' β' w' (.cv (.one (.ref (o.dst.getD 999999999,0)))) v':=by
 obtain ⟨g,hf,s⟩:=ha
 have f:(Zh (o.dst.getD 999999999) [((o.dst.getD 999999999,0),Ob.lrow eT xs)]).map (·.1)=[]:=by
  simp [Zh,Z6.2 rfl]
 have i:Xl (o.dst.getD 999999999) [((o.dst.getD 999999999,0),Ob.lrow eT xs)]=[((o.dst.getD 999999999,0),Ob.lrow eT xs)]:=by
  have hb:Nat.beq (o.dst.getD 999999999) (o.dst.getD 999999999)=true:=Z6.2 rfl
  simp [Xl,hb]
 have q:Q0 (Xl (o.dst.getD 999999999) [((o.dst.getD 999999999,0),Ob.lrow eT xs)]) (o.dst.getD 999999999,0)=some (.lrow eT xs):=by
  rw [i];simp [Q0,Zc.2 rfl]
 have hβ:Jl β (o.dst.getD 999999999) [((o.dst.getD 999999999,0),Ob.lrow eT xs)] (fun _=>v') (o.dst.getD 999999999,0)=v':=by
  unfold Jl;rw [q]
 have A:∀ l,l≠(o.dst.getD 999999999,0)→Jl β (o.dst.getD 999999999) [((o.dst.getD 999999999,0),Ob.lrow eT xs)] (fun _=>v') l=β l:=by
  intro l hl
  unfold Jl
  rw [i,Q3,if_neg (fun e=>hl e.symm)]
  rfl
 have t:∀ k,S k→k<w'.heap.size:=fun k hk=>Nat.lt_of_lt_of_le (h.sb k hk) hf.size
 have hk:∀ k,S k→k<w.heap.size→w'.heap[k]?=w.heap[k]?:=fun k hs j=>hf.block j (fun hx=>by
  obtain ⟨l,_,ob,ho,d⟩:=hls k hx
  exact (h.excl l ob ho k d).1 hs)
 refine ⟨S,Jl β (o.dst.getD 999999999) [((o.dst.getD 999999999,0),Ob.lrow eT xs)] (fun _=>v'),fun _ x=>x,fun l hl=>Xi hl,?_,?_⟩
 ·refine h.upd z (X:=fun k=>blk v=some k) hf (fun k _ hx=>?_) (fun _ x=>x) (fun k hk=>.inl hk) t (fun _=>v') (fun l ob hl=>?_)
  ·rw [f,List.append_nil];exact hls k hx
  ·rw [Q3] at hl
   split at hl
   ·rename_i e1
    have hl:=sI hl
    subst hl;subst e1
    rw [hβ]
    refine ⟨⟨cells,by rw [← hn];exact g,y.frame (fun _ x=>x) hf.size hk h.sb (fun l hl=>A l (fun e=>u (e▸hl)))⟩,fun b hb=>?_⟩
    obtain ⟨c,r⟩:=s b hb
    refine ⟨fun hs=>?_,?_,r,fun m B hm p=>?_⟩
    ·rcases c with c | c
     ·obtain ⟨l,_,ob,ho,d⟩:=hls b c
      exact (h.excl l ob ho b d).1 hs
     ·have:=h.sb b hs;omega
    ·rw [f,List.append_nil]
     rcases c with c | c
     ·exact .inr (hls b c)
     ·exact .inl c
    ·rw [Q3,if_neg (fun e=>hm e.symm)] at p;cases p
   ·cases hl
 ·exact ⟨hβ,Zy g⟩
theorem Q8r (b:Qc P tab) (h:Rel P tab.ty N w0 F S β st a w) {o:Oper} {s x:Operand} {args:Array Operand} {ts:Array TypeId} {T T':TypeId} (ho:o.op=.call { callee:=.builtin .append,args:=args,argTypes:=ts }) (ha:args.toList=[s,x]) (ht:ts.toList=[T,T'])
  {c:Bool} {v:SV} {del:List Lab} {u:Upd} (he:Q61 tab st (Qb st.slots) (o.dst.getD 999999999) s x T T'=some (c,v,del,u)):Xe P tab N w0 F S β st a w o v del u:=by
 unfold Q61 at he
 split at he
 case h_2=>cases he
 case h_1 eT htd=>
 simp only [Option.bind_eq_some_iff] at he
 obtain ⟨e,hte,sv,r,xv,y,⟨ls,xs⟩,hb,ys,z,he⟩:=he
 have hu:P.underlying T=some (.slice eT):=b.td T _ htd
 have hT:=b.ty eT e hte
 have hs:=Qy r (Q4 h s)
 have hx:=Qy y (Q4 h x)
 obtain ⟨cells,f,p,hls⟩:=Qc3 h hb hs
 obtain ⟨A,cc,news,t,hA,g,d⟩:=Qdc h z hx
 cases hq:(ls.all (fun l=>!(Xw l (Qw xv)))&&Nat.beq e.cells 1&&Nat.beq T T'&&Nat.ble (xs.length+ys.length) 1073741824&&!(Xw (o.dst.getD 999999999,0) ((xs++ys).flatMap Qw))) with
 | false=>simp only [hq] at he;cases he
 | true=>
  simp only [hq,cond_true] at he
  have he:=sI he
  obtain ⟨_,he⟩:=Prod.mk.inj he
  obtain ⟨e2,he⟩:=Prod.mk.inj he
  obtain ⟨e3,e4⟩:=Prod.mk.inj he
  subst e2;subst e3;subst e4
  simp only [Bool.and_eq_true] at hq
  obtain ⟨⟨⟨⟨_,q2⟩,q3⟩,q4⟩,q5⟩:=hq
  have q2:=Nat.eq_of_beq_eq_true q2
  have q3:=Nat.eq_of_beq_eq_true q3
  subst q3
  have j:=Q2.1 q4
  have m:(o.dst.getD 999999999,0) ∉ (xs++ys).flatMap Qw:=by
   intro hm
   rw [Q09.2 hm] at q5
   cases q5
  intro Q K hK
  have k:news.length=ys.length*e.cells:=by rw [q2,Nat.mul_one];exact d.length
  rw [← q2] at f
  obtain ⟨v',w',hr,i⟩:=Q2c (tab:=tab) (ty:=o.type) (c:=cc) b hu hT (by omega) f hA k g d.oneCell j
  refine Q04 ho ha ht (v':=v') (w':=w') ?_ Q K (hK v' w' (fun st' q=>?_))
  ·rw [t];exact hr
  ·rw [q2] at i
   exact Qb6 h (n:=xs.length+ys.length) (by rw [List.length_append]) i (p.append d) hls m q
theorem Qgp {τ:TypeId→Option Ty} {S:Nat→Prop} {e:Ty} {eT:TypeId} {xs:List e.den} {g cap:Nat} {cells:List Value} {w:World} (hS:S g) (hg:g<w.heap.size) (hc:xs.length≤cap) (hm:cap≤maxLen)
  (a:∀ j,j<xs.length*e.cells→w.cell? ⟨g,j,none⟩=some (cells.getD j undef)) (b:Q1 τ S w e xs cells):Rep τ S w (.sl eT e) xs [.slice (some ⟨g,0,none⟩) xs.length cap]:=by
 refine ⟨_,cap,rfl,hc,hm,fun _=>⟨g,0,rfl,hS,hg,fun i hi=>?_⟩⟩
 have h2:=b.elem i hi
 have hl:=b.length
 have d:i*e.cells+e.cells≤xs.length*e.cells:=by
  have:=Nat.mul_le_mul_right e.cells (Nat.succ_le_of_lt hi)
  rwa [Nat.succ_mul] at this
 refine ⟨(cells.drop (i*e.cells)).take e.cells,by rw [List.length_take,List.length_drop,hl];omega,fun j hj=>?_,?_⟩
 ·have c:j<e.cells:=by rw [List.length_take,List.length_drop,hl] at hj;omega
  have:=a (i*e.cells+j) (by omega)
  rw [Nat.zero_add,this]
  congr 1
  simp only [List.getD_eq_getElem?_getD,List.getElem?_take,List.getElem?_drop,if_pos c]
 ·exact h2
theorem Qfa {w:World} {g k:Nat} {a:Array Value} {eT:TypeId} (h:w.heap[g]?=some (.cells a eT (0,0))) :
  (w.freeze ⟨g,k,none⟩ 1).heap[g]?=some (.cells a eT (k,k+1)):=by
 simp [World.freeze,Array.getElem?_modify,h]
theorem Q5d {w:World} {g k j:Nat} (h:j≠g):(w.freeze ⟨g,k,none⟩ 1).heap[j]?=w.heap[j]?:=by
 simp [World.freeze,Array.getElem?_modify,Ne.symm h]
theorem Qfl {w:World} {g k:Nat}:Fr (fun i=>i=g) w (w.freeze ⟨g,k,none⟩ 1):=
 ⟨by simp [World.freeze],by simp [World.freeze],by simp [World.freeze],by simp [World.freeze],fun j _ hj=>Q5d hj⟩
theorem Qh0 {T eT:TypeId} {g n cap:Nat} {a:Array Value} (hu:P.underlying T=some (.slice eT)) (he:P.underlying eT=some (.int .u8)) (h:w.heap[g]?=some (.cells a eT (0,0))) :
  (convert T T (.slice (some ⟨g,0,none⟩) n cap)).run P w=.ok (.slice (some ⟨g,0,none⟩) n cap) (w.freeze ⟨g,a.size,none⟩ 1):=by
 have b:w.shape? g=some (eT,a.size):=by simp [World.shape?,h]
 simp [convert,run_underlying hu,run_underlying he,markStringish,b]
theorem Qbh (h:Rel P tab.ty N w0 F S β st a w) {o:Oper} {ls:List Lab} {w':World} {X:Nat→Prop} {S':Nat→Prop} (hf:Fr X w w') (hX:∀ k,k<w.heap.size→X k→Q0b st β ls k) (hS:∀ k,S k→S' k)
  (hn:∀ k,S' k→S k∨w.heap.size≤k∨Q0b st β ls k) (hb:∀ k,S' k→k<w'.heap.size) {sv:SV} {v:Value} (hv:∀ β',Qf P tab.ty S' β' w' sv v) {st':St} (c:Qs (delAll st ls) (o.dst.getD 999999999) []=some st') :
  ∃ b β',(∀ k,S k→b k)∧(∀ l:Lab,l.1≠o.dst.getD 999999999→β' l=β l)∧Rel P tab.ty N w0 F b β' st' a w'∧Qf P tab.ty b β' w' sv v:=by
 refine ⟨S',Jl β (o.dst.getD 999999999) [] (fun _=>v),hS,fun l hl=>Xi hl,?_,hv _⟩
 exact h.upd c (X:=X) hf (fun k h1 h2=>by simpa [Zh] using hX k h1 h2) hS (fun k hk=>by simpa [Zh] using hn k hk) hb (fun _=>v) (fun l ob hl=>by cases hl)
theorem Q50 {o:Oper} {sT dT:TypeId} {x:Operand} (ho:o.op=.convert sT dT x) {v':Value} {w':World} (hr:(convert sT dT (a.eval x)).run P w=.ok v' w')
  (Q:Exit→Act→World→Prop) (K:Act→World→Prop) (hK:K (a.put o.dst v') w'):o.wp P a w K Q:=by
 unfold Oper.wp execOp
 simp only [ho,Sem.run_bind,Sem.run_pure,Result.andThen_ok,hr]
 exact hK
theorem Qbx (d:Qc P tab) (h:Rel P tab.ty N w0 F S β st a w) {o:Oper} {sT dT:TypeId} {x:Operand} (ho:o.op=.convert sT dT x) {c:Bool} {v:SV} {del:List Lab}
  (he:Q53 tab (Q0 st.objs) sT dT (Qb st.slots x)=some (c,v,del)) (hc:c=true):Xe P tab N w0 F S β st a w o v del []:=by
 unfold Q53 at he
 split at he
 case h_2=>cases he
 case h_1 eT htd=>
 split at he
 case h_2=>cases he
 case h_1 htd8 hty8=>
 obtain ⟨lv,L,he⟩:=bE he
 have hx:=Qy L (Q4 h x)
 have C:P.underlying dT=some (.slice eT):=d.td dT _ htd
 have D:P.underlying eT=some (.int .u8):=d.td eT _ htd8
 split at he
 ·rename_i hts
  obtain ⟨s,hs,he⟩:=bE he
  have he:=sI he
  obtain ⟨e1,he⟩:=Prod.mk.inj he
  obtain ⟨e2,e3⟩:=Prod.mk.inj he
  subst e2;subst e3
  rw [hc] at e1
  have V:=Q2.1 e1
  have U:a.eval x=.string s:=X1 hs hx
  have T:P.underlying sT=some .string:=d.td sT _ hts
  have hr:=Lib.run_convert_string_bytes (P:=P) w sT dT eT s T C D
  have R:=Lib.bytesWorld_size w eT s
  intro Q K hK
  refine Q50 ho (by rw [U];exact hr) Q K (hK _ _ (fun st' q=>?_))
  have G:Fr (fun _=>False) w (Lib.bytesWorld w eT s):=⟨by simp [Lib.bytesWorld,World.freeze,World.alloc,World.drew,-World.alloc_eq,-World.drew_eq],by simp [Lib.bytesWorld,World.freeze,World.alloc,World.drew,-World.alloc_eq,-World.drew_eq],
   by simp [Lib.bytesWorld,World.freeze,World.alloc,World.drew,-World.alloc_eq,-World.drew_eq],by rw [R];omega,fun k hk _=>Lib.bytesWorld_at_old w eT s k hk⟩
  refine Qbh h (X:=fun _=>False) (S':=fun k=>S k∨k=w.heap.size) G (fun k _ hk=>hk.elim) (fun k hk=>.inl hk) (fun k hk=>hk.elim .inl (fun e=>.inr (.inl (by omega)))) (fun k hk=>?_) (fun β'=>?_) q
  ·rcases hk with hk | hk
   ·have:=h.sb k hk;omega
   ·omega
  ·have f:(s.data.toList.map fun b=>(b.toNat:Int)).length=s.size:=by simp
   have:=Qgp (τ:=tab.ty) (S:=fun k=>S k∨k=w.heap.size) (e:=.int .u8) (eT:=eT) (xs:=s.data.toList.map fun b=>(b.toNat:Int)) (g:=w.heap.size) (cap:=grownCap w s.size 0 eT) (cells:=s.data.toList.map fun b=>Value.int .u8 b.toNat)
    (w:=Lib.bytesWorld w eT s) (.inr rfl) (by omega) (by erw [f];exact grownCap_ge _ _ _ _) (grownCap_le_maxLen _ _ _ _ (by simp [maxLen];omega)) (fun j hj=>?_) (Q1.str _)
   ·erw [f] at this
    exact this
   ·have u:j<s.size:=by
     have:j<(s.data.toList.map fun b=>(b.toNat:Int)).length*1:=hj
     rw [Nat.mul_one,f] at this;exact this
    rw [Lib.bytesWorld_cell w eT s j u]
    have z:j<s.data.toList.length:=by rw [Array.length_toList];exact u
    have H:s.data[j]?=some (s.data[j]'(by simpa using z)):=Array.getElem?_eq_getElem (by simpa using z)
    simp [List.getD_eq_getElem?_getD,H]
 ·rename_i Y hts
  split at he
  case h_2=>cases he
  case h_1 l=>
  split at he
  case h_2=>cases he
  case h_1 eT' e xs hob=>
  cases hq:(Nat.beq sT dT&&Nat.beq eT' eT&&!(List.isEmpty xs)) with
  | false=>rw [hq] at he;cases he
  | true=>
   rw [hq] at he
   simp only [cond_true] at he
   have he:=sI he
   obtain ⟨e1,he⟩:=Prod.mk.inj he
   obtain ⟨e2,e3⟩:=Prod.mk.inj he
   subst e2;subst e3
   simp only [Bool.and_eq_true] at hq
   obtain ⟨⟨q1,q2⟩,q3⟩:=hq
   have q1:=Nat.eq_of_beq_eq_true q1
   have q2:=Nat.eq_of_beq_eq_true q2
   subst q1;subst q2
   obtain ⟨hβ,_⟩:=hx
   obtain ⟨W,cells,B,O⟩:=h.objs l _ hob
   have a0:0<xs.length:=by
    cases xs with
    | nil=>simp at q3
    | cons y r=>simp
   rcases B.2 with ⟨_,h0⟩ | ⟨g,cap,m,hv,_,hg,A,E,Z,t⟩
   ·omega
   ·have n:blk (β l)=some g:=by rw [hv];rfl
    obtain ⟨M,_,J⟩:=h.excl l _ hob g n
    intro Q K hK
    refine Q50 ho (by rw [← hβ,hv];exact Qh0 C D hg) Q K (hK _ _ (fun st' q=>?_))
    have p:∀ k,S k→k<w.heap.size→(w.freeze ⟨g,m.size,none⟩ 1).heap[k]?=w.heap[k]?:=fun k hk _=>Q5d (fun e=>M (e▸hk))
    refine Qbh h (X:=fun i=>i=g) (S':=fun k=>S k∨k=g) Qfl (fun k _ hk=>⟨l,List.mem_singleton.2 rfl,_,hob,by rw [n,hk]⟩) (fun k hk=>.inl hk)
     (fun k hk=>hk.elim .inl (fun e=>.inr (.inr ⟨l,List.mem_singleton.2 rfl,_,hob,by rw [n,e]⟩))) (fun k hk=>?_) (fun β'=>?_) q
    ·have:(w.freeze ⟨g,m.size,none⟩ 1).heap.size=w.heap.size:=by simp [World.freeze]
     rw [this]
     rcases hk with hk | hk
     ·exact h.sb k hk
     ·omega
    ·refine Qgp (eT:=eT') (cells:=cells) (.inr rfl) (by simp [World.freeze];exact J) A E (fun j hj=>?_) (O.frame (fun _ x=>.inl x) (by simp [World.freeze]) p)
     have I:j<m.size:=by
      have:=Nat.mul_le_mul_right e.cells A
      omega
     simp only [World.cell?,Qfa hg]
     rw [← t]
     simp [List.getD_eq_getElem?_getD,List.getElem?_take,hj,I]
 ·cases he
theorem Qar (d:Qc P tab) (h:Rel P tab.ty N w0 F S β st a w) {o:Oper} {sT dT:TypeId} {x:Operand} (ho:o.op=.convert sT dT x) {c:Bool} {v:SV} {u:Upd}
  (he:Q3j tab (o.dst.getD 999999999) sT dT (Qb st.slots x)=some (c,v,u)) (hc:c=true):Xe P tab N w0 F S β st a w o v [] u:=by
 unfold Q3j at he
 split at he
 case h_2=>cases he
 case h_1 eT htd=>
 split at he
 case h_2=>cases he
 case h_1 htd8 hty8=>
 split at he
 case h_2=>cases he
 case h_1 hts=>
 obtain ⟨lv,y,he⟩:=bE he
 have hx:=Qy y (Q4 h x)
 have A:P.underlying dT=some (.slice eT):=d.td dT _ htd
 have B:P.underlying eT=some (.int .u8):=d.td eT _ htd8
 obtain ⟨s,hs,he⟩:=bE he
 have he:=sI he
 obtain ⟨e1,he⟩:=Prod.mk.inj he
 obtain ⟨e2,e3⟩:=Prod.mk.inj he
 subst e2;subst e3
 rw [hc] at e1
 have G:=Q2.1 e1
 have D:a.eval x=.string s:=X1 hs hx
 have C:P.underlying sT=some .string:=d.td sT _ hts
 have hr:=Lib.run_convert_string_bytes (P:=P) w sT dT eT s C A B
 have l:=Lib.bytesWorld_size w eT s
 intro Q K hK
 refine Q50 ho (by rw [D];exact hr) Q K (hK _ _ (fun st' z=>?_))
 have p:Fr (fun _=>False) w (Lib.bytesWorld w eT s):=⟨by simp [Lib.bytesWorld,World.freeze,World.alloc,World.drew,-World.alloc_eq,-World.drew_eq],by simp [Lib.bytesWorld,World.freeze,World.alloc,World.drew,-World.alloc_eq,-World.drew_eq],
  by simp [Lib.bytesWorld,World.freeze,World.alloc,World.drew,-World.alloc_eq,-World.drew_eq],by rw [l];omega,fun k hk _=>Lib.bytesWorld_at_old w eT s k hk⟩
 obtain ⟨hf,rfl⟩:=Q2k rfl z
 obtain ⟨h1,h2,h3⟩:=Z2 hf
 have f:(s.data.toList.map fun b=>(b.toNat:Int)).length=s.size:=by simp
 have H:s.size≤(Lib.bytesCells w eT s).size:=by
  rcases Nat.lt_or_ge (Lib.bytesCells w eT s).size s.size with t | q
  ·have:=Lib.bytesWorld_cell w eT s _ t
   rw [cell_of_row _ _ _ _ _ _ (Lib.bytesWorld_at_new w eT s)] at this
   simp at this
  ·exact q
 refine ⟨S,Jy β (o.dst.getD 999999999,0) _,fun _ h=>h,fun m hm=>Qn (fun e=>hm (by rw [e])),?_,Qh ..,_,_,_,rfl⟩
 have hob:Z7 P tab.ty S β (Lib.bytesWorld w eT s) (.arr eT (.int .u8) (s.data.toList.map fun b=>(b.toNat:Int))) (.slice (some ⟨w.heap.size,0,none⟩) s.size (grownCap w s.size 0 eT)):=by
  refine ⟨w.heap.size,_,_,_,.inr ⟨grownCap w s.size 0 eT,by erw [f],by erw [f];exact grownCap_ge _ _ _ _,grownCap_le_maxLen _ _ _ _ (by simp [maxLen];omega)⟩,Lib.bytesWorld_at_new w eT s,.inr (Nat.le_refl _),?_⟩
  ·have i:=Q1.str (τ:=tab.ty) (S:=S) (w:=Lib.bytesWorld w eT s) s.data.toList
   have:(Lib.bytesCells w eT s).toList.take ((s.data.toList.map fun b=>(b.toNat:Int)).length*(Ty.int .u8).cells)=s.data.toList.map fun b=>Value.int .u8 b.toNat:=by
    have e4:(Ty.int IntKind.u8).cells=1:=rfl
    rw [f,e4,Nat.mul_one]
    refine List.ext_getElem? (fun j=>?_)
    rw [List.getElem?_take]
    by_cases hj:j<s.size
    ·rw [if_pos hj]
     have:=Lib.bytesWorld_cell w eT s j hj
     rw [cell_of_row _ _ _ _ _ _ (Lib.bytesWorld_at_new w eT s)] at this
     have g:j<s.data.toList.length:=by rw [Array.length_toList];exact hj
     have r:s.data[j]?=some (s.data[j]'(by simpa using g)):=Array.getElem?_eq_getElem (by simpa using g)
     rw [Array.getElem?_toList,this]
     simp [List.getD_eq_getElem?_getD,r]
    ·rw [if_neg hj,List.getElem?_eq_none (by simp;exact Nat.le_of_not_lt hj)]
   erw [this]
   exact i
 refine h.setObj (X:=fun _=>False) p (fun _ _ h=>h.elim) (.inr ⟨h2,fun m E hm _=>h3 m E hm⟩) (.inr (by simp [Qz])) hob (fun b n=>?_) (fun m=>?_)
 ·have:=sI n
  subst this
  exact ⟨.inl (Nat.le_refl _),by rw [l];exact Nat.lt_succ_self _⟩
 ·show Q0 ([_]++st.objs) m=_
  rw [List.singleton_append,Q3]
end
end Go.PE
namespace Go.PE
section
variable (τ:TypeId→Option Ty)
def Q18 (S:Nat→Prop) (w:World) (eT:TypeId) (e:Ty) (xs:List e.den) (v:Value) (B:List Nat):Prop:=
 0<e.cells∧(∃ cells,w.ownsRow 0 eT e.cells v xs.length cells∧Q1 τ S w e xs cells)∧B=(blk v).toList
def Qeg (S:Nat→Prop) (w:World) (eT:TypeId) (e:Ty) (ys:List (Option e.den)) (v:Value) (B:List Nat):Prop:=
 0<e.cells∧(∃ A c,v=.slice A ys.length c∧ys.length≤c∧c≤maxLen ∧
  ((A=none∧c=0)∨∃ g a,A=some ⟨g,0,none⟩∧w.heap[g]?=some (.cells a eT (0,0))∧a.size=c*e.cells∧Q8 τ S w e ys a.toList))∧B=(blk v).toList
def Qhq (S:Nat→Prop) (w:World) (v:LV) (b:Bool) (c:Value) (B:List Nat):Prop:=
 match b,v with
 | true,.pure (.sl eT e) xs=>Q18 τ S w eT e xs c B
 | _,.pure t x=>Rep τ S w t x [c]∧B=[]
 | _,_=>False
def Xv (S:Nat→Prop) (w:World):List LV→List Bool→List Value→List Nat→Prop
 | [],_,cs,B=>cs=[]∧B=[]
 | v::r,own,cs,B=>∃ c cr B1 B2,cs=c::cr∧B=B1++B2∧Qhq τ S w v (own.headD false) c B1∧Xv S w r own.tail cr B2
def Q1r (S:Nat→Prop) (w:World) (t:Ty) (own:List Bool) (x:t.den) (v:Value) (B:List Nat):Prop:=
 ∃ b T cs B',v=.pointer (some ⟨b,0,none⟩)∧w.heap[b]?=some (.cells cs T (0,0))∧B=b::B'∧Xv τ S w (lvs t x) own cs.toList B'
def Qj5 (P:Program) (S:Nat→Prop) (w:World):(p:PK)→PD p→Value→List Nat→Prop
 | .val t,x,v,B=>Q0k τ S w t x v∧B=[]
 | .box _ t own,x,v,B=>Q1r τ S w t own x v B
 | .rbox t,x,v,B=>Ji τ S w t x v∧B=[]
 | .fn ps rs,x,v,B=>Q3c τ P S w ps rs x v∧B=[]
 | .own eT e,x,v,B=>Q18 τ S w eT e x v B
 | .ownc eT e,x,v,B=>Q18 τ S w eT e x v B
 | .ownh eT e,x,v,B=>Qeg τ S w eT e x v B
 | .io eT e,x,v,B=>Q18 τ S w eT e x v B
def X5 (P:Program) (S:Nat→Prop) (w:World):(ps:List PK)→PDs ps→List Value→List Nat→Prop
 | [],_,vs,B=>vs=[]∧B=[]
 | p::r,x,vs,B=>∃ v vr B1 B2,vs=v::vr∧B=B1++B2∧Qj5 τ P S w p x.1 v B1∧X5 P S w r x.2 vr B2
def Q2e (S:Nat→Prop) (w:World) (k:RK) (x:k.t.den) (v:Value) (B:List Nat):Prop:=
 match k.ptr with
 | none=>∃ cs:List Value,(k.t.isAgg=true→v=.agg cs.toArray)∧(k.t.isAgg=false→cs=[v])∧Xv τ S w (lvs k.t x) k.own cs B
 | some _=>Q1r τ S w k.t k.own x v B
def Xc (S:Nat→Prop) (w:World):(rs:List RK)→RDs rs→List Value→List Nat→Prop
 | [],_,vs,B=>vs=[]∧B=[]
 | k::r,x,vs,B=>∃ v vr B1 B2,vs=v::vr∧B=B1++B2∧Q2e τ S w k x.1 v B1∧Xc S w r x.2 vr B2
def Qu (S:Nat→Prop) (w:World):(ps:List PK)→List Value→ODs ps→List Nat→Prop
 | [],_,_,B=>B=[]
 | .box _ t own::r,vs,x,B=>∃ v vr B1 B2,vs=v::vr∧B=B1++B2∧Q1r τ S w t own x.1 v B1∧Qu S w r vr x.2 B2
 | .val _::r,vs,x,B=>Qu S w r vs.tail x B
 | .rbox _::r,vs,x,B=>Qu S w r vs.tail x B
 | .fn _ _::r,vs,x,B=>Qu S w r vs.tail x B
 | .own _ _::r,vs,x,B=>Qu S w r vs.tail x B
 | .ownc _ _::r,vs,x,B=>Qu S w r vs.tail x B
 | .ownh _ _::r,vs,x,B=>Qu S w r vs.tail x B
 | .io eT e::r,vs,x,B=>∃ v vr B1 B2,vs=v::vr∧B=B1++B2∧Q18 τ S w eT e x.1 v B1∧Qu S w r vr x.2 B2
def Q4t (P:Program) (f:FuncId) (e:Ent):Prop:=
 Qe1 P f∧∀ (w:World) (S:Nat→Prop) (x:PDs e.ps) (vals:List Value) (B:List Nat) (r:RDs e.rs × ODs e.ps),
  (∀ k,S k→k<w.heap.size)→X5 τ P S w e.ps x vals B→B.Nodup→(∀ k∈B,¬ S k∧k<w.heap.size)→e.G x=some r →
  Calls P f vals.toArray w fun ex w'=>∃ vs S' B1 B2,ex=.returned (Q62 vs)∧Xc τ S' w' e.rs r.1 vs B1∧Qu τ S' w' e.ps vals r.2 B2∧(B1++B2).Nodup ∧
   (∀ k∈B1++B2,¬ S' k∧k<w'.heap.size∧(w.heap.size≤k∨k∈B))∧(∀ k,S k→S' k) ∧
   (∀ k,S' k→k<w'.heap.size∧(S k∨w.heap.size≤k∨k∈B))∧Fr (fun k=>k∈B) w w'
def Je (P:Program) (Γ:Ctx):Prop:=∀ f e,Q8w Γ f=some e→Q4t τ P f e
end
section
variable {P:Program} {tab:Tab} {N:NN} {w0:World} {F:FF} {S:Nat→Prop} {β:Lab→Value} {st:St} {a:Act} {w:World}
def Q7b (o:Lab→Option Ob):List LV→List LV→Prop
 | [],[]=>True
 | v::r,.pure t y::q=>Jp o t v=some y∧Q7b o r q
 | _,_=>False
theorem Q7b.append {o:Lab→Option Ob}:∀ {a b c d:List LV},Q7b o a b→Q7b o c d→Q7b o (a++c) (b++d)
 | [],[],c,d,_,h=>h
 | v::r,.pure t y::q,c,d,h,h'=>⟨h.1,Q7b.append h.2 h'⟩
 | [],_::_,_,_,h,_=>h.elim
 | _::_,[],_,_,h,_=>h.elim
 | _::_,.nil::_,_,_,h,_=>h.elim
 | _::_,.lit _::_,_,_,h,_=>h.elim
 | _::_,.ref _::_,_,_,h,_=>h.elim
 | _::_,.ptr _ _::_,_,_,h,_=>h.elim
 | _::_,.gfn _::_,_,_,h,_=>h.elim
 | _::_,.clo _ _ _::_,_,_,h,_=>h.elim
 | _::_,.nb _::_,_,_,h,_=>h.elim
theorem Qc9 {o:Lab→Option Ob}:∀ {t:Ty} {vs:List LV} {x:t.den} {r:List LV},Q1t o t vs=some (x,r)→∃ v1,vs=v1++r∧Q7b o v1 (lvs t x):=by
 have base:∀ {t:Ty} {vs:List LV} {x:t.den} {r:List LV},(∃ v q,vs=v::q∧((Jp o t v).bind fun x=>some (x,q))=some (x,r))→lvs t x=[.pure t x]→∃ v1,vs=v1++r∧Q7b o v1 (lvs t x):=by
  intro t vs x r ⟨v,q,e1,h⟩ e
  obtain ⟨y,hy,h⟩:=bE h
  obtain ⟨rfl,rfl⟩:=Prod.mk.inj (sI h)
  exact ⟨[v],e1,by rw [e];exact ⟨hy,trivial⟩⟩
 intro t
 induction t with
 | int k=>intro vs x r h;cases vs with | nil=>cases h | cons v q=>exact base ⟨v,q,rfl,h⟩ rfl
 | bool=>intro vs x r h;cases vs with | nil=>cases h | cons v q=>exact base ⟨v,q,rfl,h⟩ rfl
 | str=>intro vs x r h;cases vs with | nil=>cases h | cons v q=>exact base ⟨v,q,rfl,h⟩ rfl
 | ifc=>intro vs x r h;cases vs with | nil=>cases h | cons v q=>exact base ⟨v,q,rfl,h⟩ rfl
 | sl n e ih=>intro vs x r h;cases vs with | nil=>cases h | cons v q=>exact base ⟨v,q,rfl,h⟩ rfl
 | pair a b c d=>
  intro vs x r h
  obtain ⟨⟨x1,r1⟩,h1,h⟩:=bE h
  obtain ⟨⟨x2,r2⟩,h2,h⟩:=bE h
  obtain ⟨rfl,rfl⟩:=Prod.mk.inj (sI h)
  obtain ⟨v1,rfl,d1⟩:=c h1
  obtain ⟨v2,rfl,d2⟩:=d h2
  exact ⟨v1++v2,by rw [List.append_assoc],d1.append d2⟩
 | unit=>
  intro vs x r h
  have h:some ((),vs)=some (x,r):=by cases vs<;>exact h
  obtain ⟨e1,e2⟩:=Prod.mk.inj (sI h)
  subst e2
  exact ⟨[],rfl,trivial⟩
def Qr (β:Lab→Value) (ls:List Lab):List Nat:=ls.flatMap fun l=>(blk (β l)).toList
theorem Qx (β:Lab→Value) (a b:List Lab):Qr β (a++b)=Qr β a++Qr β b:=by simp [Qr]
theorem Q1b {β:Lab→Value} {ls:List Lab} {k:Nat}:k∈Qr β ls↔∃ l∈ls,blk (β l)=some k:=by
 simp [Qr,List.mem_flatMap]
theorem Q6g (v:LV) (r:List LV) (own:List Bool):Qg (v::r) own=(v,own.headD false)::Qg r own.tail:=by cases own<;>rfl
theorem Qdu (vs:List LV):Q0z vs []=true:=by
 cases vs with
 | nil=>rfl
 | cons v r=>
  cases v<;>first | rfl | (rename_i t x;cases t<;>rfl)
theorem Q5x {τ:TypeId→Option Ty} (hob:∀ l ob,Q0 st.objs l=some ob→Z7 P τ S β w ob (β l)) {S':Nat→Prop} (hS:∀ k,S k→S' k):∀ {vs ps:List LV} {cs:List Value} {own:List Bool},
  Q7b (Q0 st.objs) vs ps→Q5 P τ S β w vs cs→Q3a (Q0 st.objs) (Qg vs own)=true→Q0z ps own=true →
  (∀ l∈Qj (Qg vs own),∀ k,blk (β l)=some k→S' k)→Xv τ S' w ps own cs (Qr β (Zs (Qg vs own)))
 | [],[],cs,own,_,hv,_,_,_=>⟨hv,by cases own<;>rfl⟩
 | [],_::_,_,_,h,_,_,_,_=>h.elim
 | _::_,[],_,_,h,_,_,_,_=>h.elim
 | v::r,p::q,cs,own,hd,hv,ho,hp,hr=>by
  cases p<;>try exact hd.elim
  case pure t y=>
  obtain ⟨g,j⟩:=hd
  obtain ⟨c,cr,rfl,h1,h2⟩:=hv
  rw [Q6g] at ho hr
  rw [Q6g]
  cases hb:own.headD false with
  | false=>
   rw [hb] at ho hr
   have m:Q3a (Q0 st.objs) (Qg r own.tail)=true:=by cases v<;>exact ho
   have e1:Zs ((v,false)::Qg r own.tail)=Zs (Qg r own.tail):=by cases v<;>rfl
   have u:Q0z q own.tail=true:=by
    cases own with
    | nil=>exact Qdu q
    | cons b ow=>
     have:b=false:=hb
     subst this
     cases t<;>exact hp
   have s:∀ l∈Qj [(v,false)]++Qj (Qg r own.tail),∀ k,blk (β l)=some k→S' k:=by
    rw [← Xy];exact hr
   rw [e1]
   refine ⟨c,cr,[],_,rfl,rfl,?_,Q5x hob hS j h2 m u (fun l hl=>s l (List.mem_append.2 (.inr hl)))⟩
   rw [hb]
   have:=Q20 hob g h1
   refine ⟨this.mono (fun k hk=>?_),rfl⟩
   rcases hk with hk | ⟨l,hl,hk⟩
   ·exact hS k hk
   ·exact s l (List.mem_append.2 (.inl hl)) k hk
  | true=>
   rw [hb] at ho hr
   have f:∃ ow,own=true::ow:=by
    cases own with
    | nil=>cases hb
    | cons b ow=>have:b=true:=hb;subst this;exact ⟨ow,rfl⟩
   obtain ⟨ow,rfl⟩:=f
   cases v<;>try (cases ho;done)
   case nil=>
    have m:Q3a (Q0 st.objs) (Qg r ow)=true:=ho
    have e1:Zs ((LV.nil,true)::Qg r ow)=Zs (Qg r ow):=rfl
    cases t<;>try (cases g;done)
    case sl n e=>
    have hx:([]:List e.den)=y:=sI g
    subst hx
    have d:(Nat.blt 0 e.cells&&Q0z q ow)=true:=hp
    simp only [Bool.and_eq_true] at d
    refine ⟨c,cr,[],_,rfl,rfl,?_,Q5x hob hS j h2 m d.2 hr⟩
    have hc:c=.slice none 0 0:=h1
    subst hc
    exact ⟨Q2.1 d.1,⟨[],World.ownsRow_nil w 0 n e.cells,rfl⟩,rfl⟩
   case ref l=>
    have i:((match Q0 st.objs l with | some (.row _ _ _)=>true | _=>false)&&Q3a (Q0 st.objs) (Qg r ow))=true:=ho
    simp only [Bool.and_eq_true] at i
    have e1:Zs ((LV.ref l,true)::Qg r ow)=l::Zs (Qg r ow):=rfl
    have a:(match Q0 st.objs l with | some (.row eT e xs)=>Zi (.sl eT e) t xs | some (.arr eT e xs)=>Zi (.sl eT e) t xs | _=>none)=some y:=g
    cases hol:Q0 st.objs l with
    | none=>rw [hol] at a;cases a
    | some ob=>
     rw [hol] at a
     rw [hol] at i
     cases ob<;>try first | (cases a;done) | (exact Bool.noConfusion i.1;done)
     case row eT e xs=>
     obtain ⟨e2,e3⟩:=Z0 a
     subst e2
     have e3:xs=y:=e3
     subst e3
     obtain ⟨o,cells,f,x⟩:=hob l _ hol
     have d:(Nat.blt 0 e.cells&&Q0z q ow)=true:=hp
     simp only [Bool.and_eq_true] at d
     show Xv τ S' w (LV.pure (Ty.sl eT e) xs::q) (true::ow) (c::cr) (Qr β (l::Zs (Qg r ow)))
     refine ⟨c,cr,(blk (β l)).toList,_,rfl,by simp [Qr],?_,Q5x hob hS j h2 i.2 d.2 hr⟩
     have hc:β l=c:=h1.1
     subst hc
     exact ⟨o,⟨cells,f,x.frame hS (Nat.le_refl _) (fun _ _ _=>rfl)⟩,rfl⟩
theorem Q1x {o:Lab→Option Ob} {t:Ty} {vs:List LV} {x:t.den} (h:Q14 o t vs=some x):Q7b o vs (lvs t x):=by
 unfold Q14 at h
 split at h
 case h_2=>cases h
 case h_1 y he=>
 have:=sI h
 subst this
 obtain ⟨v1,e,hd⟩:=Qc9 he
 rw [List.append_nil] at e
 subst e
 exact hd
theorem Q4u (h:Rel P tab.ty N w0 F S β st a w) {S':Nat→Prop} (hS:∀ k,S k→S' k) {T:TypeId} {t:Ty} {own:List Bool} {l:Lab} {x:t.den} {vs:List LV} {v:Value}
  (hb:Q5s (Q0 st.objs) T t own l=some (x,vs)) (hv:Qm P tab.ty S β w (.ptr l 0) v) (hr:∀ m∈Qj (Qg vs own),∀ k,blk (β m)=some k→S' k) :
  Q1r tab.ty S' w t own x v (Qr β (l::Zs (Qg vs own)))∧v=β l∧Q0 st.objs l=some (.box T vs):=by
 unfold Q5s at hb
 cases hol:Q0 st.objs l with
 | none=>rw [hol] at hb;cases hb
 | some ob=>
  rw [hol] at hb
  cases ob<;>try (cases hb;done)
  case box T' vs'=>
  cases hq:(Nat.beq T' T&&Q3a (Q0 st.objs) (Qg vs' own)) with
  | false=>simp only [hq] at hb;cases hb
  | true=>
   simp only [hq,cond_true] at hb
   obtain ⟨y,hy,hb⟩:=bE hb
   cases hp:Q0z (lvs t y) own with
   | false=>rw [hp] at hb;cases hb
   | true=>
    rw [hp] at hb
    obtain ⟨e1,e2⟩:=Prod.mk.inj (sI hb)
    subst e1;subst e2
    simp only [Bool.and_eq_true] at hq
    have:=Nat.eq_of_beq_eq_true hq.1
    subst this
    obtain ⟨b,e,cs,hβ,hh,c⟩:=h.objs l _ hol
    obtain ⟨b',d,hv⟩:=hv
    rw [hβ] at d
    simp only [Value.pointer.injEq,Option.some.injEq,Addr.mk.injEq] at d
    obtain ⟨rfl,_⟩:=d
    refine ⟨⟨b,e,cs,_,hv,hh,?_,Q5x h.objs hS (Q1x hy) c hq.2 hp hr⟩,by rw [hβ,hv],rfl⟩
    simp [Qr,hβ,blk]
end
end Go.PE
namespace Go.PE
section
variable {P:Program} {τ:TypeId→Option Ty} {tab:Tab} {N:NN} {w0:World} {F:FF} {S:Nat→Prop} {β:Lab→Value} {st:St} {a:Act} {w:World}
def Qem:LV→Bool
 | .pure t _=>t.flat
 | _=>false
theorem Qgm:∀ {t:Ty} (x:t.den),t.flat=true→(lvs t x).all Qem=true:=by
 intro t
 induction t with
 | pair a b c d=>
  intro x h
  simp only [Ty.flat,Bool.and_eq_true] at h
  simp only [lvs,List.all_append,Bool.and_eq_true]
  exact ⟨c x.1 h.1,d x.2 h.2⟩
 | sl n e ih=>intro x h;cases h
 | unit=>intro x h;rfl
 | int k=>intro x h;rfl
 | bool=>intro x h;rfl
 | str=>intro x h;rfl
 | ifc=>intro x h;rfl
def Xf (τ:TypeId→Option Ty) (S:Nat→Prop) (w:World):List LV→List Value→Prop
 | [],cs=>cs=[]
 | .pure t x::r,cs=>∃ c cr,cs=c::cr∧Rep τ S w t x [c]∧Xf τ S w r cr
 | _::_,_=>False
theorem Xf.append_inv:∀ {xs ys:List LV} {cs:List Value},Xf τ S w (xs++ys) cs→∃ c1 c2,cs=c1++c2∧Xf τ S w xs c1∧Xf τ S w ys c2
 | [],ys,cs,h=>⟨[],cs,rfl,rfl,h⟩
 | v::r,ys,cs,h=>by
  cases v<;>try exact h.elim
  case pure t x=>
  obtain ⟨c,cr,rfl,h1,h2⟩:=h
  obtain ⟨c1,c2,rfl,h3,h4⟩:=Xf.append_inv h2
  exact ⟨c::c1,c2,rfl,⟨c,c1,rfl,h1,h3⟩,h4⟩
theorem Q4i:∀ {t:Ty} {x:t.den} {cs:List Value},Xf τ S w (lvs t x) cs→Rep τ S w t x cs:=by
 have d:∀ {t:Ty} {x:t.den} {cs:List Value},lvs t x=[.pure t x]→Xf τ S w (lvs t x) cs→Rep τ S w t x cs:=by
  intro t x cs e h
  rw [e] at h
  obtain ⟨c,cr,rfl,h1,h2⟩:=h
  have h2:cr=[]:=h2
  subst h2
  exact h1
 intro t
 induction t with
 | pair a b f g=>
  intro x cs h
  obtain ⟨c1,c2,rfl,h1,h2⟩:=Xf.append_inv h
  exact ⟨c1,c2,rfl,f h1,g h2⟩
 | unit=>intro x cs h;exact h
 | int k=>intro x cs h;exact d rfl h
 | bool=>intro x cs h;exact d rfl h
 | str=>intro x cs h;exact d rfl h
 | ifc=>intro x cs h;exact d rfl h
 | sl n e ih=>intro x cs h;exact d rfl h
theorem Xv.flat:∀ {ps:List LV} {own:List Bool} {cs:List Value} {B:List Nat},ps.all Qem=true→Xv τ S w ps own cs B→Xf τ S w ps cs∧B=[]
 | [],own,cs,B,_,h=>h
 | v::r,own,cs,B,hf,h=>by
  obtain ⟨c,cr,B1,B2,rfl,rfl,h1,h2⟩:=h
  simp only [List.all_cons,Bool.and_eq_true] at hf
  obtain ⟨g1,rfl⟩:=Xv.flat hf.2 h2
  cases v<;>try (cases hf.1;done)
  case pure t x=>
  have:Rep τ S w t x [c]∧B1=[]:=by
   cases hb:own.headD false with
   | false=>rw [hb] at h1;exact h1
   | true=>
    rw [hb] at h1
    cases t<;>first | exact h1 | (cases hf.1;done)
  obtain ⟨g2,rfl⟩:=this
  exact ⟨⟨c,cr,rfl,g2,g1⟩,rfl⟩
theorem Q2e.flat {k:RK} {x:k.t.den} {v:Value} {B:List Nat} {S':Nat→Prop} {w':World} (hf:Q0i k=true) (h:Q2e τ S w k x v B):Q0k τ S' w' k.t x v:=by
 unfold Q0i at hf
 simp only [Bool.and_eq_true] at hf
 unfold Q2e at h
 cases hp:k.ptr with
 | some T=>rw [hp] at hf;exact absurd hf.2 (by simp)
 | none=>
  rw [hp] at h
  obtain ⟨cs,h1,h2,h3⟩:=h
  have hr:=(Q4i (Xv.flat (Qgm x hf.1) h3).1).flat (S':=S') (w':=w') hf.1
  cases ha:k.t.isAgg with
  | true=>exact .inl ⟨ha,cs,h1 ha,hr⟩
  | false=>have:=h2 ha;subst this;exact .inr ⟨ha,hr⟩
theorem Q0k.cast {t t':Ty} {x:t.den} {y:t'.den} {v:Value} (h:Zi t t' x=some y) (hr:Q0k τ S w t x v):Q0k τ S w t' y v:=by
 obtain ⟨e,he⟩:=Z0 h
 subst e;subst he;exact hr
theorem Q4l {S':Nat→Prop} {w':World}:∀ {rs:List RK} {z:RDs rs} {ts:List Ty} {r:Zj ts} {vs:List Value} {B:List Nat},Qez rs z ts=some r→rs.all Q0i=true→Xc τ S w rs z vs B→Xs τ S' w' ts r vs
 | [],z,[],r,vs,B,h,hf,hr=>hr.1
 | [],z,_::_,r,vs,B,h,hf,hr=>by cases h
 | k::q,z,[],r,vs,B,h,hf,hr=>by cases h
 | k::q,z,t::ts,r,vs,B,h,hf,hr=>by
  obtain ⟨v,vr,B1,B2,rfl,rfl,h1,h2⟩:=hr
  simp only [List.all_cons,Bool.and_eq_true] at hf
  obtain ⟨y,hy,h⟩:=bE h
  obtain ⟨z',hz,h⟩:=bE h
  have:=sI h
  subst this
  exact ⟨v,vr,rfl,Q0k.cast hy (h1.flat hf.1),Q4l hz hf.2 h2⟩
theorem Q91 {P:Program}:∀ {ps:List PK} {ts:List Ty} {x:Zj ts} {y:PDs ps} {vs:List Value},Qgy ps ts x=some y→Xs τ S w ts x vs→X5 τ P S w ps y vs []
 | [],[],x,y,vs,h,hv=>⟨hv,rfl⟩
 | [],_::_,x,y,vs,h,hv=>by cases h
 | .val t::r,[],x,y,vs,h,hv=>by cases h
 | .box _ _ _::r,[],x,y,vs,h,hv=>by cases h
 | .rbox _::r,[],x,y,vs,h,hv=>by cases h
 | .fn _ _::r,[],x,y,vs,h,hv=>by cases h
 | .own _ _::r,[],x,y,vs,h,hv=>by cases h
 | .ownc _ _::r,[],x,y,vs,h,hv=>by cases h
 | .ownh _ _::r,[],x,y,vs,h,hv=>by cases h
 | .io _ _::r,[],x,y,vs,h,hv=>by cases h
 | .box _ _ _::r,_::_,x,y,vs,h,hv=>by cases h
 | .rbox _::r,_::_,x,y,vs,h,hv=>by cases h
 | .fn _ _::r,_::_,x,y,vs,h,hv=>by cases h
 | .own _ _::r,_::_,x,y,vs,h,hv=>by cases h
 | .ownc _ _::r,_::_,x,y,vs,h,hv=>by cases h
 | .ownh _ _::r,_::_,x,y,vs,h,hv=>by cases h
 | .io _ _::r,_::_,x,y,vs,h,hv=>by cases h
 | .val t::r,t'::q,x,y,vs,h,hv=>by
  obtain ⟨y1,h1,h⟩:=bE h
  obtain ⟨z,h2,h⟩:=bE h
  have:=sI h
  subst this
  obtain ⟨v,vr,rfl,h3,h4⟩:=hv
  exact ⟨v,vr,[],[],rfl,rfl,⟨Q0k.cast h1 h3,rfl⟩,Q91 h2 h4⟩
theorem Q4t.plain {f:FuncId} {e:Ent} {ps rs:List Ty} (hG:Q4t τ P f e) (hp:Q2m e ps rs=true):Q3c τ P S w ps rs (Q5g e ps rs) (.func (.func f) #[] #[]):=by
 unfold Q2m at hp
 simp only [Bool.and_eq_true] at hp
 have d:=Q5w hp.1.2
 refine ⟨fun t ht=>?_,f,#[],rfl,hG.1,fun w' S' x vals r h1 h2 h3 h4 h5 h6=>?_⟩
 ·rw [← d] at ht
  obtain ⟨k,hk,rfl⟩:=List.mem_map.1 ht
  have:=List.all_eq_true.1 hp.2 k hk
  unfold Q0i at this
  simp only [Bool.and_eq_true] at this
  exact this.1
 ·unfold Q5g at h6
  obtain ⟨y,hy,h6⟩:=bE h6
  obtain ⟨z,hz,h6⟩:=bE h6
  rw [Array.append_empty]
  refine Calls.mono (hG.2 w' S' y vals [] z h4 (Q91 hy h5) List.nodup_nil (fun k hk=>by cases hk) hz) (fun ex g b=>?_)
  obtain ⟨vs,S1,B1,B2,he,a,_,_,_,_,_,c⟩:=b
  exact ⟨vs,he,Q4l h6 hp.2 a,c.mono (fun k hk=>by cases hk)⟩
theorem Ji.cast {t t':Ty} {x:t.den} {y:t'.den} {v:Value} (h:Zi t t' x=some y) (hr:Ji τ S w t x v):Ji τ S w t' y v:=by
 obtain ⟨e,he⟩:=Z0 h
 subst e;subst he;exact hr
theorem Qe6 {ps rs a b:List Ty} {g:Zj ps→Option (Zj rs)} {g':Zj a→Option (Zj b)} {v:Value} (h:Qdm ps rs a b g=some g') (hv:Q3c τ P S w ps rs g v):Q3c τ P S w a b g' v:=by
 unfold Qdm at h
 split at h
 ·rename_i h1 h2
  have e1:=Q5w h1
  have e2:=Q5w h2
  subst e1;subst e2
  have:=sI h
  subst this
  exact hv
 ·cases h
theorem Q2d (h:Rel P tab.ty N w0 F S β st a w) {S':Nat→Prop} (hS:∀ k,S k→S' k) {eT:TypeId} {e:Ty} (b:0<e.cells) {lv:LV} {xs:List e.den} {ls:List Lab} {v:Value}
  (ho:Q0h (Q0 st.objs) eT e lv=some (xs,ls)) (hv:Qm P tab.ty S β w lv v):Q18 tab.ty S' w eT e xs v (Qr β ls):=by
 unfold Q0h at ho
 split at ho
 ·obtain ⟨rfl,rfl⟩:=Prod.mk.inj (sI ho)
  have hv:v=.slice none 0 0:=hv
  subst hv
  exact ⟨b,⟨[],World.ownsRow_nil w 0 eT e.cells,rfl⟩,rfl⟩
 ·rename_i l
  split at ho
  case h_2=>cases ho
  case h_1 eT' e' xs' hol=>
  cases hq:Nat.beq eT' eT with
  | false=>rw [hq] at ho;cases ho
  | true=>
   have e1:=Nat.eq_of_beq_eq_true hq
   subst e1
   rw [hq] at ho
   simp only [cond_true] at ho
   obtain ⟨ys,f,ho⟩:=bE ho
   obtain ⟨rfl,rfl⟩:=Prod.mk.inj (sI ho)
   obtain ⟨e2,e3⟩:=Z0 f
   injection e2 with _ e4
   subst e4
   have e3:xs'=ys:=e3
   subst e3
   obtain ⟨hp,cells,c,d⟩:=h.objs l _ hol
   obtain ⟨hv,_⟩:=hv
   refine ⟨b,⟨cells,by rw [← hv];exact c,d.frame hS (Nat.le_refl _) (fun _ _ _=>rfl)⟩,?_⟩
   simp [Qr,hv]
 ·cases ho
theorem Qbt (h:Rel P tab.ty N w0 F S β st a w) {S':Nat→Prop} (hS:∀ k,S k→S' k) {eT:TypeId} {e:Ty} (d:0<e.cells) {lv:LV} {xs:List (Option e.den)} {ls:List Lab} {v:Value}
  (ho:Q5i (Q0 st.objs) eT e lv=some (xs,ls)) (hv:Qm P tab.ty S β w lv v):Qeg tab.ty S' w eT e xs v (Qr β ls):=by
 unfold Q5i at ho
 split at ho
 case h_2=>cases ho
 case h_1 l=>
 obtain ⟨hv,_⟩:=hv
 split at ho
 case h_3=>cases ho
 case h_1 eT' e' xs' hol=>
  cases hq:Nat.beq eT' eT with
  | false=>rw [hq] at ho;cases ho
  | true=>
   have e1:=Nat.eq_of_beq_eq_true hq
   subst e1
   rw [hq] at ho
   simp only [cond_true] at ho
   obtain ⟨ys,o,ho⟩:=bE ho
   obtain ⟨rfl,rfl⟩:=Prod.mk.inj (sI ho)
   obtain ⟨e2,e3⟩:=Z0 o
   injection e2 with _ e4
   subst e4
   have e3:xs'=ys:=e3
   subst e3
   obtain ⟨hp,cells,f,j⟩:=h.objs l _ hol
   refine ⟨d,?_,by simp [Qr,hv]⟩
   rw [← hv]
   rcases f.2 with ⟨e5,e6⟩ | ⟨g,cap,b,e5,_,hh,e6,e7,e8,e9⟩
   ·have hn:(List.map some (xs':List e'.den)).length=0:=by rw [List.length_map];exact e6
    exact ⟨none,0,by rw [e5,hn],by rw [hn];exact Nat.le_refl _,by simp [maxLen],.inl ⟨rfl,rfl⟩⟩
   ·refine ⟨some ⟨g,0,none⟩,cap,by rw [e5];simp,by simpa using e6,e7,.inr ⟨g,b,rfl,hh,e8,?_⟩⟩
    have:=Q8.of_row (j.frame hS (Nat.le_refl _) (fun _ _ _=>rfl)) (cs:=b.toList) (by rw [j.length];exact e9) 0
    simpa using this
 case h_2 eT' e' ys n0 ex hol=>
  cases hq:Nat.beq eT' eT with
  | false=>rw [hq] at ho;cases ho
  | true=>
   rw [hq] at ho
   have e1:=Nat.eq_of_beq_eq_true hq
   subst e1
   simp only [cond_true] at ho
   obtain ⟨zs,p,ho⟩:=bE ho
   obtain ⟨rfl,rfl⟩:=Prod.mk.inj (sI ho)
   obtain ⟨e2,e3⟩:=Qd3 p
   subst e2
   have e3:ys=zs:=e3
   subst e3
   obtain ⟨hp,A,c,m,k1,k2,k3,k4,k5⟩:=h.objs l _ hol
   refine ⟨d,⟨A,c,?_,?_,k3,?_⟩,by simp [Qr,hv]⟩
   ·rw [← hv,m,Q1d]
   ·rw [Q1d];omega
   ·rcases k5 with hn | ⟨g,b,rfl,hh,n,hm⟩
    ·exact .inl hn
    ·exact .inr ⟨g,b,rfl,hh,n,fun i x hi=>(hm i x (Q7p _ _ _ _ hi)).mono hS⟩
theorem Qfc {o:Lab→Option Ob} {eT:TypeId} {e:Ty} {lv:LV} {z:List e.den × List Lab} (h:Qbp o eT e lv=some z):Q0h o eT e lv=some z:=by
 unfold Qbp at h
 split at h
 ·exact h
 ·cases h
def Q15 (P:Program) (τ:TypeId→Option Ty) (S:Nat→Prop) (β:Lab→Value) (w:World):List SV→List Value→Prop
 | [],vs=>vs=[]
 | x::r,vs=>∃ v vr,vs=v::vr∧Qf P τ S β w x v∧Q15 P τ S β w r vr
theorem Qam {Γ:Ctx} (hΓ:Je tab.ty P Γ) (h:Rel P tab.ty N w0 F S β st a w) {S':Nat→Prop} (hS:∀ k,S k→S' k) (i:∀ k,S' k→k<w.heap.size) :
  ∀ {ps:List PK} {svs:List SV} {vals:List Value} {x:PDs ps} {own rd:List Lab},Zv Γ (Q0 st.objs) ps svs=some (x,own,rd)→Q15 P tab.ty S β w svs vals →
   (∀ l∈rd,∀ k,blk (β l)=some k→S' k)→X5 tab.ty P S' w ps x vals (Qr β own):=by
 intro ps
 induction ps with
 | nil=>
  intro svs vals x own rd he hv hr
  cases svs with
  | cons _ _=>cases he
  | nil=>
   have:=sI he
   obtain ⟨_,e1⟩:=Prod.mk.inj this
   obtain ⟨e1,_⟩:=Prod.mk.inj e1
   subst e1
   exact ⟨hv,rfl⟩
 | cons p r ih=>
  intro svs vals x own rd he hv hr
  cases svs with
  | nil=>cases p<;>cases he
  | cons sv q=>
   obtain ⟨v,vr,rfl,h1,h2⟩:=hv
   cases p with
   | val t=>
    cases sv<;>try (cases he;done)
    case cv c=>
    obtain ⟨y,hy,he⟩:=bE he
    obtain ⟨z,hz,he⟩:=bE he
    have he:=sI he
    obtain ⟨e1,e2⟩:=Prod.mk.inj he
    obtain ⟨e2,e3⟩:=Prod.mk.inj e2
    subst e1;subst e2;subst e3
    refine ⟨v,vr,[],_,rfl,rfl,⟨(Q65 h.objs hy h1).mono (fun k hk=>?_),rfl⟩,ih hz h2 (fun l hl=>hr l (List.mem_append.2 (.inr hl)))⟩
    rcases hk with hk | ⟨l,hl,hk⟩
    ·exact hS k hk
    ·exact hr l (List.mem_append.2 (.inl hl)) k hk
   | own eT e=>
    cases sv<;>try (cases he;done)
    case cv c=>
    cases c<;>try (cases he;done)
    case one u=>
    have he:(bif Nat.blt 0 e.cells then (Q0h (Q0 st.objs) eT e u).bind fun x=>(Zv Γ (Q0 st.objs) r q).bind fun z=>some ((x.1,z.1),x.2++z.2.1,z.2.2) else none)=some (x,own,rd):=he
    cases hp:Nat.blt 0 e.cells with
    | false=>rw [hp] at he;cases he
    | true=>
     rw [hp] at he
     obtain ⟨⟨y,ls⟩,hy,he⟩:=bE he
     obtain ⟨z,hz,he⟩:=bE he
     have he:=sI he
     obtain ⟨e1,e2⟩:=Prod.mk.inj he
     obtain ⟨e2,e3⟩:=Prod.mk.inj e2
     subst e1;subst e2;subst e3
     refine ⟨v,vr,_,_,rfl,Qx β _ _,Q2d h hS (Q2.1 hp) hy h1,ih hz h2 hr⟩
   | ownc eT e=>
    cases sv<;>try (cases he;done)
    case cv c=>
    cases c<;>try (cases he;done)
    case one u=>
    have he:(bif Nat.blt 0 e.cells then (Q0h (Q0 st.objs) eT e u).bind fun x=>(Zv Γ (Q0 st.objs) r q).bind fun z=>some ((x.1,z.1),x.2++z.2.1,z.2.2) else none)=some (x,own,rd):=he
    cases hp:Nat.blt 0 e.cells with
    | false=>rw [hp] at he;cases he
    | true=>
     rw [hp] at he
     obtain ⟨⟨y,ls⟩,hy,he⟩:=bE he
     obtain ⟨z,hz,he⟩:=bE he
     have he:=sI he
     obtain ⟨e1,e2⟩:=Prod.mk.inj he
     obtain ⟨e2,e3⟩:=Prod.mk.inj e2
     subst e1;subst e2;subst e3
     refine ⟨v,vr,_,_,rfl,Qx β _ _,Q2d h hS (Q2.1 hp) hy h1,ih hz h2 hr⟩
   | ownh eT e=>
    cases sv<;>try (cases he;done)
    case cv c=>
    cases c<;>try (cases he;done)
    case one u=>
    have he:(bif Nat.blt 0 e.cells then (Q5i (Q0 st.objs) eT e u).bind fun x=>(Zv Γ (Q0 st.objs) r q).bind fun z=>some ((x.1,z.1),x.2++z.2.1,z.2.2) else none)=some (x,own,rd):=he
    cases hp:Nat.blt 0 e.cells with
    | false=>rw [hp] at he;cases he
    | true=>
     rw [hp] at he
     obtain ⟨⟨y,ls⟩,hy,he⟩:=bE he
     obtain ⟨z,hz,he⟩:=bE he
     have he:=sI he
     obtain ⟨e1,e2⟩:=Prod.mk.inj he
     obtain ⟨e2,e3⟩:=Prod.mk.inj e2
     subst e1;subst e2;subst e3
     refine ⟨v,vr,_,_,rfl,Qx β _ _,Qbt h hS (Q2.1 hp) hy h1,ih hz h2 hr⟩
   | io eT e=>
    cases sv<;>try (cases he;done)
    case cv c=>
    cases c<;>try (cases he;done)
    case one u=>
    have he:(bif Nat.blt 0 e.cells then (Qbp (Q0 st.objs) eT e u).bind fun x=>(Zv Γ (Q0 st.objs) r q).bind fun z=>some ((x.1,z.1),x.2++z.2.1,z.2.2) else none)=some (x,own,rd):=he
    cases hp:Nat.blt 0 e.cells with
    | false=>rw [hp] at he;cases he
    | true=>
     rw [hp] at he
     obtain ⟨⟨y,ls⟩,hy,he⟩:=bE he
     obtain ⟨z,hz,he⟩:=bE he
     have he:=sI he
     obtain ⟨e1,e2⟩:=Prod.mk.inj he
     obtain ⟨e2,e3⟩:=Prod.mk.inj e2
     subst e1;subst e2;subst e3
     refine ⟨v,vr,_,_,rfl,Qx β _ _,Q2d h hS (Q2.1 hp) (Qfc hy) h1,ih hz h2 hr⟩
   | box T t ow=>
    cases sv<;>try (cases he;done)
    case cv c=>
    cases c<;>try (cases he;done)
    case one u=>
    cases u<;>try (cases he;done)
    case ptr l off=>
    cases off with
    | succ n=>cases he
    | zero=>
     obtain ⟨⟨y,vs⟩,hy,he⟩:=bE he
     obtain ⟨z,hz,he⟩:=bE he
     have he:=sI he
     obtain ⟨e1,e2⟩:=Prod.mk.inj he
     obtain ⟨e2,e3⟩:=Prod.mk.inj e2
     subst e1;subst e2;subst e3
     have hb:=Q4u h hS hy h1 (fun m hm=>hr m (List.mem_append.2 (.inl hm)))
     refine ⟨v,vr,_,_,rfl,?_,hb.1,ih hz h2 (fun m hm=>hr m (List.mem_append.2 (.inr hm)))⟩
     exact Qx β (l::Zs (Qg vs ow)) z.2.1
   | rbox t=>
    cases sv<;>try (cases he;done)
    case ep t' y=>
    obtain ⟨y',hy,he⟩:=bE he
    obtain ⟨z,hz,he⟩:=bE he
    have he:=sI he
    obtain ⟨e1,e2⟩:=Prod.mk.inj he
    have e3:z.2.1=own:=congrArg Prod.fst e2
    have e4:z.2.2=rd:=congrArg Prod.snd e2
    subst e1;subst e3;subst e4
    exact ⟨v,vr,[],_,rfl,rfl,⟨Ji.cast hy (Ji.frame hS (Nat.le_refl _) (fun _ _ _=>rfl) h1),rfl⟩,ih hz h2 hr⟩
   | fn b d=>
    cases sv<;>try (cases he;done)
    case cv c=>
    cases c<;>try (cases he;done)
    case one u=>
    cases u<;>try (cases he;done)
    case clo ps1 rs1 g=>
     obtain ⟨y',hy,he⟩:=bE he
     obtain ⟨z,hz,he⟩:=bE he
     have he:=sI he
     obtain ⟨e1,e2⟩:=Prod.mk.inj he
     have e3:z.2.1=own:=congrArg Prod.fst e2
     have e4:z.2.2=rd:=congrArg Prod.snd e2
     subst e1;subst e3;subst e4
     refine ⟨v,vr,[],_,rfl,rfl,⟨Qe6 hy (Q3c.frame hS (Nat.le_refl _) (fun _ _ _=>rfl) h.sb h1),rfl⟩,ih hz h2 hr⟩
    case gfn f=>
     obtain ⟨e,hy,he⟩:=bE he
     have he:(bif Q2m e b d then (Zv Γ (Q0 st.objs) r q).bind fun z=>some ((Q5g e b d,z.1),z.2) else none)=some (x,own,rd):=he
     cases hp:Q2m e b d with
     | false=>rw [hp] at he;cases he
     | true=>
      rw [hp] at he
      obtain ⟨z,hz,he⟩:=bE he
      have he:=sI he
      obtain ⟨e1,e2⟩:=Prod.mk.inj he
      have e3:z.2.1=own:=congrArg Prod.fst e2
      have e4:z.2.2=rd:=congrArg Prod.snd e2
      subst e1;subst e3;subst e4
      have hv:v=.func (.func f) #[] #[]:=h1
      subst hv
      exact ⟨_,vr,[],_,rfl,rfl,⟨(hΓ f e hy).plain hp,rfl⟩,ih hz h2 hr⟩
end
end Go.PE
namespace Go.PE
section
variable {P:Program} {τ:TypeId→Option Ty} {tab:Tab} {N:NN} {w0:World} {F:FF} {S:Nat→Prop} {β:Lab→Value} {st:St} {a:Act} {w:World}
def Q6t (vals:List (Lab × Value)):List Nat:=vals.flatMap fun p=>(blk p.2).toList
def Jk (P:Program) (τ:TypeId→Option Ty) (S:Nat→Prop) (w:World) (u:Upd) (vals:List (Lab × Value)) (B:List Nat) (G:(Lab→Value)→Prop):Prop:=
 vals.map (·.1)=u.map (·.1)∧Q6t vals=B∧∀ β:Lab→Value,(∀ p∈vals,β p.1=p.2)→(∀ q∈u,Z7 P τ S β w q.2 (β q.1))∧G β
theorem Jk.append {u1 u2:Upd} {v1 v2:List (Lab × Value)} {B1 B2:List Nat} {G1 G2:(Lab→Value)→Prop} (h1:Jk P τ S w u1 v1 B1 G1) (h2:Jk P τ S w u2 v2 B2 G2) :
  Jk P τ S w (u1++u2) (v1++v2) (B1++B2) (fun β=>G1 β∧G2 β):=by
 obtain ⟨a1,a2,a3⟩:=h1
 obtain ⟨b1,b2,b3⟩:=h2
 refine ⟨by simp [a1,b1],by rw [← a2,← b2];simp [Q6t],fun β hβ=>?_⟩
 have c1:=a3 β (fun p hp=>hβ p (List.mem_append.2 (.inl hp)))
 have c2:=b3 β (fun p hp=>hβ p (List.mem_append.2 (.inr hp)))
 exact ⟨fun q hq=>(List.mem_append.1 hq).elim (c1.1 q) (c2.1 q),c1.2,c2.2⟩
theorem Jk.mono {u:Upd} {v:List (Lab × Value)} {B:List Nat} {G1 G2:(Lab→Value)→Prop} (h:Jk P τ S w u v B G1) (hg:∀ β,G1 β→G2 β):Jk P τ S w u v B G2:=
 ⟨h.1,h.2.1,fun β hβ=>⟨(h.2.2 β hβ).1,hg β (h.2.2 β hβ).2⟩⟩
theorem Jk.none {G:(Lab→Value)→Prop} (hg:∀ β,G β):Jk P τ S w [] [] [] G:=⟨rfl,rfl,fun β _=>⟨(fun q hq=>by cases hq),hg β⟩⟩
theorem Q67 (d j:Nat) (v:LV) (r:List LV) (own:List Bool):Ze d j (v::r) own =
  (match own.headD false,v with
   | true,.pure (.sl eT e) xs=>(.ref (d,j)::(Ze d (j+1) r own.tail).1,((d,j),.row eT e xs)::(Ze d (j+1) r own.tail).2)
   | _,v=>(v::(Ze d (j+1) r own.tail).1,(Ze d (j+1) r own.tail).2)):=by
 cases own with
 | nil=>cases v<;>rfl
 | cons b q=>
  cases b with
  | false=>cases v<;>first | rfl | (rename_i t x;cases t<;>rfl)
  | true=>cases v<;>first | rfl | (rename_i t x;cases t<;>rfl)
theorem Q3o:∀ {ps:List LV} {own:List Bool} {cs:List Value} {B:List Nat} (d j:Nat),Xv τ S w ps own cs B →
  ∃ vals,Jk P τ S w (Ze d j ps own).2 vals B (fun β=>Q5 P τ S β w (Ze d j ps own).1 cs)∧∀ p∈vals,p.1.1=d
 | [],own,cs,B,d,j,h=>by
  obtain ⟨rfl,rfl⟩:=h
  have e:Ze d j [] own=([],[]):=by cases own<;>rfl
  rw [e]
  exact ⟨[],Jk.none (fun β=>rfl),fun p hp=>by cases hp⟩
 | v::r,own,cs,B,d,j,h=>by
  obtain ⟨c,cr,B1,B2,rfl,rfl,h1,h2⟩:=h
  obtain ⟨vals,hf,hd⟩:=Q3o d (j+1) h2
  rw [Q67]
  have plain:∀ (t:Ty) (x:t.den),Rep τ S w t x [c]→∃ vals,Jk P τ S w (Ze d (j+1) r own.tail).2 vals ([]++B2) (fun β=>Q5 P τ S β w (.pure t x::(Ze d (j+1) r own.tail).1) (c::cr))∧∀ p∈vals,p.1.1=d:=by
   intro t x hr
   exact ⟨vals,hf.mono (fun β hg=>⟨c,cr,rfl,hr,hg⟩),hd⟩
  cases hb:own.headD false with
  | false=>
   rw [hb] at h1
   cases v<;>try exact h1.elim
   case pure t x=>obtain ⟨h1,rfl⟩:=h1;exact plain t x h1
  | true=>
   rw [hb] at h1
   cases v<;>try exact h1.elim
   case pure t x=>
   cases t<;>try (obtain ⟨h1,rfl⟩:=h1;exact plain _ x h1)
   case sl eT e=>
   obtain ⟨b,⟨cells,a,f⟩,rfl⟩:=h1
   refine ⟨((d,j),c)::vals,⟨?_,?_,fun β hβ=>?_⟩,fun p hp=>?_⟩
   ·simp [hf.1]
   ·rw [← hf.2.1];simp [Q6t]
   ·have h0:=hβ ((d,j),c) (List.mem_cons_self ..)
    have hr:=hf.2.2 β (fun p hp=>hβ p (List.mem_cons_of_mem _ hp))
    refine ⟨fun q hq=>?_,⟨c,cr,rfl,⟨h0,Zy a⟩,hr.2⟩⟩
    rcases List.mem_cons.1 hq with rfl | hq
    ·show Z7 P τ S β w (.row eT e x) (β (d,j))
     rw [h0]
     exact ⟨b,cells,a,f⟩
    ·exact hr.1 q hq
   ·rcases List.mem_cons.1 hp with rfl | hp
    ·rfl
    ·exact hd p hp
theorem Q7x {t:Ty} {own:List Bool} {x:t.den} {v:Value} {B:List Nat} (d j:Nat) (l:Lab) (T:TypeId) (h:Q1r τ S w t own x v B) :
  ∃ vals,Jk P τ S w ((l,.box T (Ze d j (lvs t x) own).1)::(Ze d j (lvs t x) own).2) ((l,v)::vals) B (fun β=>∃ b,β l=.pointer (some ⟨b,0,none⟩)∧v=.pointer (some ⟨b,0,none⟩))∧∀ p∈vals,p.1.1=d:=by
 obtain ⟨b,T',cs,B',rfl,hh,rfl,ho⟩:=h
 obtain ⟨vals,hf,hd⟩:=Q3o (P:=P) d j ho
 refine ⟨vals,⟨by simp [hf.1],by rw [← hf.2.1];simp [Q6t,blk],fun β hβ=>?_⟩,hd⟩
 have h0:=hβ (l,_) (List.mem_cons_self ..)
 have hr:=hf.2.2 β (fun p hp=>hβ p (List.mem_cons_of_mem _ hp))
 refine ⟨fun q hq=>?_,b,h0,rfl⟩
 rcases List.mem_cons.1 hq with rfl | hq
 ·exact ⟨b,T',cs,h0,hh,hr.2⟩
 ·exact hr.1 q hq
theorem Qhy:∀ {t:Ty} {x:t.den},t.isAgg=false→∃ u,lvs t x=[u]:=by
 intro t x h
 cases t<;>first | exact ⟨_,rfl⟩ | cases h
theorem Zu.len:∀ {cs:List CV} {vs:List Value},Zu P τ S β w cs vs→cs.length=vs.length
 | [],vs,h=>by have h:vs=[]:=h;rw [h];rfl
 | c::r,vs,h=>by obtain ⟨v,vr,rfl,_,h2⟩:=h;simp [Zu.len h2]
theorem Qdx {k:RK} {x:k.t.den} {v:Value} {B:List Nat} (d j:Nat) (h:Q2e τ S w k x v B) :
  ∃ vals,Jk P τ S w (Q5h d j k x).2 vals B (fun β=>Xm P τ S β w (Q5h d j k x).1 v)∧∀ p∈vals,p.1.1=d:=by
 unfold Q2e at h
 cases hp:k.ptr with
 | some T=>
  rw [hp] at h
  obtain ⟨vals,hf,hd⟩:=Q7x (P:=P) d (j+1) (d,j) T h
  have e:Q5h d j k x=(.one (.ptr (d,j) 0),((d,j),.box T (Ze d (j+1) (lvs k.t x) k.own).1)::(Ze d (j+1) (lvs k.t x) k.own).2):=by
   unfold Q5h;rw [hp]
  rw [e]
  refine ⟨_,hf.mono (fun β hg=>?_),fun p hp=>?_⟩
  ·obtain ⟨b,h1,h2⟩:=hg
   exact ⟨b,h1,h2⟩
  ·rcases List.mem_cons.1 hp with rfl | hp
   ·rfl
   ·exact hd p hp
 | none=>
  rw [hp] at h
  obtain ⟨cs,h1,h2,h3⟩:=h
  obtain ⟨vals,hf,hd⟩:=Q3o (P:=P) d j h3
  cases ha:k.t.isAgg with
  | true=>
   have e:Q5h d j k x=(.agg (Ze d j (lvs k.t x) k.own).1,(Ze d j (lvs k.t x) k.own).2):=by
    unfold Q5h;rw [hp,ha]
   rw [e]
   exact ⟨vals,hf.mono (fun β hg=>⟨cs,h1 ha,hg⟩),hd⟩
  | false=>
   have f:=h2 ha
   subst f
   have e:∃ lv,(Ze d j (lvs k.t x) k.own).1=[lv]:=by
    have:=(Qhy (x:=x) ha)
    obtain ⟨u,hu⟩:=this
    rw [hu,Q67]
    split
    ·exact ⟨_,by cases k.own.tail<;>rfl⟩
    ·exact ⟨_,by cases k.own.tail<;>rfl⟩
   obtain ⟨lv,a⟩:=e
   have e:Q5h d j k x=(.one lv,(Ze d j (lvs k.t x) k.own).2):=by
    unfold Q5h;rw [hp,ha];simp only [a]
   rw [e]
   refine ⟨vals,hf.mono (fun β hg=>?_),hd⟩
   rw [a] at hg
   obtain ⟨c,cr,e1,hc,_⟩:=hg
   have:=List.cons.inj e1
   rw [this.1]
   exact hc
theorem Q6d:∀ {rs:List RK} {x:RDs rs} {vs:List Value} {B:List Nat} (d j:Nat),Xc τ S w rs x vs B →
  ∃ vals,Jk P τ S w (Q8m d j rs x).2 vals B (fun β=>Zu P τ S β w (Q8m d j rs x).1 vs)∧∀ p∈vals,p.1.1=d
 | [],x,vs,B,d,j,h=>by
  obtain ⟨rfl,rfl⟩:=h
  exact ⟨[],Jk.none (fun β=>rfl),fun p hp=>by cases hp⟩
 | k::r,x,vs,B,d,j,h=>by
  obtain ⟨v,vr,B1,B2,rfl,rfl,h1,h2⟩:=h
  obtain ⟨v1,f1,d1⟩:=Qdx (P:=P) d j h1
  obtain ⟨v2,f2,d2⟩:=Q6d d (j+1+k.t.cells) h2
  exact ⟨v1++v2,(f1.append f2).mono (fun β hg=>⟨v,vr,rfl,hg.1,hg.2⟩),fun p hp=>(List.mem_append.1 hp).elim (d1 p) (d2 p)⟩
theorem Qdd {rs:List RK} {x:RDs rs} {vs:List Value} {B:List Nat} (d:Nat) (h:Xc τ S w rs x vs B) :
  ∃ vals,Jk P τ S w (Q26 d rs x).2 vals B (fun β=>Qf P τ S β w (Q26 d rs x).1 (Q62 vs))∧∀ p∈vals,p.1.1=d:=by
 obtain ⟨vals,hf,hd⟩:=Q6d (P:=P) d 0 h
 have f:∀ (z:List CV × Upd),Q8m d 0 rs x=z→Jk P τ S w z.2 vals B (fun β=>Zu P τ S β w z.1 vs) →
   Jk P τ S w (Q26 d rs x).2 vals B (fun β=>Qf P τ S β w (Q26 d rs x).1 (Q62 vs)):=by
  intro z hz hf
  obtain ⟨cs,u⟩:=z
  have b:∀ (cs:List CV),cs.length≠1→∀ β,Zu P τ S β w cs vs→Qf P τ S β w (.tup cs) (Q62 vs):=by
   intro cs hl β hg
   have a:cs.length=vs.length:=hg.len
   have e:Q62 vs=.tuple vs.toArray:=by
    cases vs with
    | nil=>rfl
    | cons v q=>
     cases q with
     | nil=>simp at a;exact absurd a hl
     | cons _ _=>rfl
   exact ⟨vs,e,hg⟩
  cases cs with
  | nil=>
   have e:Q26 d rs x=(.tup [],u):=by unfold Q26;rw [hz]
   rw [e];exact hf.mono (fun β hg=>b [] (by simp) β hg)
  | cons c q=>
   cases q with
   | nil=>
    have e:Q26 d rs x=(.cv c,u):=by unfold Q26;rw [hz]
    rw [e]
    refine hf.mono (fun β hg=>?_)
    obtain ⟨v,vr,rfl,h1,h2⟩:=hg
    have h2:vr=[]:=h2
    subst h2
    exact h1
   | cons c2 q=>
    have e:Q26 d rs x=(.tup (c::c2::q),u):=by unfold Q26;rw [hz]
    rw [e];exact hf.mono (fun β hg=>b _ (by simp) β hg)
 exact ⟨vals,f _ rfl hf,hd⟩
def Jq (o:Lab→Option Ob) (β:Lab→Value):List PK→List SV→List Value→Prop
 | [],_,_=>True
 | .box _ _ _::r,svs,vs=>∃ l q vr,svs=.cv (.one (.ptr l 0))::q∧vs=β l::vr∧Jq o β r q vr
 | .val _::r,svs,vs=>Jq o β r svs.tail vs.tail
 | .rbox _::r,svs,vs=>Jq o β r svs.tail vs.tail
 | .fn _ _::r,svs,vs=>Jq o β r svs.tail vs.tail
 | .own _ _::r,svs,vs=>Jq o β r svs.tail vs.tail
 | .ownc _ _::r,svs,vs=>Jq o β r svs.tail vs.tail
 | .ownh _ _::r,svs,vs=>Jq o β r svs.tail vs.tail
 | .io _ _::r,svs,vs=>∃ l q vr,svs=.cv (.one (.ref l))::q∧vs=β l::vr∧Jq o β r q vr
theorem Qac {Γ:Ctx} (h:Rel P tab.ty N w0 F S β st a w) :
  ∀ {ps:List PK} {svs:List SV} {vals:List Value} {z:PDs ps × List Lab × List Lab},Zv Γ (Q0 st.objs) ps svs=some z→Q15 P tab.ty S β w svs vals→Jq (Q0 st.objs) β ps svs vals:=by
 intro ps
 induction ps with
 | nil=>intro svs vals z _ _;trivial
 | cons p r ih=>
  intro svs vals z he hv
  cases svs with
  | nil=>cases p<;>cases he
  | cons sv q=>
   obtain ⟨v,vr,rfl,h1,h2⟩:=hv
   cases p with
   | val t=>
    cases sv<;>try (cases he;done)
    case cv c=>
    obtain ⟨y,hy,he⟩:=bE he
    obtain ⟨z',hz,he⟩:=bE he
    exact ih hz h2
   | own eT e=>
    cases sv<;>try (cases he;done)
    case cv c=>
    cases c<;>try (cases he;done)
    case one u=>
    have he:(bif Nat.blt 0 e.cells then (Q0h (Q0 st.objs) eT e u).bind fun x=>(Zv Γ (Q0 st.objs) r q).bind fun z=>some ((x.1,z.1),x.2++z.2.1,z.2.2) else none)=some z:=he
    cases hp:Nat.blt 0 e.cells with
    | false=>rw [hp] at he;cases he
    | true=>
     rw [hp] at he
     obtain ⟨y,hy,he⟩:=bE he
     obtain ⟨z',hz,he⟩:=bE he
     exact ih hz h2
   | ownc eT e=>
    cases sv<;>try (cases he;done)
    case cv c=>
    cases c<;>try (cases he;done)
    case one u=>
    have he:(bif Nat.blt 0 e.cells then (Q0h (Q0 st.objs) eT e u).bind fun x=>(Zv Γ (Q0 st.objs) r q).bind fun z=>some ((x.1,z.1),x.2++z.2.1,z.2.2) else none)=some z:=he
    cases hp:Nat.blt 0 e.cells with
    | false=>rw [hp] at he;cases he
    | true=>
     rw [hp] at he
     obtain ⟨y,hy,he⟩:=bE he
     obtain ⟨z',hz,he⟩:=bE he
     exact ih hz h2
   | ownh eT e=>
    cases sv<;>try (cases he;done)
    case cv c=>
    cases c<;>try (cases he;done)
    case one u=>
    have he:(bif Nat.blt 0 e.cells then (Q5i (Q0 st.objs) eT e u).bind fun x=>(Zv Γ (Q0 st.objs) r q).bind fun z=>some ((x.1,z.1),x.2++z.2.1,z.2.2) else none)=some z:=he
    cases hp:Nat.blt 0 e.cells with
    | false=>rw [hp] at he;cases he
    | true=>
     rw [hp] at he
     obtain ⟨y,hy,he⟩:=bE he
     obtain ⟨z',hz,he⟩:=bE he
     exact ih hz h2
   | io eT e=>
    cases sv<;>try (cases he;done)
    case cv c=>
    cases c<;>try (cases he;done)
    case one u=>
    have he:(bif Nat.blt 0 e.cells then (Qbp (Q0 st.objs) eT e u).bind fun x=>(Zv Γ (Q0 st.objs) r q).bind fun z=>some ((x.1,z.1),x.2++z.2.1,z.2.2) else none)=some z:=he
    cases hp:Nat.blt 0 e.cells with
    | false=>rw [hp] at he;cases he
    | true=>
     rw [hp] at he
     obtain ⟨y,hy,he⟩:=bE he
     obtain ⟨z',hz,he⟩:=bE he
     cases u<;>try (cases hy;done)
     rename_i l _
     exact ⟨l,q,vr,rfl,by rw [h1.1],ih hz h2⟩
   | box T t ow=>
    cases sv<;>try (cases he;done)
    case cv c=>
    cases c<;>try (cases he;done)
    case one u=>
    cases u<;>try (cases he;done)
    case ptr l off=>
    cases off with
    | succ n=>cases he
    | zero=>
     obtain ⟨⟨y,vs⟩,hy,he⟩:=bE he
     obtain ⟨z',hz,he⟩:=bE he
     obtain ⟨b,j,k⟩:=h1
     exact ⟨l,q,vr,rfl,by rw [j,k],ih hz h2⟩
   | rbox t=>
    cases sv<;>try (cases he;done)
    case ep t' y=>
    obtain ⟨y',hy,he⟩:=bE he
    obtain ⟨z',hz,he⟩:=bE he
    exact ih hz h2
   | fn d i=>
    cases sv<;>try (cases he;done)
    case cv c=>
    cases c<;>try (cases he;done)
    case one u=>
    cases u<;>try (cases he;done)
    case clo ps1 rs1 g=>
     obtain ⟨y',hy,he⟩:=bE he
     obtain ⟨z',hz,he⟩:=bE he
     exact ih hz h2
    case gfn f=>
     obtain ⟨e,hy,he⟩:=bE he
     have he:(bif Q2m e d i then (Zv Γ (Q0 st.objs) r q).bind fun z=>some ((Q5g e d i,z.1),z.2) else none)=some z:=he
     cases hp:Q2m e d i with
     | false=>rw [hp] at he;cases he
     | true=>
      rw [hp] at he
      obtain ⟨z',hz,he⟩:=bE he
      exact ih hz h2
theorem Jn {o:Lab→Option Ob}:∀ {ps:List PK} {svs:List SV} {vals:List Value} {x:ODs ps} {B:List Nat} (d j:Nat),Jq o β ps svs vals→Qu τ S w ps vals x B →
  ∃ vs,Jk P τ S w (Qp d j ps svs x) vs B (fun _=>True)∧∀ p∈vs,p.1.1=d∨p.2=β p.1
 | [],svs,vals,x,B,d,j,_,h=>by
  have h:B=[]:=h
  subst h
  have e:Qp d j [] svs x=[]:=by cases svs<;>rfl
  rw [e]
  exact ⟨[],Jk.none (fun _=>trivial),fun p hp=>by cases hp⟩
 | .box T t own::r,svs,vals,x,B,d,j,hb,h=>by
  obtain ⟨l,q,vr,rfl,rfl,a⟩:=hb
  obtain ⟨v,g,B1,B2,e1,rfl,h1,h2⟩:=h
  obtain ⟨rfl,rfl⟩:=List.cons.inj e1
  obtain ⟨v1,f1,d1⟩:=Q7x (P:=P) d j l T h1
  obtain ⟨v2,f2,d2⟩:=Jn d (j+t.cells) a h2
  refine ⟨((l,β l)::v1)++v2,(f1.append f2).mono (fun _ _=>trivial),fun p hp=>?_⟩
  rcases List.mem_append.1 hp with hp | hp
  ·rcases List.mem_cons.1 hp with rfl | hp
   ·exact .inr rfl
   ·exact .inl (d1 p hp)
  ·exact d2 p hp
 | .val t::r,svs,vals,x,B,d,j,hb,h=>by
  have e:Qp d j (.val t::r) svs x=Qp d j r svs.tail x:=by cases svs<;>rfl
  rw [e];exact Jn d j hb h
 | .rbox t::r,svs,vals,x,B,d,j,hb,h=>by
  have e:Qp d j (.rbox t::r) svs x=Qp d j r svs.tail x:=by cases svs<;>rfl
  rw [e];exact Jn d j hb h
 | .fn ps rs::r,svs,vals,x,B,d,j,hb,h=>by
  have e:Qp d j (.fn ps rs::r) svs x=Qp d j r svs.tail x:=by cases svs<;>rfl
  rw [e];exact Jn d j hb h
 | .own eT e'::r,svs,vals,x,B,d,j,hb,h=>by
  have e:Qp d j (.own eT e'::r) svs x=Qp d j r svs.tail x:=by cases svs<;>rfl
  rw [e];exact Jn d j hb h
 | .ownc eT e'::r,svs,vals,x,B,d,j,hb,h=>by
  have e:Qp d j (.ownc eT e'::r) svs x=Qp d j r svs.tail x:=by cases svs<;>rfl
  rw [e];exact Jn d j hb h
 | .ownh eT e'::r,svs,vals,x,B,d,j,hb,h=>by
  have e:Qp d j (.ownh eT e'::r) svs x=Qp d j r svs.tail x:=by cases svs<;>rfl
  rw [e];exact Jn d j hb h
 | .io eT e'::r,svs,vals,x,B,d,j,hb,h=>by
  obtain ⟨l,q,vr,rfl,rfl,a⟩:=hb
  obtain ⟨v,g,B1,B2,e1,rfl,h1,h2⟩:=h
  obtain ⟨rfl,rfl⟩:=List.cons.inj e1
  obtain ⟨c,⟨cells,b,f⟩,rfl⟩:=h1
  have f1:Jk P τ S w [(l,Ob.row eT e' x.1)] [(l,β l)] ((blk (β l)).toList) (fun _=>True):=by
   refine ⟨rfl,by simp [Q6t],fun β' hβ=>⟨fun q hq=>?_,trivial⟩⟩
   have h0:=hβ (l,β l) (List.mem_cons_self ..)
   have:=List.mem_singleton.1 hq
   subst this
   show Z7 P τ S β' w (.row eT e' x.1) (β' l)
   rw [h0]
   exact ⟨c,cells,b,f⟩
  obtain ⟨v2,f2,d2⟩:=Jn d (j+1) a h2
  refine ⟨[(l,β l)]++v2,(f1.append f2).mono (fun _ _=>trivial),fun p hp=>?_⟩
  rcases List.mem_append.1 hp with hp | hp
  ·have:=List.mem_singleton.1 hp
   subst this
   exact .inr rfl
  ·exact d2 p hp
def Qhz:LV→Option Ty
 | .pure t _=>some t
 | _=>none
theorem Qes:∀ {t:Ty} (x y:t.den),(lvs t x).map Qhz=(lvs t y).map Qhz:=by
 intro t
 induction t with
 | pair a b c d=>intro x y;simp only [lvs,List.map_append];rw [c x.1 y.1,d x.2 y.2]
 | _=>intro x y;rfl
theorem Q51:∀ {xs ys:List LV} {own:List Bool},xs.map Qhz=ys.map Qhz→X0 own xs=X0 own ys
 | [],[],own,_=>rfl
 | [],_::_,own,h=>by cases h
 | _::_,[],own,h=>by cases h
 | x::r,y::q,own,h=>by
  simp only [List.map_cons] at h
  obtain ⟨h1,h2⟩:=List.cons.inj h
  have ih:=fun own=>Q51 (own:=own) h2
  cases x<;>cases y<;>first | (cases h1;done) | skip
  case pure.pure t x t' y=>
   have:=sI h1
   subst this
   cases own with
   | nil=>simp only [X0,ih]
   | cons b o=>cases b<;>cases t<;>simp only [X0,ih]
  all_goals simp only [X0,ih]
theorem Q1.flat {S':Nat→Prop} {e:Ty} (hf:e.flat=true):∀ {xs:List e.den} {cs:List Value},Q1 τ S w e xs cs→Q1 τ S' w e xs cs
 | [],cs,h=>h
 | x::r,cs,h=>by obtain ⟨c,cr,rfl,h1,h2⟩:=h;exact ⟨c,cr,rfl,h1.flat hf,Q1.flat hf h2⟩
theorem Xv.unleak {S':Nat→Prop}:∀ {ps:List LV} {own:List Bool} {cs:List Value} {B:List Nat},X0 own ps=false→Xv τ S w ps own cs B→Xv τ S' w ps own cs B
 | [],own,cs,B,_,h=>h
 | v::r,own,cs,B,hl,h=>by
  obtain ⟨c,cr,B1,B2,rfl,rfl,h1,h2⟩:=h
  refine ⟨c,cr,B1,B2,rfl,rfl,?_,Xv.unleak ?_ h2⟩
  ·cases v<;>try (cases hb:own.headD false<;>(rw [hb] at h1;exact h1.elim))
   case pure t x=>
   cases own with
   | nil=>
    simp only [X0,Bool.or_eq_false_iff,Bool.not_eq_false'] at hl
    exact ⟨h1.1.flat hl.1,h1.2⟩
   | cons b q=>
    cases b with
    | false=>
     simp only [X0,Bool.or_eq_false_iff,Bool.not_eq_false'] at hl
     exact ⟨h1.1.flat hl.1,h1.2⟩
    | true=>
     simp only [X0,Bool.or_eq_false_iff] at hl
     cases t<;>try exact ⟨h1.1.flat (by simpa using hl.1),h1.2⟩
     case sl eT e=>
     obtain ⟨hp,⟨cells,ho,a⟩,hB⟩:=h1
     exact ⟨hp,⟨cells,ho,a.flat (by simpa using hl.1)⟩,hB⟩
  ·cases v<;>try (cases own<;>exact hl)
   case pure t x=>
   cases own with
   | nil=>simp only [X0,Bool.or_eq_false_iff] at hl;exact hl.2
   | cons b q=>cases b<;>(simp only [X0,Bool.or_eq_false_iff] at hl;exact hl.2)
theorem Q1r.unleak {S':Nat→Prop} {t:Ty} {own:List Bool} {x:t.den} {v:Value} {B:List Nat} (hl:X0 own (lvs t t.dflt)=false) (h:Q1r τ S w t own x v B):Q1r τ S' w t own x v B:=by
 obtain ⟨b,T,cs,B',h1,h2,h3,h4⟩:=h
 exact ⟨b,T,cs,B',h1,h2,h3,Xv.unleak (by rw [Q51 (Qes x t.dflt)];exact hl) h4⟩
theorem Xc.unleak {S':Nat→Prop}:∀ {rs:List RK} {x:RDs rs} {vs:List Value} {B:List Nat},rs.any (fun k=>X0 k.own (lvs k.t k.t.dflt))=false→Xc τ S w rs x vs B→Xc τ S' w rs x vs B
 | [],x,vs,B,_,h=>h
 | k::r,x,vs,B,hl,h=>by
  obtain ⟨v,vr,B1,B2,rfl,rfl,h1,h2⟩:=h
  simp only [List.any_cons,Bool.or_eq_false_iff] at hl
  refine ⟨v,vr,B1,B2,rfl,rfl,?_,Xc.unleak hl.2 h2⟩
  unfold Q2e at h1 ⊢
  cases hp:k.ptr with
  | some T=>rw [hp] at h1;exact Q1r.unleak hl.1 h1
  | none=>
   rw [hp] at h1
   obtain ⟨cs,g1,g2,g3⟩:=h1
   exact ⟨cs,g1,g2,Xv.unleak (by rw [Q51 (Qes x.1 k.t.dflt)];exact hl.1) g3⟩
theorem Qu.unleak {S':Nat→Prop}:∀ {ps:List PK} {vals:List Value} {x:ODs ps} {B:List Nat},ps.any (fun p=>match p with | .box _ t own=>X0 own (lvs t t.dflt) | .io _ e=>!e.flat | _=>false)=false →
  Qu τ S w ps vals x B→Qu τ S' w ps vals x B
 | [],vals,x,B,_,h=>h
 | .box T t own::r,vals,x,B,hl,h=>by
  obtain ⟨v,vr,B1,B2,rfl,rfl,h1,h2⟩:=h
  simp only [List.any_cons,Bool.or_eq_false_iff] at hl
  exact ⟨v,vr,B1,B2,rfl,rfl,Q1r.unleak hl.1 h1,Qu.unleak hl.2 h2⟩
 | .val t::r,vals,x,B,hl,h=>by simp only [List.any_cons,Bool.or_eq_false_iff] at hl;exact Qu.unleak (ps:=r) hl.2 h
 | .rbox t::r,vals,x,B,hl,h=>by simp only [List.any_cons,Bool.or_eq_false_iff] at hl;exact Qu.unleak (ps:=r) hl.2 h
 | .fn ps rs::r,vals,x,B,hl,h=>by simp only [List.any_cons,Bool.or_eq_false_iff] at hl;exact Qu.unleak (ps:=r) hl.2 h
 | .own eT e::r,vals,x,B,hl,h=>by simp only [List.any_cons,Bool.or_eq_false_iff] at hl;exact Qu.unleak (ps:=r) hl.2 h
 | .ownc eT e::r,vals,x,B,hl,h=>by simp only [List.any_cons,Bool.or_eq_false_iff] at hl;exact Qu.unleak (ps:=r) hl.2 h
 | .ownh eT e::r,vals,x,B,hl,h=>by simp only [List.any_cons,Bool.or_eq_false_iff] at hl;exact Qu.unleak (ps:=r) hl.2 h
 | .io eT e::r,vals,x,B,hl,h=>by
  obtain ⟨v,vr,B1,B2,rfl,rfl,⟨hp,⟨cells,ho,a⟩,hB⟩,h2⟩:=h
  simp only [List.any_cons,Bool.or_eq_false_iff] at hl
  exact ⟨v,vr,B1,B2,rfl,rfl,⟨hp,⟨cells,ho,a.flat (by simpa using hl.1)⟩,hB⟩,Qu.unleak hl.2 h2⟩
end
end Go.PE
namespace Go.PE
section
variable {P:Program} {tab:Tab} {N:NN} {w0:World} {F:FF} {S:Nat→Prop} {β:Lab→Value} {st:St} {a:Act} {w:World}
theorem Q32 {o:Lab→Option Ob} {l:Lab} (h:Q0j o l=true):∃ ob,o l=some ob:=by
 unfold Q0j at h
 split at h
 ·rename_i ob ho;exact ⟨ob,ho⟩
 ·cases h
theorem Q1p (h:Rel P tab.ty N w0 F S β st a w):∀ {ls:List Lab},Zt ls=true→(∀ l∈ls,∃ ob,Q0 st.objs l=some ob)→(Qr β ls).Nodup
 | [],_,_=>List.nodup_nil
 | l::r,hd,ho=>by
  simp only [Zt,Bool.and_eq_true,Bool.not_eq_true',Zx] at hd
  have ih:=Q1p h hd.2 (fun m hm=>ho m (List.mem_cons_of_mem _ hm))
  have e:Qr β (l::r)=(blk (β l)).toList++Qr β r:=rfl
  rw [e]
  cases hb:blk (β l) with
  | none=>exact ih
  | some k=>
   refine List.nodup_cons.2 ⟨fun hm=>?_,ih⟩
   obtain ⟨m,hm,hk⟩:=Q1b.1 hm
   obtain ⟨ob,h1⟩:=ho l (List.mem_cons_self ..)
   obtain ⟨b,h2⟩:=ho m (List.mem_cons_of_mem _ hm)
   exact h.dist l m ob b h1 h2 (fun e=>hd.1 (e▸hm)) k hb hk
theorem Q16 {x y:List Lab} (h:Q2w x y=true):∀ l∈x,l ∉ y:=fun l hl=>by
 have:=List.all_eq_true.1 h l hl
 rw [Bool.not_eq_true',Zx] at this
 exact this
def Qcl:List (Lab × Value)→Lab→Value
 | [],_=>undef
 | (m,v)::r,l=>if m=l then v else Qcl r l
theorem Q28:∀ {vs:List (Lab × Value)},Zt (vs.map (·.1))=true→∀ p∈vs,Qcl vs p.1=p.2
 | [],_,p,hp=>by cases hp
 | (m,v)::r,hd,p,hp=>by
  simp only [List.map_cons,Zt,Bool.and_eq_true,Bool.not_eq_true',Zx] at hd
  rcases List.mem_cons.1 hp with rfl | hp
  ·simp [Qcl]
  ·have:m≠p.1:=fun e=>hd.1 (by rw [e];exact List.mem_map.2 ⟨p,hp,rfl⟩)
   simp only [Qcl,if_neg this]
   exact Q28 hd.2 p hp
theorem Q4m:∀ {vs:List (Lab × Value)},(Q6t vs).Nodup→∀ p∈vs,∀ q∈vs,p.1≠q.1→∀ k,blk p.2=some k→blk q.2≠some k
 | [],_,p,hp,_,_,_,_,_,_=>by cases hp
 | x::r,hn,p,hp,q,hq,b,k,h1,h2=>by
  have e:Q6t (x::r)=(blk x.2).toList++Q6t r:=rfl
  rw [e,List.nodup_append] at hn
  obtain ⟨_,hr,hx⟩:=hn
  have d:∀ y∈r,blk x.2=some k→blk y.2=some k→False:=fun y hy h3 h4=>
   hx k (by rw [h3];simp) k (List.mem_flatMap.2 ⟨y,hy,by rw [h4];simp⟩) rfl
  rcases List.mem_cons.1 hp with e1 | c
  ·rcases List.mem_cons.1 hq with e2 | a
   ·exact absurd (by rw [e1,e2]) b
   ·exact d q a (by rw [← e1];exact h1) h2
  ·rcases List.mem_cons.1 hq with e2 | a
   ·exact d p c (by rw [← e2];exact h2) h1
   ·exact Q4m hr p c q a b k h1 h2
theorem Qbb (h:Rel P tab.ty N w0 F S β st a w) {d:Nat} {e:Ent} {svs:List SV} {vals:List Value} {own:List Lab} (s:∀ l∈own,∃ ob,Q0 st.objs l=some ob)
  (D:Jq (Q0 st.objs) β e.ps svs vals) {r:RDs e.rs × ODs e.ps} {u:Upd} (hu:u=(Q26 d e.rs r.1).2++Qp d 1000 e.ps svs r.2) {del:List Lab} (o:del=own.filter fun l=>!(Xw l (u.map (·.1))))
  {w':World} {vs:List Value} {S1:Nat→Prop} {B1 B2:List Nat} (A:Xc tab.ty S1 w' e.rs r.1 vs B1) (y:Qu tab.ty S1 w' e.ps vals r.2 B2) (I:(B1++B2).Nodup)
  (hB:∀ k∈B1++B2,¬ S1 k∧k<w'.heap.size∧(w.heap.size≤k∨k∈Qr β own)) (hS:∀ k,S k→S1 k)
  (hn:∀ k,S1 k→k<w'.heap.size∧(S k∨w.heap.size≤k∨k∈Qr β own)) (hf:Fr (fun k=>k∈Qr β own) w w') {st':St} (B:Qs (delAll st del) d u=some st') :
  ∃ S' β',(∀ k,S k→S' k)∧(∀ l:Lab,l.1≠d→β' l=β l)∧Rel P tab.ty N w0 F S' β' st' a w'∧Qf P tab.ty S' β' w' (Q26 d e.rs r.1).1 (Q62 vs):=by
 obtain ⟨v1,f1,d1⟩:=Qdd (P:=P) d A
 obtain ⟨v2,f2,d2⟩:=Jn (P:=P) d 1000 D y
 have c:=f1.append f2
 rw [← hu] at c
 obtain ⟨f,n,c⟩:=c
 have j:=Jj B
 have L:Zt ((v1++v2).map (·.1))=true:=by rw [f];exact j.nodup
 have hβ:∀ p∈v1++v2,Jl β d u (Qcl (v1++v2)) p.1=p.2:=fun p hp=>by
  by_cases hd:p.1.1=d
  ·unfold Jl
   have e1:Q0 (Xl d u) p.1=if Nat.beq p.1.1 d then Q0 u p.1 else none:=Jh (fun l=>Nat.beq l.1 d) u p.1
   have hm:p.1∈u.map (·.1):=by rw [← f];exact List.mem_map.2 ⟨p,hp,rfl⟩
   obtain ⟨q,hq,g⟩:=List.mem_map.1 hm
   have h2:=Q7n j.nodup (l:=q.1) (b:=q.2) hq
   rw [g] at h2
   rw [e1,Z6.2 hd,h2]
   exact Q28 L p hp
  ·rw [Xi hd]
   rcases List.mem_append.1 hp with hp | hp
   ·exact absurd (d1 p hp) hd
   ·rcases d2 p hp with h2 | h2
    ·exact absurd h2 hd
    ·exact h2.symm
 have hg:=c _ hβ
 have hD:∀ l∈own,l∈del++(Zh d u).map (·.1):=fun l hl=>by
  cases hm:Xw l (u.map (·.1)) with
  | false=>exact List.mem_append.2 (.inl (by rw [o];exact List.mem_filter.2 ⟨hl,by rw [hm];rfl⟩))
  | true=>
   obtain ⟨q,hq,g⟩:=List.mem_map.1 (Q09.1 hm)
   have h2:=Q7n j.nodup (l:=q.1) (b:=q.2) hq
   rw [g] at h2
   have v:l ∉ del:=by rw [o];intro hx;have:=(List.mem_filter.1 hx).2;rw [hm] at this;cases this
   by_cases hd:l.1=d
   ·exfalso
    have G:=j.news l _ h2 hd
    have x:=(Z2 G).1
    obtain ⟨ob,ho⟩:=s l hl
    rw [Zq,if_neg,Zq,if_neg v,ho] at x
    ·cases x
    ·intro hx
     obtain ⟨q',K,z⟩:=List.mem_map.1 hx
     have:=(List.mem_filter.1 K).2
     rw [z,Z6.2 hd] at this
     cases this
   ·refine List.mem_append.2 (.inr (List.mem_map.2 ⟨q,List.mem_filter.2 ⟨hq,?_⟩,g⟩))
    rw [g,Z1.2 hd];rfl
 have t:∀ k,k∈Qr β own→Q0b st β (del++(Zh d u).map (·.1)) k:=fun k hk=>by
  obtain ⟨l,hl,hb⟩:=Q1b.1 hk
  obtain ⟨ob,ho⟩:=s l hl
  exact ⟨l,hD l hl,ob,ho,hb⟩
 refine ⟨S1,Jl β d u (Qcl (v1++v2)),hS,fun l hl=>Xi hl,?_,hg.2.1⟩
 refine h.upd B hf (fun k _ hx=>t k hx) hS (fun k hk=>?_) (fun k hk=>(hn k hk).1) _ (fun l ob hl=>⟨hg.1 (l,ob) (Zn hl),fun b hb=>?_⟩)
 ·rcases (hn k hk).2 with h1 | h1 | h1
  ·exact .inl h1
  ·exact .inr (.inl h1)
  ·exact .inr (.inr (t k h1))
 ·have C:∀ m i,Q0 u m=some i→∃ p∈v1++v2,p.1=m:=fun m i hm=>by
   have:m∈(v1++v2).map (·.1):=by rw [f];exact List.mem_map.2 ⟨(m,i),Zn hm,rfl⟩
   exact List.mem_map.1 this
  obtain ⟨p,hp,rfl⟩:=C l ob hl
  have J:=hβ p hp
  rw [J] at hb
  have E:b∈B1++B2:=by rw [← n];exact List.mem_flatMap.2 ⟨p,hp,by rw [hb];simp⟩
  obtain ⟨g1,g2,g3⟩:=hB b E
  refine ⟨g1,?_,g2,fun m i hm H=>?_⟩
  ·rcases g3 with g3 | g3
   ·exact .inl g3
   ·exact .inr (t b g3)
  ·obtain ⟨q,hq,rfl⟩:=C m i H
   rw [hβ q hq]
   exact Q4m (by rw [n];exact I) p hp q hq (fun e=>hm e.symm) b hb
theorem Q3r (h:Rel P tab.ty N w0 F S β st a w):∀ (xs:List Operand),Q15 P tab.ty S β w (xs.map (Qb st.slots)) (xs.map a.eval)
 | []=>rfl
 | x::r=>⟨_,_,rfl,Q4 h x,Q3r h r⟩
theorem Q52 {o:Oper} {f:Operand} {args:Array Operand} {ts:Array TypeId} (ho:o.op=.call { callee:=.value f,args:=args,argTypes:=ts }) {g:FuncId} {cap:Array Value} (hf:a.eval f=.func (.func g) #[] cap) (h:Qe1 P g)
  (Q:Exit→Act→World→Prop) (K:Act→World→Prop) (hc:Calls P g (args.map a.eval++cap) w fun ex w'=>∃ v,ex=.returned v∧K (a.put o.dst v) w'):o.wp P a w K Q:=by
 obtain ⟨fn,h1,h2,h3⟩:=h
 have hr:(execOp a.eval o).run P w=.ok (.enter g (args.map a.eval++cap)) w:=by
  unfold execOp
  simp only [ho]
  have b:¬ fn.name="runtime.NumGoroutine":=by simpa using h2
  have c:¬ fn.body=none:=by intro e;rw [e] at h3;cases h3
  simp [resolve,hf,Deferred.ofValue,invoke,callFunc,run_program,h1,b,c]
 unfold Oper.wp
 rw [hr]
 rw [Oper.upon_enter]
 refine Calls.mono hc (fun ex w' d=>?_)
 obtain ⟨v,rfl,hK⟩:=d
 exact hK
theorem Q9t {Γ:Ctx} (hΓ:Je tab.ty P Γ) (h:Rel P tab.ty N w0 F S β st a w) {o:Oper}
  {g:FuncId} {e:Ent} (he:Q8w Γ g=some e) {svs:List SV} {vals:List Value} (D:Q15 P tab.ty S β w svs vals)
  (L:∀ (Q:Exit→Act→World→Prop) (K:Act→World→Prop),(Calls P g vals.toArray w fun ex w'=>∃ v,ex=.returned v∧K (a.put o.dst v) w')→o.wp P a w K Q) {R:Type} {k:SV→List Lab→Upd→Option R} {E:R}
  (b:Q1v Γ (Q0 st.objs) (o.dst.getD 999999999) e svs k=some E) :
  ∃ v del u,k v del u=some E∧Xe P tab N w0 F S β st a w o v del u:=by
 unfold Q1v at b
 obtain ⟨⟨x,own,rd⟩,hm,b⟩:=bE b
 cases hq:(Zt own&&Q2w own rd&&own.all (Q0j (Q0 st.objs))&&rd.all (Q0j (Q0 st.objs))&&(bif Q9s e then Qit rd else true)) with
 | false=>simp only [hq] at b;cases b
 | true=>
  simp only [hq,cond_true] at b
  obtain ⟨r,hr,b⟩:=bE b
  simp only [Bool.and_eq_true] at hq
  obtain ⟨⟨⟨⟨q1,q2⟩,q3⟩,q4⟩,q5⟩:=hq
  refine ⟨_,_,_,b,?_⟩
  have c:∀ l∈own,∃ ob,Q0 st.objs l=some ob:=fun l hl=>Q32 (List.all_eq_true.1 q3 l hl)
  have J:∀ l∈rd,∃ ob,Q0 st.objs l=some ob:=fun l hl=>Q32 (List.all_eq_true.1 q4 l hl)
  have C:∀ k,S k→(S k∨Q0b st β rd k):=fun k hk=>.inl hk
  have y:∀ k,(S k∨Q0b st β rd k)→k<w.heap.size:=fun k hk=>hk.elim (h.sb k) (fun ⟨l,_,ob,d,hb⟩=>(h.excl l ob d k hb).2.2)
  have j:=Qam hΓ h C y hm D (fun l hl k hk=>by obtain ⟨ob,d⟩:=J l hl;exact .inr ⟨l,hl,ob,d,hk⟩)
  have hG:=hΓ g e he
  intro Q K hK
  refine L Q K ?_
  refine Calls.mono (hG.2 w _ x _ _ r y j (Q1p h q1 c) (fun k hk=>?_) hr) (fun ex w' H=>?_)
  ·obtain ⟨l,hl,hb⟩:=Q1b.1 hk
   obtain ⟨ob,d⟩:=c l hl
   obtain ⟨e1,_,e3⟩:=h.excl l ob d k hb
   refine ⟨fun hx=>?_,e3⟩
   rcases hx with hx | ⟨m,p,M,t,G⟩
   ·exact e1 hx
   ·exact h.dist l m ob M d t (fun e=>Q16 q2 l hl (e▸p)) k hb G
  ·obtain ⟨vs,S1,B1,B2,rfl,i,f,z,hB,q,I,n⟩:=H
   refine ⟨_,rfl,hK _ _ (fun st' B=>?_)⟩
   have s:=Qac h hm D
   cases hl:Q9s e with
   | true=>
    rw [hl] at q5
    have A:rd=[]:=by cases rd with | nil=>rfl | cons _ _=>cases q5
    subst A
    refine Qbb h c s rfl rfl i f z hB (fun k hk=>q k (.inl hk)) (fun k hk=>?_) n B
    obtain ⟨g1,g2⟩:=I k hk
    refine ⟨g1,?_⟩
    rcases g2 with (g2 | ⟨m,p,_⟩) | g2
    ·exact .inl g2
    ·cases p
    ·exact .inr g2
   | false=>
    unfold Q9s at hl
    simp only [Bool.or_eq_false_iff] at hl
    exact Qbb h c s rfl rfl (i.unleak hl.1) (f.unleak hl.2) z (fun k hk=>by
     obtain ⟨g1,g2,g3⟩:=hB k hk
     exact ⟨fun hx=>g1 (q k (.inl hx)),g2,g3⟩) (fun k hk=>hk) (fun k hk=>⟨Nat.lt_of_lt_of_le (h.sb k hk) n.size,.inl hk⟩) n B
theorem Qdl {Γ:Ctx} (hΓ:Je tab.ty P Γ) (h:Rel P tab.ty N w0 F S β st a w) {o:Oper} {f:Operand} {args:Array Operand} {ts:Array TypeId} (ho:o.op=.call { callee:=.value f,args:=args,argTypes:=ts })
  {g:FuncId} (hf:Qb st.slots f=.cv (.one (.gfn g))) {e:Ent} (he:Q8w Γ g=some e) {R:Type} {k:SV→List Lab→Upd→Option R} {b:R}
  (c:Q1v Γ (Q0 st.objs) (o.dst.getD 999999999) e (args.toList.map (Qb st.slots)) k=some b) :
  ∃ v del u,k v del u=some b∧Xe P tab N w0 F S β st a w o v del u:=by
 refine Q9t hΓ h he (Q3r h args.toList) (fun Q K hc=>?_) c
 refine Q52 ho (Q4 h f |> fun hx=>by rw [hf] at hx;exact hx) (hΓ g e he).1 Q K ?_
 rw [Array.append_empty,show args.map a.eval=(args.toList.map a.eval).toArray by apply Array.ext';simp]
 exact hc
theorem Qhw {o:Oper} {r:Operand} {m:String} {args:Array Operand} {ts:Array TypeId} (ho:o.op=.call { callee:=.invoke r m,args:=args,argTypes:=ts }) {T:TypeId} {v:Value} (hr:a.eval r=.iface T v) {g:FuncId} (hm:Qih P T m g) (f:Qe1 P g)
  (Q:Exit→Act→World→Prop) (K:Act→World→Prop) (hc:Calls P g (v::args.toList.map a.eval).toArray w fun ex w'=>∃ v,ex=.returned v∧K (a.put o.dst v) w'):o.wp P a w K Q:=by
 obtain ⟨fn,h1,h2,h3⟩:=f
 obtain ⟨i,mm,fs,hi,hf,hp,hfn,hu⟩:=hm
 have hr:(execOp a.eval o).run P w=.ok (.enter g (v::args.toList.map a.eval).toArray) w:=by
  unfold execOp
  simp only [ho]
  have b:¬ fn.name="runtime.NumGoroutine":=by simpa using h2
  have c:¬ fn.body=none:=by intro e;rw [e] at h3;cases h3
  have h:mm.path=#[]:=by apply Array.ext';simpa using hp
  have j:0<Made.depth:=by decide
  obtain ⟨k,hk⟩:∃ k,P.types.size+Made.depth=k+1:=⟨P.types.size+Made.depth - 1,by omega⟩
  have ha:#[v]++(Array.map a.eval args).extract 0 args.size=(v::args.toList.map a.eval).toArray:=by
   apply Array.ext'
   simp
   exact List.take_of_length_le (by simp)
  have h0:(#[Value.iface T v]++Array.map a.eval args)[0]?=some (Value.iface T v):=by
   rw [Array.getElem?_append_left (by simp)];rfl
  simp [resolve,hr,invoke,callMethod,run_program,hk,method,typeInfo,hi,hf,h,follow,hfn,receiverAt,run_underlying hu,Place.get,callFunc,h1,b,c,ha,h0]
 unfold Oper.wp
 rw [hr]
 rw [Oper.upon_enter]
 refine Calls.mono hc (fun ex w' d=>?_)
 obtain ⟨v,rfl,hK⟩:=d
 exact hK
end
end Go.PE
