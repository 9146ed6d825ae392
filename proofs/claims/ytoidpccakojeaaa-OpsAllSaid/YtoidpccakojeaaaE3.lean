/-
  The evaluator PE and its soundness, part 3.
  Conditions: none.
-/
import Derived.LoopN
import Derived.Orders
import Derived.Carry
import Derived.ChangeArms
import Derived.RowKit
import Derived.Test.YtoidpccakojeaaaE2

set_option linter.unusedVariables false
set_option linter.unusedSimpArgs false
namespace Go.PE
section
variable {P : Program} {tab : Tab} {N : NN} {w0 : World} {F : FF} {S : Nat → Prop} {β : Lab → Value} {st : St} {a : Act} {w : World}
theorem cloArgs_rel (h : Rel P tab.ty N w0 F S β st a w) {S' : Nat → Prop} (hS : ∀ k, S k → S' k) : ∀ {ts : List Ty} {svs : List SV} {vals : List Value} {x : DenL ts} {rd : List Lab},
    cloArgs (oget st.objs) ts svs = some (x, rd) → SVrels P tab.ty S β w svs vals → (∀ l ∈ rd, ∀ k, blk (β l) = some k → S' k) → ArgVals tab.ty S' w ts x vals
  | [], [], vals, x, rd, he, hv, hr => hv
  | [], _ :: _, vals, x, rd, he, hv, hr => by cases he
  | _ :: _, [], vals, x, rd, he, hv, hr => by cases he
  | t :: r, sv :: q, vals, x, rd, he, hv, hr => by
    cases sv <;> try (cases he; done)
    case cv c =>
    obtain ⟨v, vr, rfl, h1, h2⟩ := hv
    obtain ⟨y, hy, he⟩ := Option.bind_eq_some_iff.1 he
    obtain ⟨z, hz, he⟩ := Option.bind_eq_some_iff.1 he
    obtain ⟨e1, e2⟩ := Prod.mk.inj (Option.some.inj he)
    subst e1; subst e2
    refine ⟨v, vr, rfl, (cvDen_rep h.objs hy h1).mono (fun k hk => ?_), cloArgs_rel h hS hz h2 (fun l hl => hr l (List.mem_append.2 (.inr hl)))⟩
    rcases hk with hk | ⟨l, hl, hk⟩
    · exact hS k hk
    · exact hr l (List.mem_append.2 (.inl hl)) k hk
theorem cloRes_rel : ∀ {ts : List Ty} {x : DenL ts} {vs : List Value}, ArgVals tab.ty S w ts x vs → CVrels P tab.ty S β w (cloRes ts x) vs
  | [], x, vs, h => h
  | t :: r, x, vs, h => by obtain ⟨v, vr, rfl, h1, h2⟩ := h; exact ⟨v, vr, rfl, cvOf_rel h1, cloRes_rel h2⟩
theorem svRes1_rel {cs : List CV} {vs : List Value} (h : CVrels P tab.ty S β w cs vs) : SVrel P tab.ty S β w (svRes1 cs) (tupV vs) := by
  have hl := h.len
  match cs, vs, h with
  | [], [], h => exact ⟨[], rfl, h⟩
  | [c], [v], h =>
    obtain ⟨v', vr, e, h1, _⟩ := h
    have := List.cons.inj e
    rw [← this.1] at h1
    exact h1
  | c :: c2 :: q, v :: v2 :: r, h => exact ⟨_, rfl, h⟩
  | [], _ :: _, h => cases hl
  | [_], [], h => cases hl
  | [_], _ :: _ :: _, h => simp at hl
  | _ :: _ :: _, [], h => cases hl
  | _ :: _ :: _, [_], h => simp at hl
theorem ArgVals.flat {S' : Nat → Prop} {w' : World} : ∀ {ts : List Ty} {x : DenL ts} {vs : List Value}, (∀ t ∈ ts, t.flat = true) → ArgVals tab.ty S w ts x vs → ArgVals tab.ty S' w' ts x vs
  | [], x, vs, _, h => h
  | t :: r, x, vs, hf, h => by
    obtain ⟨v, vr, rfl, h1, h2⟩ := h
    exact ⟨v, vr, rfl, h1.flat (hf t (List.mem_cons_self ..)), ArgVals.flat (fun t ht => hf t (List.mem_cons_of_mem _ ht)) h2⟩
theorem clo_sound (h : Rel P tab.ty N w0 F S β st a w) {o : Oper} {f : Operand} {args : Array Operand} {ts : Array TypeId} (ho : o.op = .call { callee := .value f, args := args, argTypes := ts })
    {ps rs : List Ty} {g : DenL ps → Option (DenL rs)} (hf : svOf st.slots f = .cv (.one (.clo ps rs g))) {x : DenL ps} {rd : List Lab} (hx : cloArgs (oget st.objs) ps (args.toList.map (svOf st.slots)) = some (x, rd))
    (hrd : rd.all (isObj (oget st.objs)) = true) {r : DenL rs} (hr : g x = some r) : GoodO P tab N w0 F S β st a w o (svRes1 (cloRes rs r)) [] [] := by
  have hfe := svOf_rel h f
  rw [hf] at hfe
  obtain ⟨hfl, fid, cap, hv, hok, hc⟩ := hfe
  have hex : ∀ l ∈ rd, ∃ ob, oget st.objs l = some ob := fun l hl => isObj_ok (List.all_eq_true.1 hrd l hl)
  have hsub : ∀ k, S k → (S k ∨ blkIn st β rd k) := fun k hk => .inl hk
  have hargs := cloArgs_rel h hsub hx (svs_rel h args.toList) (fun l hl k hk => by obtain ⟨ob, hlo⟩ := hex l hl; exact .inr ⟨l, hl, ob, hlo, hk⟩)
  intro Q K hK
  refine call_wp ho hv hok Q K ?_
  rw [show args.map a.eval = (args.toList.map a.eval).toArray by apply Array.ext'; simp]
  refine Calls.mono (hc w _ x _ r hsub (Nat.le_refl _) (fun _ _ _ => rfl) (fun k hk => hk.elim (h.sb k) (fun ⟨l, _, ob, hlo, hb⟩ => (h.excl l ob hlo k hb).2.2)) hargs hr) (fun ex w' hex => ?_)
  obtain ⟨vs, rfl, hvs, hfr⟩ := hex
  refine ⟨_, rfl, hK _ _ (fun st' hst => ?_)⟩
  have e : applyUpd (delAll st []) (o.dst.getD 999999999) [] = some st := rfl
  rw [e] at hst
  have := Option.some.inj hst
  subst this
  exact ⟨S, β, fun _ hk => hk, fun _ _ => rfl, h.grow' hfr, svRes1_rel (cloRes_rel (hvs.flat hfl))⟩
theorem lvDen_none {t : Ty} {v : LV} {x : t.den} {c : Value} (hd : lvDen (fun _ => none) t v = some x) (hv : LVrel P tab.ty S β w v c) : Rep tab.ty S w t x [c] := by
  have hr := lvDen_rep (st := { slots := [], objs := [] }) (S := S) (β := β) (w := w) (P := P) (τ := tab.ty) (fun l ob ho => by cases ho) (t := t) (v := v) (x := x) (c := c) hd hv
  cases v
  case ref l => cases hd
  all_goals exact hr.mono (fun k hk => hk.elim id (fun ⟨l, hl, _⟩ => by cases hl))
theorem leaves_none : ∀ {vs ps : List LV} {cs : List Value}, Den2 (fun _ => none) vs ps → LVrels P tab.ty S β w vs cs → LeafReps tab.ty S w ps cs
  | [], [], cs, _, h => h
  | [], _ :: _, _, h, _ => h.elim
  | _ :: _, [], _, h, _ => h.elim
  | v :: r, p :: q, cs, hd, h => by
    cases p <;> try exact hd.elim
    case pure t y =>
    obtain ⟨c, cr, rfl, h1, h2⟩ := h
    exact ⟨c, cr, rfl, lvDen_none hd.1 h1, leaves_none hd.2 h2⟩
def pureDen (t : Ty) (vs : List LV) : Option t.den := match lvsDen (fun _ => none) t vs with | some (x, []) => some x | _ => none
theorem pureDen_rep {t : Ty} {vs : List LV} {x : t.den} {cs : List Value} (hd : wholeDen (fun _ => none) t vs = some x) (hv : LVrels P tab.ty S β w vs cs) : Rep tab.ty S w t x cs :=
  rep_of_leaves (leaves_none (wholeDen_den2 hd) hv)
theorem Rel.frzBox (h : Rel P tab.ty N w0 F S β st a w) {l : Lab} {T0 : TypeId} {st' : St} {t : Ty} {x : t.den} (hf : PE.frzBox st l T0 tab = some (st', ⟨t, x⟩)) {v : Value} (hv : LVrel P tab.ty S β w (.ptr l 0) v) :
    ∃ S', (∀ k, S k → S' k) ∧ Rel P tab.ty N w0 F S' β st' a w ∧ EpRel tab.ty S' w t x v := by
  unfold PE.frzBox at hf
  cases hol : oget st.objs l with
  | none => rw [hol] at hf; cases hf
  | some ob =>
    rw [hol] at hf
    cases ob <;> try (cases hf; done)
    case box T' vs =>
    obtain ⟨t', ht, hf⟩ := Option.bind_eq_some_iff.1 hf
    obtain ⟨x', hx, hf⟩ := Option.bind_eq_some_iff.1 hf
    obtain ⟨e1, e2⟩ := Prod.mk.inj (Option.some.inj hf)
    subst e1
    injection e2 with e3 e4
    subst e3
    have e4 := eq_of_heq e4
    subst e4
    obtain ⟨b, T'', cs, hβ, hh, hrels⟩ := h.objs l _ hol
    have hbk : blk (β l) = some b := by rw [hβ]; rfl
    obtain ⟨g1, g2, g3⟩ := h.excl l _ hol b hbk
    have hsub : ∀ k, S k → (S k ∨ k = b) := fun k hk => .inl hk
    have hrep : Rep tab.ty S w t' x' cs.toList := by
      refine pureDen_rep (vs := vs) (P := P) (β := β) ?_ hrels
      unfold wholeDen
      exact hx
    have hep : ∀ u, LVrel P tab.ty S β w (.ptr l 0) u → EpRel tab.ty (fun k => S k ∨ k = b) w t' x' u := by
      intro u hu
      obtain ⟨b', hb1, hb2⟩ := hu
      rw [hβ] at hb1
      simp only [Value.pointer.injEq, Option.some.injEq, Addr.mk.injEq] at hb1
      obtain ⟨rfl, _⟩ := hb1
      refine ⟨b, 0, cs.toList, hb2, .inr rfl, g3, ?_, hrep.mono hsub⟩
      intro j hj
      rw [cell_of_row w b _ cs T'' (0, 0) hh]
      rw [Array.length_toList] at hj
      rw [Nat.zero_add, List.getD_eq_getElem?_getD, Array.getElem?_toList, Array.getElem?_eq_getElem hj]
      rfl
    refine ⟨fun k => S k ∨ k = b, hsub, ⟨?_, fun u => ?_, fun m ob hm => ?_, fun m ob hm k hk => ?_, fun m m' ob ob' hm hm' hne => ?_, h.fr, h.size, h.nodef, ?_, h.par⟩, hep v hv⟩
    · rintro k (hk | rfl)
      · exact h.sb k hk
      · exact g3
    · have e1 : sget (st.slots.map fun (p : Nat × SV) => (p.1, svEp l t' x' p.2)) u = svEp l t' x' (sget st.slots u) := by
        refine sget_map (fun v => svEp l t' x' v) ?_ st.slots u
        rfl
      show SVrel P tab.ty _ β w (sget (st.slots.map fun (p : Nat × SV) => (p.1, svEp l t' x' p.2)) u) _
      rw [e1]
      have hs := h.slots u
      have keep : ∀ v, SVrel P tab.ty S β w v (a.tmps.getD u undef) → SVrel P tab.ty (fun k => S k ∨ k = b) β w v (a.tmps.getD u undef) := fun v hv =>
        hv.frame hsub (Nat.le_refl _) (fun _ _ _ => rfl) h.sb (fun _ _ => rfl)
      revert hs
      generalize sget st.slots u = sv
      intro hs
      unfold svEp
      split
      · rename_i m
        cases hm : lbeq m l with
        | true =>
          have := lbeq_iff.1 hm
          subst this
          exact hep _ hs
        | false => exact keep _ hs
      · cases lmem l (svRefs sv) with
        | true => trivial
        | false => exact keep _ hs
    · simp only [oget_odel] at hm
      split at hm
      · cases hm
      · exact (h.objs m ob hm).frame hsub (Nat.le_refl _) (fun _ _ _ => rfl) h.sb (fun _ _ => rfl) (fun _ _ => rfl)
    · simp only [oget_odel] at hm
      split at hm
      · cases hm
      · rename_i hne
        obtain ⟨k1, k2, k3⟩ := h.excl m ob hm k hk
        refine ⟨fun hx => ?_, k2, k3⟩
        rcases hx with hx | rfl
        · exact k1 hx
        · exact h.dist m l ob _ hm hol (fun e => hne e.symm) k hk hbk
    · simp only [oget_odel] at hm hm'
      split at hm
      · cases hm
      · split at hm'
        · cases hm'
        · exact h.dist m m' ob ob' hm hm' hne
    · rintro k (hk | rfl)
      · exact h.within k hk
      · exact .inr g2
def EpVals (τ : TypeId → Option Ty) (S : Nat → Prop) (w : World) : (ts : List Ty) → DenL ts → List Value → Prop
  | [], _, cs => cs = []
  | t :: r, y, cs => ∃ c cr, cs = c :: cr ∧ EpRel τ S w t y.1 c ∧ EpVals τ S w r y.2 cr
theorem EpVals.frame {τ : TypeId → Option Ty} {S S' : Nat → Prop} {w w' : World} (hS : ∀ k, S k → S' k) (hsz : w.heap.size ≤ w'.heap.size) (hk : ∀ k, S k → k < w.heap.size → w'.heap[k]? = w.heap[k]?) :
    ∀ {ts : List Ty} {y : DenL ts} {cs : List Value}, EpVals τ S w ts y cs → EpVals τ S' w' ts y cs
  | [], y, cs, h => h
  | t :: r, y, cs, h => by obtain ⟨c, cr, rfl, g1, g2⟩ := h; exact ⟨c, cr, rfl, EpRel.frame hS hsz hk g1, EpVals.frame hS hsz hk g2⟩
def isRbox (p : PK) : Bool := match p with | .rbox _ => true | _ => false
theorem rb_nil {S : Nat → Prop} : ∀ {ps : List PK} {x : DenL (splitPs ps).1} {vals : List Value}, ps.all isRbox = true → ArgVals tab.ty S w (splitPs ps).1 x vals → vals = []
  | [], x, vals, _, h => h
  | .rbox t :: r, x, vals, hs, h => by
    simp only [List.all_cons, Bool.and_eq_true] at hs
    exact rb_nil (ps := r) hs.2 h
  | .val t :: r, x, vals, hs, h => by simp [isRbox] at hs
  | .box _ _ _ :: r, x, vals, hs, h => by simp [isRbox] at hs
  | .fn _ _ :: r, x, vals, hs, h => by simp [isRbox] at hs
  | .own _ _ :: r, x, vals, hs, h => by simp [isRbox] at hs
theorem joinPs_rboxes {S : Nat → Prop} : ∀ {ps : List PK} {x : DenL (splitPs ps).1} {y : DenL (splitPs ps).2} {z : PDs ps} {caps : List Value}, ps.all isRbox = true →
    joinPs ps x y = some z → EpVals tab.ty S w (splitPs ps).2 y caps → ArgsRel tab.ty P S w ps z caps []
  | [], x, y, z, caps, hs, hj, hc => ⟨hc, rfl⟩
  | .rbox t :: r, x, y, z, caps, hs, hj, hc => by
    obtain ⟨z', hz, hj⟩ := Option.bind_eq_some_iff.1 hj
    have := Option.some.inj hj
    subst this
    simp only [List.all_cons, Bool.and_eq_true] at hs
    obtain ⟨c, cr, rfl, h1, h2⟩ := hc
    exact ⟨c, cr, [], [], rfl, rfl, ⟨h1, rfl⟩, joinPs_rboxes hs.2 hz h2⟩
  | .val t :: r, x, y, z, caps, hs, hj, hc => by simp [isRbox] at hs
  | .box _ _ _ :: r, x, y, z, caps, hs, hj, hc => by simp [isRbox] at hs
  | .fn _ _ :: r, x, y, z, caps, hs, hj, hc => by simp [isRbox] at hs
  | .own _ _ :: r, x, y, z, caps, hs, hj, hc => by simp [isRbox] at hs
theorem joinPs_rel {S : Nat → Prop} : ∀ {ps : List PK} {x : DenL (splitPs ps).1} {y : DenL (splitPs ps).2} {z : PDs ps} {vals caps : List Value}, cloShape ps = true →
    joinPs ps x y = some z → ArgVals tab.ty S w (splitPs ps).1 x vals → EpVals tab.ty S w (splitPs ps).2 y caps → ArgsRel tab.ty P S w ps z (vals ++ caps) []
  | [], x, y, z, vals, caps, hs, hj, hv, hc => by
    have hv : vals = [] := hv
    subst hv
    exact ⟨hc, rfl⟩
  | .val t :: r, x, y, z, vals, caps, hs, hj, hv, hc => by
    obtain ⟨z', hz, hj⟩ := Option.bind_eq_some_iff.1 hj
    have := Option.some.inj hj
    subst this
    obtain ⟨v, vr, rfl, h1, h2⟩ := hv
    exact ⟨v, vr ++ caps, [], [], rfl, rfl, ⟨h1, rfl⟩, joinPs_rel (ps := r) hs hz h2 hc⟩
  | .rbox t :: r, x, y, z, vals, caps, hs, hj, hv, hc => by
    have hv' := rb_nil (ps := .rbox t :: r) hs hv
    subst hv'
    exact joinPs_rboxes (ps := .rbox t :: r) hs hj hc
  | .box _ _ _ :: r, x, y, z, vals, caps, hs, hj, hv, hc => by simp [cloShape] at hs
  | .fn _ _ :: r, x, y, z, vals, caps, hs, hj, hv, hc => by simp [cloShape] at hs
  | .own _ _ :: r, x, y, z, vals, caps, hs, hj, hv, hc => by simp [cloShape] at hs
theorem Good.clo {f : FuncId} {e : Ent} (hG : Good tab.ty P f e) (hs : cloShape e.ps = true) (hr : e.rs.all flatRK = true) {y : DenL (splitPs e.ps).2} {caps : List Value} (hc : EpVals tab.ty S w (splitPs e.ps).2 y caps) :
    FnRel tab.ty P S w (splitPs e.ps).1 (e.rs.map (·.t)) (cloFn e y (e.rs.map (·.t))) (.func (.func f) #[] caps.toArray) := by
  refine ⟨fun t ht => ?_, f, caps.toArray, rfl, hG.1, fun w' S' x vals r h1 h2 h3 h4 h5 h6 => ?_⟩
  · obtain ⟨k, hk, rfl⟩ := List.mem_map.1 ht
    have := List.all_eq_true.1 hr k hk
    unfold flatRK at this
    simp only [Bool.and_eq_true] at this
    exact this.1
  · unfold cloFn at h6
    obtain ⟨z, hz, h6⟩ := Option.bind_eq_some_iff.1 h6
    obtain ⟨z2, hz2, h6⟩ := Option.bind_eq_some_iff.1 h6
    have hc' : EpVals tab.ty S' w' (splitPs e.ps).2 y caps := hc.frame h1 h2 h3
    rw [show vals.toArray ++ caps.toArray = (vals ++ caps).toArray by simp]
    refine Calls.mono (hG.2 w' S' z (vals ++ caps) [] z2 h4 (joinPs_rel hs hz h5 hc') List.nodup_nil (fun k hk => by cases hk) hz2) (fun ex w'' hex => ?_)
    obtain ⟨vs, S1, B1, B2, he, hres, _, _, _, _, _, hfr⟩ := hex
    exact ⟨vs, he, rdsTo_vals h6 hr hres, hfr.mono (fun k hk => by cases hk)⟩
end
end Go.PE


set_option linter.unusedVariables false
set_option linter.unusedSimpArgs false
namespace Go.PE
section
variable {P : Program} {tab : Tab} {N : NN} {w0 : World} {F : FF} {S : Nat → Prop} {β : Lab → Value} {st : St} {a : Act} {w : World}
theorem frzAll_sound : ∀ {ls : List Lab} {st st' : St} {S : Nat → Prop}, Rel P tab.ty N w0 F S β st a w → frzAll st ls = some st' → ∃ S', (∀ k, S k → S' k) ∧ Rel P tab.ty N w0 F S' β st' a w
  | [], st, st', S, h, he => by have := Option.some.inj he; subst this; exact ⟨S, fun _ x => x, h⟩
  | l :: r, st, st', S, h, he => by
    unfold frzAll at he
    split at he
    · obtain ⟨s, hs, he⟩ := Option.bind_eq_some_iff.1 he
      obtain ⟨S1, h1, h2⟩ := h.frz hs
      obtain ⟨S2, h3, h4⟩ := frzAll_sound h2 he
      exact ⟨S2, fun k hk => h3 k (h1 k hk), h4⟩
    · exact frzAll_sound h he
def CapsRel (τ : TypeId → Option Ty) (S : Nat → Prop) (w : World) : List ((t : Ty) × t.den) → List Value → Prop
  | [], vs => vs = []
  | ⟨t, x⟩ :: r, vs => ∃ v vr, vs = v :: vr ∧ EpRel τ S w t x v ∧ CapsRel τ S w r vr
theorem CapsRel.mono {τ : TypeId → Option Ty} {S S' : Nat → Prop} (hS : ∀ k, S k → S' k) : ∀ {cs : List ((t : Ty) × t.den)} {vs : List Value}, CapsRel τ S w cs vs → CapsRel τ S' w cs vs
  | [], vs, h => h
  | ⟨t, x⟩ :: r, vs, h => by obtain ⟨v, vr, rfl, h1, h2⟩ := h; exact ⟨v, vr, rfl, EpRel.frame hS (Nat.le_refl _) (fun _ _ _ => rfl) h1, CapsRel.mono hS h2⟩
theorem CapsRel.snoc {τ : TypeId → Option Ty} {S : Nat → Prop} {t : Ty} {x : t.den} {v : Value} (hv : EpRel τ S w t x v) : ∀ {cs : List ((t : Ty) × t.den)} {vs : List Value}, CapsRel τ S w cs vs → CapsRel τ S w (cs ++ [⟨t, x⟩]) (vs ++ [v])
  | [], vs, h => by have h : vs = [] := h; subst h; exact ⟨v, [], rfl, hv, rfl⟩
  | ⟨t', x'⟩ :: r, vs, h => by obtain ⟨v', vr, rfl, h1, h2⟩ := h; exact ⟨v', vr ++ [v], rfl, h1, CapsRel.snoc hv h2⟩
theorem capD_rel {τ : TypeId → Option Ty} {S : Nat → Prop} : ∀ {ts : List Ty} {cs : List ((t : Ty) × t.den)} {y : DenL ts} {vals : List Value}, capD ts cs = some y →
    CapsRel τ S w cs vals → EpVals τ S w ts y vals
  | [], [], y, vals, h, hc => hc
  | [], _ :: _, y, vals, h, hc => by cases h
  | _ :: _, [], y, vals, h, hc => by cases h
  | t :: r, ⟨t', x⟩ :: q, y, vals, h, hc => by
    obtain ⟨y1, h1, h⟩ := Option.bind_eq_some_iff.1 h
    obtain ⟨z, h2, h⟩ := Option.bind_eq_some_iff.1 h
    have := Option.some.inj h
    subst this
    obtain ⟨v, vr, rfl, g1, g2⟩ := hc
    exact ⟨v, vr, rfl, EpRel.cast h1 g1, capD_rel h2 g2⟩
theorem SVrels.mono (hlt : ∀ k, S k → k < w.heap.size) {S' : Nat → Prop} (hS : ∀ k, S k → S' k) : ∀ {svs : List SV} {vs : List Value}, SVrels P tab.ty S β w svs vs → SVrels P tab.ty S' β w svs vs
  | [], vs, h => h
  | x :: r, vs, h => by obtain ⟨v, vr, rfl, h1, h2⟩ := h; exact ⟨v, vr, rfl, h1.frame hS (Nat.le_refl _) (fun _ _ _ => rfl) hlt (fun _ _ => rfl), SVrels.mono hlt hS h2⟩
theorem makeFunc_sound {Γ : Ctx} (hΓ : GoodΓ tab.ty P Γ) {f : FuncId} : ∀ {svs : List SV} {st st' : St} {S : Nat → Prop} {cs : List ((t : Ty) × t.den)} {lv : LV} {vals cvals : List Value},
    Rel P tab.ty N w0 F S β st a w → evMakeFunc Γ tab f st svs cs = some (st', lv) → SVrels P tab.ty S β w svs vals → CapsRel tab.ty S w cs cvals →
    ∃ S', (∀ k, S k → S' k) ∧ Rel P tab.ty N w0 F S' β st' a w ∧ LVrel P tab.ty S' β w lv (.func (.func f) #[] (cvals ++ vals).toArray)
  | [], st, st', S, cs, lv, vals, cvals, h, he, hv, hc => by
    have hv : vals = [] := hv
    subst hv
    obtain ⟨e, heg, he⟩ := Option.bind_eq_some_iff.1 he
    have he : (bif cloShape e.ps && e.rs.all flatRK then (capD (splitPs e.ps).2 cs).bind fun y => some (st, LV.clo (splitPs e.ps).1 (e.rs.map (·.t)) (cloFn e y (e.rs.map (·.t)))) else none) = some (st', lv) := he
    cases hq : (cloShape e.ps && e.rs.all flatRK) with
    | false => rw [hq] at he; cases he
    | true =>
      rw [hq] at he
      obtain ⟨y, hy, he⟩ := Option.bind_eq_some_iff.1 he
      obtain ⟨rfl, rfl⟩ := Prod.mk.inj (Option.some.inj he)
      simp only [Bool.and_eq_true] at hq
      rw [List.append_nil]
      exact ⟨S, fun _ x => x, h, (hΓ f e heg).clo hq.1 hq.2 (capD_rel hy hc)⟩
  | sv :: r, st, st', S, cs, lv, vals, cvals, h, he, hv, hc => by
    obtain ⟨v, vr, rfl, h1, h2⟩ := hv
    cases sv with
    | dead => cases he
    | skip => cases he
    | tup _ => cases he
    | ap _ _ _ _ => cases he
    | ep t x =>
      have he : evMakeFunc Γ tab f st r (cs ++ [⟨t, x⟩]) = some (st', lv) := he
      have := makeFunc_sound hΓ h he h2 (hc.snoc h1)
      rw [List.append_assoc] at this
      exact this
    | cv c =>
      cases c with
      | agg _ => cases he
      | one u =>
        cases u <;> try (cases he; done)
        case ptr l off =>
        cases off with
        | succ n => cases he
        | zero =>
          obtain ⟨⟨st1, t, x⟩, hf, he⟩ := Option.bind_eq_some_iff.1 he
          obtain ⟨S1, g1, g2, g3⟩ := h.frzBox hf h1
          obtain ⟨S2, k1, k2, k3⟩ := makeFunc_sound hΓ g2 he (h2.mono h.sb g1) ((hc.mono g1).snoc g3)
          rw [List.append_assoc] at k3
          exact ⟨S2, fun k hk => k1 k (g1 k hk), k2, k3⟩
def Post (P : Program) (tab : Tab) (N : NN) (w0 : World) (F : FF) (S : Nat → Prop) (β : Lab → Value) (a : Act) (w : World) (o : Oper) {R : Type} (k : St → List Lab → Option R) (res : R) : Prop :=
  ∀ (Q : Exit → Act → World → Prop) (K : Act → World → Prop),
    (∀ x w' S' β' s W, (∀ k, S k → S' k) → (∀ l : Lab, l.1 ≠ o.dst.getD 999999999 → β' l = β l) → Rel P tab.ty N w0 F S' β' s (a.put o.dst x) w' → k s W = some res → K (a.put o.dst x) w') → o.wp P a w K Q
theorem GoodO.fin {o : Oper} {v : SV} {del : List Lab} {u : Upd} {R : Type} {k : St → List Lab → Option R} {res : R} (hg : GoodO P tab N w0 F S β st a w o v del u) (hd : ∀ d, o.dst = some d → okD N d)
    (hf : finish st o v del u k = some res) : Post P tab N w0 F S β a w o k res := by
  obtain ⟨s, hs, hk⟩ := Option.bind_eq_some_iff.1 hf
  intro Q K hK
  refine hg Q K (fun x w' hx => ?_)
  obtain ⟨S', β', h1, hβ, h2, h3⟩ := hx s hs
  exact hK x w' S' β' _ _ h1 hβ (h2.put hd h3) hk
theorem Post.mono {o : Oper} {R : Type} {k : St → List Lab → Option R} {res : R} {S1 : Nat → Prop} (hS : ∀ k, S k → S1 k) (h : Post P tab N w0 F S1 β a w o k res) : Post P tab N w0 F S β a w o k res :=
  fun Q K hK => h Q K (fun x w' S' β' s W h1 h2 h3 h4 => hK x w' S' β' s W (fun k hk => h1 k (hS k hk)) h2 h3 h4)
theorem evCore_sound {Γ : Ctx} (hΓ : GoodΓ tab.ty P Γ) (hTab : TabOK P tab) {kn : List (Nat × Bool)} (hk : KnOk kn a) {S1 : Nat → Prop} {st1 : St} (h : Rel P tab.ty N w0 F S1 β st1 a w) {o : Oper} (hd : ∀ d, o.dst = some d → okD N d) {R : Type} {k : St → List Lab → Option R} {res : R}
    (he : evCore Γ tab kn st1 o k = some res) : Post P tab N w0 F S1 β a w o k res := by
  unfold evCore at he
  have simple : (ev1 tab kn (svOf st1.slots) (oget st1.objs) (o.dst.getD 999999999) o.op o.type).bind (fun r => bif r.1 then finish st1 o r.2.1 [] r.2.2 k else none) = some res → Post P tab N w0 F S1 β a w o k res := by
    intro he
    obtain ⟨⟨c, v, u⟩, hr, he⟩ := Option.bind_eq_some_iff.1 he
    cases hc : c with
    | false => rw [hc] at he; cases he
    | true =>
      rw [hc] at he
      exact (ev1_sound hTab hk h hr hc).toO.fin hd he
  cases ho : o.op <;> rw [ho] at he simple <;> try exact simple he
  case convert sT dT x =>
    simp only at he
    cases hb : evBytes tab (oget st1.objs) sT dT (svOf st1.slots x) with
    | none => rw [hb] at he; exact simple he
    | some r =>
      obtain ⟨c, v, del⟩ := r
      rw [hb] at he
      simp only at he
      cases hc : c with
      | false => rw [hc] at he; cases he
      | true =>
        rw [hc] at he
        exact (bytes_sound hTab h ho hb hc).fin hd he
  case makeFunc fn first captured =>
    clear simple
    cases fn <;> try (cases he; done)
    case func f =>
    cases hfirst : first.toList with
    | cons _ _ => simp only [hfirst] at he; cases he
    | nil =>
      simp only [hfirst] at he
      obtain ⟨⟨st2, lv⟩, hm, he⟩ := Option.bind_eq_some_iff.1 he
      obtain ⟨S2, g1, g2, g3⟩ := makeFunc_sound hΓ h hm (svs_rel h captured.toList) (cs := []) (cvals := []) rfl
      refine Post.mono g1 (GoodO.fin (Good1.toO (Good1.plain g2 (x := .func (.func f) #[] (captured.map a.eval)) ?_ ?_)) hd he)
      · unfold execOp
        have e1 : first = #[] := by apply Array.ext'; simpa using hfirst
        subst e1
        simp [ho, Instr.makeFunc]
      · have e2 : captured.map a.eval = ([] ++ captured.toList.map a.eval).toArray := by apply Array.ext'; simp
        rw [e2]
        exact g3
  case call cl =>
    obtain ⟨callee, args, argTypes⟩ := cl
    cases callee with
    | invoke r m => exact simple he
    | builtin b =>
      cases b <;> try exact simple he
      case append =>
      clear simple
      simp only at he
      split at he
      case h_2 => cases he
      case h_1 s x T T' ha ht =>
      obtain ⟨⟨c, v, del, u⟩, hr, he⟩ := Option.bind_eq_some_iff.1 he
      cases hc : c with
      | false => rw [hc] at he; cases he
      | true =>
        rw [hc] at he
        cases hil : isL (oget st1.objs) (svOf st1.slots x) with
        | true => rw [hil] at hr; exact (appendL_sound hTab h ho ha ht hr).fin hd he
        | false => rw [hil] at hr; exact (append_sound hTab h ho ha ht hr hc).fin hd he
    | value f =>
      clear simple
      simp only at he
      split at he
      case h_3 => cases he
      case h_1 g hf =>
        obtain ⟨e, heg, he⟩ := Option.bind_eq_some_iff.1 he
        obtain ⟨v, del, u, hfin, hg⟩ := call_sound hΓ h ho hf heg he
        exact hg.fin hd hfin
      case h_2 ps rs g hf =>
        obtain ⟨⟨x, rd⟩, hx, he⟩ := Option.bind_eq_some_iff.1 he
        cases hq : rd.all (isObj (oget st1.objs)) with
        | false => simp only [hq] at he; cases he
        | true =>
          simp only [hq, cond_true] at he
          obtain ⟨r, hr, he⟩ := Option.bind_eq_some_iff.1 he
          exact (clo_sound h ho hf hx hq hr).fin hd he
theorem evOp_sound {Γ : Ctx} (hΓ : GoodΓ tab.ty P Γ) (hTab : TabOK P tab) {kn : List (Nat × Bool)} (hk : KnOk kn a) (h0 : Rel P tab.ty N w0 F S β st a w) {o : Oper} (hd : ∀ d, o.dst = some d → okD N d) {R : Type} {k : St → List Lab → Option R} {res : R}
    (he : evOp Γ tab kn st o k = some res) : Post P tab N w0 F S β a w o (fun s W => k s ((bif frzd st (needFrz Γ (svOf st.slots) o) || isMakeFunc o then st.objs.map (·.1) else []) ++ W)) res := by
  unfold evOp at he
  obtain ⟨st1, hz, he⟩ := Option.bind_eq_some_iff.1 he
  obtain ⟨S1, hS1, h⟩ := frzAll_sound h0 hz
  exact Post.mono hS1 (evCore_sound hΓ hTab hk h hd he)
end
end Go.PE


set_option linter.unusedVariables false
set_option linter.unusedSimpArgs false
namespace Go.PE
section
variable {P : Program} {tab : Tab} {N : NN} {w0 : World} {F : FF} {S : Nat → Prop} {β : Lab → Value} {st : St} {a : Act} {w : World}
theorem KnOk.cons {kn : List (Nat × Bool)} (h : KnOk kn a) {t : Nat} {b : Bool} (hb : a.tmps.getD t undef = .bool b) : KnOk ((t, b) :: kn) a := by
  intro u c hu
  simp only [knGet] at hu
  cases hq : Nat.beq t u with
  | true =>
    rw [hq] at hu
    have e := Nat.eq_of_beq_eq_true hq
    subst e
    have := Option.some.inj hu
    subst this
    exact hb
  | false => rw [hq] at hu; exact h u c hu
theorem knGet_del {kn : List (Nat × Bool)} {d : Option Nat} {t : Nat} {b : Bool} (h : knGet (knDel kn d) t = some b) : knGet kn t = some b ∧ d ≠ some t := by
  cases d with
  | none => exact ⟨h, by simp⟩
  | some d =>
    simp only [knDel] at h
    induction kn with
    | nil => cases h
    | cons p r ih =>
      obtain ⟨u, c⟩ := p
      rw [List.filter_cons] at h
      by_cases hq : u = d
      · rw [show (!(Nat.beq u d)) = false by rw [nbeq_iff.2 hq]; rfl] at h
        obtain ⟨h1, h2⟩ := ih h
        refine ⟨?_, h2⟩
        simp only [knGet]
        have : u ≠ t := fun e => h2 (by rw [← hq, e])
        rw [nbeq_false.2 this]
        exact h1
      · rw [show (!(Nat.beq u d)) = true by rw [nbeq_false.2 hq]; rfl] at h
        simp only [if_true, knGet] at h ⊢
        cases hb : Nat.beq u t with
        | true =>
          rw [hb] at h
          refine ⟨h, fun e => hq ?_⟩
          have := Option.some.inj e
          rw [this]; exact Nat.eq_of_beq_eq_true hb
        | false =>
          rw [hb] at h
          exact ih h
theorem KnOk.del {kn : List (Nat × Bool)} (h : KnOk kn a) {d : Option Nat} {x : Value} : KnOk (knDel kn d) (a.put d x) := by
  intro t b ht
  obtain ⟨h1, h2⟩ := knGet_del ht
  have := h t b h1
  cases d with
  | none => exact this
  | some d =>
    have hne : d ≠ t := fun e => h2 (by rw [e])
    simp only [Act.put, Array.getD_eq_getD_getElem?, Array.getElem?_setIfInBounds]
    rw [if_neg hne]
    rw [Array.getD_eq_getD_getElem?] at this
    exact this
theorem bothEq_some {R : Type} {x y : Option R} {r : R} (h : bothEq x y = some r) : x = some r ∧ y = some r := by
  unfold bothEq at h
  split at h
  · rename_i e _; exact ⟨h, by rw [← e]; exact h⟩
  · cases h
theorem onBool_sound {kn : List (Nat × Bool)} (hk : KnOk kn a) {t : Nat} {v : SV} (hv : SVrel P tab.ty S β w v (a.tmps.getD t undef)) {R : Type} {k : List (Nat × Bool) → Bool → Option R} {res : R}
    (he : onBool kn t v k = some res) : ∃ kn' b, KnOk kn' a ∧ a.tmps.getD t undef = .bool b ∧ k kn' b = some res := by
  unfold onBool at he
  split at he
  · rename_i b hb; exact ⟨kn, b, hk, hk t b hb, he⟩
  · split at he
    · rename_i b; exact ⟨kn, b, hk, hv, he⟩
    · rename_i x
      have hx : a.tmps.getD t undef = .bool x := List.singleton_inj.1 hv
      cases hxb : (show Bool from x) with
      | true =>
        have hxb : x = true := hxb
        subst hxb
        exact ⟨(t, true) :: kn, true, hk.cons hx, hx, he⟩
      | false =>
        have hxb : x = false := hxb
        subst hxb
        exact ⟨(t, false) :: kn, false, hk.cons hx, hx, he⟩
    · rename_i ne
      obtain ⟨b, hb, hne⟩ := hv
      cases ne with
      | true =>
        have := hne rfl
        subst this
        exact ⟨(t, false) :: kn, false, hk.cons hb, hb, he⟩
      | false =>
        obtain ⟨h1, h2⟩ := bothEq_some he
        cases b with
        | true => exact ⟨(t, true) :: kn, true, hk.cons hb, hb, h1⟩
        | false => exact ⟨(t, false) :: kn, false, hk.cons hb, hb, h2⟩
    · cases he
theorem yielded_of {ops : Array Oper} {i t : Nat} {b : Bool} (ht : (ops.toList[i]?).bind (·.dst) = some t) (hb : a.tmps.getD t undef = .bool b) : yielded ops a.tmps i = some b := by
  unfold yielded
  rw [Array.getElem?_toList] at ht
  rw [ht]
  simp only [Option.bind_some]
  rw [Array.getD_eq_getD_getElem?] at hb
  cases hq : a.tmps[t]? with
  | none => rw [hq] at hb; cases hb
  | some v => rw [hq] at hb; have hb : v = .bool b := hb; rw [hb]
theorem yielded_undef {ops : Array Oper} {i t : Nat} (ht : (ops.toList[i]?).bind (·.dst) = some t) (hb : a.tmps.getD t undef = undef) : yielded ops a.tmps i = none := by
  unfold yielded
  rw [Array.getElem?_toList] at ht
  rw [ht]
  simp only [Option.bind_some]
  rw [Array.getD_eq_getD_getElem?] at hb
  cases hq : a.tmps[t]? with
  | none => rfl
  | some v => rw [hq] at hb; have hb : v = undef := hb; rw [hb]; rfl
theorem evOps_sound {Γ : Ctx} (hΓ : GoodΓ tab.ty P Γ) (hTab : TabOK P tab) {ops : Array Oper} {R : Type} {k : St → Option R} {res : R} {Q : Exit → Act → World → Prop} : ∀ {l : List Oper} {kn : List (Nat × Bool)} {st : St} {S : Nat → Prop} {β : Lab → Value} {a : Act} {w : World},
    (∀ o ∈ l, ∀ d, o.dst = some d → okD N d) → KnOk kn a → Rel P tab.ty N w0 F S β st a w → evOps Γ tab ops.toList l kn st k = some res →
    (∀ a' w' S' β' s, (∀ k, S k → S' k) → Rel P tab.ty N w0 F S' β' s a' w' → k s = some res → Q .normal a' w') → wpList P ops Q l a w
  | [], kn, st, S, β, a, w, hd, hk, h, he, hQ => hQ a w S β st (fun _ x => x) h he
  | o :: r, kn, st, S, β, a, w, hd, hk, h, he, hQ => by
    have hdo := hd o (List.mem_cons_self ..)
    have hdr : ∀ o ∈ r, ∀ d, o.dst = some d → okD N d := fun o ho => hd o (List.mem_cons_of_mem _ ho)
    have run : ∀ kn', KnOk kn' a → evOp Γ tab kn' st o (fun s _ => evOps Γ tab ops.toList r (knDel kn' o.dst) s k) = some res → o.wp P a w (wpList P ops Q r) Q := by
      intro kn' hk' he
      refine evOp_sound hΓ hTab hk' h hdo he Q _ (fun x w' S' β' s W h1 _ h2 h3 => ?_)
      exact evOps_sound hΓ hTab hdr hk'.del h2 h3 (fun a' w'' S'' β'' s' g1 g2 g3 => hQ a' w'' S'' β'' s' (fun k hk => g1 k (h1 k hk)) g2 g3)
    have skip : ∀ kn', KnOk kn' a → evOps Γ tab ops.toList r (knDel kn' o.dst) (putS st o.dst .skip) k = some res → wpList P ops Q r (a.put o.dst undef) w := by
      intro kn' hk' he
      exact evOps_sound hΓ hTab hdr hk'.del (h.put hdo (v := .skip) rfl) he hQ
    simp only [wpList]
    unfold evOps at he
    cases hg : o.guard with
    | none =>
      rw [hg] at he
      have : Region.wanted o (yielded ops a.tmps) = true := by simp [Region.wanted, hg]
      rw [if_pos this]
      exact .inl (run kn hk he)
    | some gw =>
      obtain ⟨i, want⟩ := gw
      rw [hg] at he
      cases ht : (ops.toList[i]?).bind (·.dst) with
      | none => simp only [ht] at he; cases he
      | some t =>
        simp only [ht] at he
        by_cases hsk : sget st.slots t = .skip
        · simp only [hsk] at he
          have hv : a.tmps.getD t undef = undef := by have := h.slots t; rw [hsk] at this; exact this
          have hy := yielded_undef ht hv
          have hw : Region.wanted o (yielded ops a.tmps) = false := by simp [Region.wanted, hg, hy]
          rw [if_neg (by rw [hw]; decide)]
          exact skip kn hk he
        have he : onBool kn t (sget st.slots t) (fun kn' b =>
          match b, want with
          | true, true => evOp Γ tab kn' st o fun s _ => evOps Γ tab ops.toList r (knDel kn' o.dst) s k
          | false, false => evOp Γ tab kn' st o fun s _ => evOps Γ tab ops.toList r (knDel kn' o.dst) s k
          | _, _ => evOps Γ tab ops.toList r (knDel kn' o.dst) (putS st o.dst .skip) k) = some res := by
          cases hsv : sget st.slots t <;> first | (exact absurd hsv hsk) | (rw [hsv] at he; exact he)
        obtain ⟨kn', b, hk', hb, he⟩ := onBool_sound hk (h.slots t) he
        have hy := yielded_of ht hb
        have hw : Region.wanted o (yielded ops a.tmps) = (some b == some want) := by simp [Region.wanted, hg, hy]
        cases b <;> cases want <;> simp only at he
        · rw [if_pos (by rw [hw]; rfl)]; exact .inl (run kn' hk' he)
        · rw [if_neg (by rw [hw]; decide)]; exact skip kn' hk' he
        · rw [if_neg (by rw [hw]; decide)]; exact skip kn' hk' he
        · rw [if_pos (by rw [hw]; rfl)]; exact .inl (run kn' hk' he)
theorem sget_slotSet (t : Nat) (v : SV) (u : Nat) : ∀ (s : List (Nat × SV)), sget (s.map fun p => bif Nat.beq p.1 t then (t, v) else p) u = .dead ∨
    (u ≠ t ∧ sget (s.map fun p => bif Nat.beq p.1 t then (t, v) else p) u = sget s u) ∨ (u = t ∧ sget (s.map fun p => bif Nat.beq p.1 t then (t, v) else p) u = v)
  | [] => .inl rfl
  | (m, x) :: r => by
    have ih := sget_slotSet t v u r
    rw [List.map_cons]
    cases hm : Nat.beq m t with
    | true =>
      have e := Nat.eq_of_beq_eq_true hm
      subst e
      simp only [cond_true]
      rw [sget_cons, sget_cons]
      by_cases hu : m = u
      · rw [if_pos hu]; exact .inr (.inr ⟨hu.symm, rfl⟩)
      · rw [if_neg hu, if_neg hu]; exact ih
    | false =>
      simp only [cond_false]
      rw [sget_cons, sget_cons]
      have hne := nbeq_false.1 hm
      by_cases hu : m = u
      · rw [if_pos hu, if_pos hu]; exact .inr (.inl ⟨fun e => hne (hu.trans e), rfl⟩)
      · rw [if_neg hu, if_neg hu]; exact ih
theorem Rel.slotSet (h : Rel P tab.ty N w0 F S β st a w) {t : Nat} {v : SV} (hv : SVrel P tab.ty S β w v (a.tmps.getD t undef)) : Rel P tab.ty N w0 F S β (PE.slotSet st t v) a w := by
  refine ⟨h.sb, fun u => ?_, h.objs, h.excl, h.dist, h.fr, h.size, h.nodef, h.within, h.par⟩
  show SVrel P tab.ty S β w (sget (st.slots.map fun p => bif Nat.beq p.1 t then (t, v) else p) u) _
  rcases sget_slotSet t v u st.slots with e | ⟨_, e⟩ | ⟨rfl, e⟩
  · rw [e]; trivial
  · rw [e]; exact h.slots u
  · rw [e]; exact hv
theorem Rel.newNil (h : Rel P tab.ty N w0 F S β st a w) {m : Lab} (hf : fresh st m = true) {eT : TypeId} {e : Ty} (hp : 0 < e.cells) :
    Rel P tab.ty N w0 F S (updβ β m (.slice none 0 0)) { st with objs := (m, .row eT e []) :: st.objs } a w := by
  obtain ⟨h1, h2, h3⟩ := fresh_spec hf
  refine h.setObj (ob := .row eT e []) (X := fun _ => False) (Fr.refl _ w) (fun _ _ x => x.elim) (.inr ⟨h2, fun k ob hk _ => h3 k ob hk⟩) (.inr (by simp [obRefs])) ⟨hp, [], World.ownsRow_nil w 0 eT e.cells, rfl⟩ (fun b hb => by cases hb) (fun k => by rw [oget_cons])
theorem Rel.renOb (h : Rel P tab.ty N w0 F S β st a w) {l m : Lab} (hlm : l ≠ m) {ob1 : Ob} (hol : oget st.objs l = some ob1) (hf : fresh st m = true) :
    ∃ β', Rel P tab.ty N w0 F S β' { slots := st.slots.map fun p => (p.1, svSub (lvRen l m) (fun k => bif lbeq k l then m else k) p.2), objs := (odel st.objs l).map (fun p => (p.1, obSub (lvRen l m) p.2)) ++ [(m, ob1)] } a w ∧ (∀ k, k ≠ m → β' k = β k) := by
  obtain ⟨h1, h2, h3⟩ := fresh_spec hf
  have hother : ∀ k, k ≠ m → updβ β m (β l) k = β k := fun k hk => updβ_other hk
  have hlv : ∀ v c, (∀ k ∈ lvRefs v, k ≠ m) → LVrel P tab.ty S β w v c → LVrel P tab.ty S (updβ β m (β l)) w (lvRen l m v) c := by
    intro v c hm hv
    cases v <;> try exact hv.frame (fun _ x => x) (Nat.le_refl _) (fun _ _ _ => rfl) h.sb (fun k hk => hother k (hm k hk))
    case ref k =>
      simp only [lvRen]
      cases hkl : lbeq k l with
      | true =>
        have := lbeq_iff.1 hkl
        subst this
        exact ⟨by rw [updβ_same]; exact hv.1, hv.2⟩
      | false => exact ⟨by rw [hother k (hm k (by simp [lvRefs]))]; exact hv.1, hv.2⟩
  have hlvs : ∀ vs cs, (∀ k ∈ vs.flatMap lvRefs, k ≠ m) → LVrels P tab.ty S β w vs cs → LVrels P tab.ty S (updβ β m (β l)) w (vs.map (lvRen l m)) cs := by
    intro vs
    induction vs with
    | nil => intro cs _ hv; exact hv
    | cons v r ih =>
      intro cs hm hv
      obtain ⟨c, cr, rfl, g1, g2⟩ := hv
      exact ⟨c, cr, rfl, hlv v c (fun k hk => hm k (by simp [hk])) g1, ih cr (fun k hk => hm k (by simp only [List.flatMap_cons, List.mem_append]; exact .inr hk)) g2⟩
  have hcv : ∀ c v, (∀ k ∈ cvRefs c, k ≠ m) → CVrel P tab.ty S β w c v → CVrel P tab.ty S (updβ β m (β l)) w (lvSub (lvRen l m) c) v := by
    intro c v hm hv
    cases c with
    | one u => exact hlv u v hm hv
    | agg vs => obtain ⟨cs, e1, hc⟩ := hv; exact ⟨cs, e1, hlvs vs cs hm hc⟩
  refine ⟨updβ β m (β l), ⟨h.sb, fun t => ?_, fun k ob hk => ?_, fun k ob hk b hb => ?_, fun k k' ob ob' hk hk' hne b hb => ?_, h.fr, h.size, h.nodef, h.within, h.par⟩, hother⟩
  · have e1 : sget (st.slots.map fun p => (p.1, svSub (lvRen l m) (fun k => bif lbeq k l then m else k) p.2)) t = svSub (lvRen l m) (fun k => bif lbeq k l then m else k) (sget st.slots t) :=
      sget_map (fun v => svSub (lvRen l m) (fun k => bif lbeq k l then m else k) v) rfl st.slots t
    show SVrel P tab.ty S _ w (sget (st.slots.map fun p => (p.1, svSub (lvRen l m) (fun k => bif lbeq k l then m else k) p.2)) t) _
    rw [e1]
    have hs := h.slots t
    have hm := h2 t
    revert hs hm
    generalize sget st.slots t = sv
    intro hs hm
    have hm' : ∀ k ∈ svRefs sv, k ≠ m := fun k hk e => hm (e ▸ hk)
    cases sv with
    | dead => trivial
    | skip => exact hs
    | cv c => exact hcv c _ hm' hs
    | ep t x => exact hs
    | tup cs =>
      obtain ⟨vs, e2, hc⟩ := hs
      refine ⟨vs, e2, ?_⟩
      clear e2
      have hm'' : ∀ k ∈ cs.flatMap cvRefs, k ≠ m := hm'
      clear hm hm' e1
      induction cs generalizing vs with
      | nil => exact hc
      | cons c r ih =>
        obtain ⟨v, vr, rfl, g1, g2⟩ := hc
        exact ⟨v, vr, rfl, hcv c v (fun k hk => hm'' k (by simp [hk])) g1, ih vr g2 (fun k hk => hm'' k (by simp only [List.flatMap_cons, List.mem_append]; exact .inr hk))⟩
    | ap k i off sz =>
      obtain ⟨b, g1, g2⟩ := hs
      refine ⟨b, ?_, g2⟩
      cases hkl : lbeq k l with
      | true =>
        have := lbeq_iff.1 hkl
        subst this
        show blk (updβ β m (β k) (bif lbeq k k then m else k)) = some b
        rw [hkl, cond_true, updβ_same]; exact g1
      | false =>
        show blk (updβ β m (β l) (bif lbeq k l then m else k)) = some b
        rw [hkl, cond_false, hother k (hm' k (by simp [svRefs]))]; exact g1
  all_goals
    have look : ∀ k ob, oget ((odel st.objs l).map (fun p => (p.1, obSub (lvRen l m) p.2)) ++ [(m, ob1)]) k = some ob →
        (k = m ∧ ob = ob1) ∨ (k ≠ m ∧ k ≠ l ∧ ∃ ob0, oget st.objs k = some ob0 ∧ ob = obSub (lvRen l m) ob0) := by
      intro k ob hk
      rw [oget_append] at hk
      have e1 : oget ((odel st.objs l).map fun p => (p.1, obSub (lvRen l m) p.2)) k = (oget (odel st.objs l) k).map (obSub (lvRen l m)) := oget_map _ _ _
      rw [e1, oget_odel] at hk
      by_cases hkl : l = k
      · rw [if_pos hkl] at hk
        simp only [Option.map_none, oget_cons] at hk
        split at hk
        · rename_i e2; exact .inl ⟨e2.symm, (Option.some.inj hk).symm⟩
        · cases hk
      · rw [if_neg hkl] at hk
        cases ho : oget st.objs k with
        | none =>
          rw [ho] at hk
          simp only [Option.map_none, oget_cons] at hk
          split at hk
          · rename_i e2; exact .inl ⟨e2.symm, (Option.some.inj hk).symm⟩
          · cases hk
        | some ob0 =>
          rw [ho] at hk
          have hk := Option.some.inj hk
          exact .inr ⟨(fun e2 => by rw [e2, h1] at ho; cases ho), (fun e2 => hkl e2.symm), ob0, rfl, hk.symm⟩
  · rcases look k ob hk with ⟨rfl, rfl⟩ | ⟨hkm, hkl, ob0, ho, rfl⟩
    · rw [updβ_same]
      exact (h.objs l _ hol).frame (fun _ x => x) (Nat.le_refl _) (fun _ _ _ => rfl) h.sb (fun k hk => hother k (fun e => h3 l _ hol (e ▸ hk))) (fun _ _ => rfl)
    · rw [hother k hkm]
      have hob := h.objs k ob0 ho
      have hrf := h3 k ob0 ho
      cases ob0 with
      | row eT' e' xs' => exact hob
      | arr eT' e' xs' => exact hob
      | lrow eT' vs =>
        obtain ⟨cells, g1, g3⟩ := hob
        exact ⟨cells, (by rw [List.length_map]; exact g1), hlvs vs _ (fun k' hk' e => hrf (e ▸ hk')) g3⟩
      | box T vs =>
        obtain ⟨b, T', cs, g1, g2, g3⟩ := hob
        exact ⟨b, T', cs, g1, g2, hlvs vs _ (fun k' hk' e => hrf (e ▸ hk')) g3⟩
  · rcases look k ob hk with ⟨rfl, rfl⟩ | ⟨hkm, hkl, ob0, ho, rfl⟩
    · rw [updβ_same] at hb; exact h.excl l _ hol b hb
    · rw [hother k hkm] at hb; exact h.excl k ob0 ho b hb
  · rcases look k ob hk with ⟨rfl, rfl⟩ | ⟨hkm, hkl, ob0, ho, rfl⟩
    · rcases look k' ob' hk' with ⟨rfl, rfl⟩ | ⟨hkm', hkl', ob0', ho', rfl⟩
      · exact absurd rfl hne
      · rw [updβ_same] at hb
        rw [hother k' hkm']
        exact h.dist l k' _ ob0' hol ho' (fun e => hkl' e.symm) b hb
    · rcases look k' ob' hk' with ⟨rfl, rfl⟩ | ⟨hkm', hkl', ob0', ho', rfl⟩
      · rw [hother k hkm] at hb
        rw [updβ_same]
        exact h.dist k l ob0 _ ho hol hkl b hb
      · rw [hother k hkm] at hb
        rw [hother k' hkm']
        exact h.dist k k' ob0 ob0' ho ho' hne b hb
theorem Rel.ren (h : Rel P tab.ty N w0 F S β st a w) {l m : Lab} {st' : St} (hr : PE.ren st l m = some st') : ∃ β', Rel P tab.ty N w0 F S β' st' a w ∧ (∀ k, k ≠ m → β' k = β k) := by
  unfold PE.ren at hr
  cases hq : lbeq l m with
  | true => rw [hq] at hr; have := Option.some.inj hr; subst this; exact ⟨β, h, fun _ _ => rfl⟩
  | false =>
    rw [hq] at hr
    have hlm := lbeq_false.1 hq
    simp only [cond_false] at hr
    split at hr
    case h_3 => cases hr
    case h_1 eT e xs hol =>
      cases hf : fresh st m with
      | false => rw [hf] at hr; cases hr
      | true =>
        rw [hf] at hr
        have := Option.some.inj hr
        subst this
        exact h.renOb hlm hol hf
    case h_2 eT vs hol =>
      cases hf : (fresh st m && !(lmem l (vs.flatMap lvRefs))) with
      | false => rw [hf] at hr; cases hr
      | true =>
        rw [hf] at hr
        have := Option.some.inj hr
        subst this
        simp only [Bool.and_eq_true] at hf
        exact h.renOb hlm hol hf.1
end
end Go.PE


set_option linter.unusedVariables false
set_option linter.unusedSimpArgs false
namespace Go.PE
section
variable {P : Program} {tab : Tab} {N : NN} {w0 : World} {F : FF} {S : Nat → Prop} {β : Lab → Value} {st : St} {a : Act} {w : World}
theorem normBox_sound {fi : Fi} {t : Nat} {l : Lab} : ∀ {vs : List LV} {tys : List Ty} {j : Nat} {st st' : St} {S : Nat → Prop} {β : Lab → Value}, Rel P tab.ty N w0 F S β st a w → normBox fi t l vs tys j st = some st' →
    ∃ S' β', (∀ k, S k → S' k) ∧ Rel P tab.ty N w0 F S' β' st' a w
  | [], tys, j, st, st', S, β, h, he => by
    have he : some st = some st' := by cases tys <;> exact he
    have := Option.some.inj he; subst this; exact ⟨S, β, fun _ x => x, h⟩
  | v :: r, [], j, st, st', S, β, h, he => by
    have he : some st = some st' := by cases v <;> exact he
    have := Option.some.inj he; subst this; exact ⟨S, β, fun _ x => x, h⟩
  | v :: r, ty :: q, j, st, st', S, β, h, he => by
    cases v <;> try exact normBox_sound (vs := r) (tys := q) (j := j + 1) h he
    case ref m =>
      have he : (bif pmem (t, j + 1) fi.vals then (frz st m).bind fun s => normBox fi t l r q (j + 1) s else (ren st m (l.1, j + 1)).bind fun s => normBox fi t l r q (j + 1) s) = some st' := he
      cases hp : pmem (t, j + 1) fi.vals with
      | true =>
        rw [hp] at he
        obtain ⟨s, hs, he⟩ := Option.bind_eq_some_iff.1 he
        obtain ⟨S1, g1, g2⟩ := h.frz hs
        obtain ⟨S2, β2, g3, g4⟩ := normBox_sound g2 he
        exact ⟨S2, β2, fun k hk => g3 k (g1 k hk), g4⟩
      | false =>
        rw [hp] at he
        obtain ⟨s, hs, he⟩ := Option.bind_eq_some_iff.1 he
        obtain ⟨β1, g2, _⟩ := h.ren hs
        exact normBox_sound g2 he
    case nil =>
      cases ty <;> try (cases he; done)
      case sl eT e =>
      have he : (match oget st.objs l with
        | some (.box T' vs) => match vs[j]? with
          | some .nil => bif pmem (t, j + 1) fi.vals then normBox fi t l r q (j + 1) { st with objs := oset st.objs l (.box T' (vs.set j (.pure (.sl eT e) []))) }
            else bif fresh st (l.1, j + 1) && Nat.blt 0 e.cells then
              normBox fi t l r q (j + 1) { st with objs := ((l.1, j + 1), .row eT e []) :: oset st.objs l (.box T' (vs.set j (.ref (l.1, j + 1)))) }
            else none
          | _ => none
        | _ => none) = some st' := he
      cases hol : oget st.objs l with
      | none => rw [hol] at he; cases he
      | some ob =>
        rw [hol] at he
        cases ob <;> try (cases he; done)
        case box T' vs =>
        simp only at he
        cases hvj : vs[j]? with
        | none => rw [hvj] at he; cases he
        | some u =>
          rw [hvj] at he
          cases u <;> try (cases he; done)
          case nil =>
          simp only at he
          obtain ⟨b, T'', cs, hβ, hh, hrels⟩ := h.objs l _ hol
          obtain ⟨c, hcj, hc⟩ := hrels.get j hvj
          have hc : c = .slice none 0 0 := hc
          subst hc
          have hset : cs.toList.set j (.slice none 0 0) = cs.toList := by
            apply List.ext_getElem?
            intro i
            rw [List.getElem?_set]
            split
            · rename_i e1; subst e1
              split
              · exact hcj.symm
              · rename_i hlt; rw [List.getElem?_eq_none (by omega)]
            · rfl
          have hgo : ∀ ob m, (if l = m then some ob else oget st.objs m) = (if l = m then (oget st.objs l).map (fun _ => ob) else oget st.objs m) := fun ob m => by rw [hol]; rfl
          cases hp : pmem (t, j + 1) fi.vals with
          | true =>
            rw [hp] at he
            have h1 : Rel P tab.ty N w0 F S (updβ β l (β l)) { st with objs := oset st.objs l (.box T' (vs.set j (.pure (.sl eT e) []))) } a w := by
              refine h.setObj (ob := .box T' (vs.set j (.pure (.sl eT e) []))) (X := fun _ => False) (Fr.refl _ w) (fun _ _ x => x.elim) (.inl rfl) (.inl rfl) ⟨b, T'', cs, hβ, hh, ?_⟩ (fun k hk => ⟨.inr ⟨⟨_, hol⟩, hk⟩, (h.excl l _ hol k hk).2.2⟩) (fun m => by rw [oget_oset, hgo])
              have := hrels.set j (v := .pure (.sl eT e) []) (c := .slice none 0 0) ⟨none, 0, rfl, Nat.le_refl _, by simp [maxLen], fun h => absurd h (by simp)⟩
              rw [hset] at this
              exact this
            exact normBox_sound h1 he
          | false =>
            rw [hp] at he
            cases hq : (fresh st (l.1, j + 1) && Nat.blt 0 e.cells) with
            | false => rw [hq] at he; cases he
            | true =>
              rw [hq] at he
              simp only [Bool.and_eq_true] at hq
              have h1 := h.newNil hq.1 (eT := eT) (nble_iff.1 hq.2)
              have hlm : l ≠ (l.1, j + 1) := fun e1 => by
                have := (fresh_spec hq.1).1
                rw [← e1, hol] at this; cases this
              have hol1 : oget (((l.1, j + 1), Ob.row eT e []) :: st.objs) l = some (.box T' vs) := by rw [oget_cons, if_neg (fun e1 => hlm e1.symm)]; exact hol
              have h2 : Rel P tab.ty N w0 F S (updβ (updβ β (l.1, j + 1) (.slice none 0 0)) l (updβ β (l.1, j + 1) (.slice none 0 0) l)) { st with objs := ((l.1, j + 1), .row eT e []) :: oset st.objs l (.box T' (vs.set j (.ref (l.1, j + 1)))) } a w := by
                obtain ⟨b', T3, cs3, hβ3, hh3, hrels3⟩ := h1.objs l _ hol1
                have e3 : updβ β (l.1, j + 1) (.slice none 0 0) l = β l := updβ_other hlm
                rw [e3, hβ] at hβ3
                simp only [Value.pointer.injEq, Option.some.injEq, Addr.mk.injEq] at hβ3
                obtain ⟨rfl, _⟩ := hβ3
                rw [hh] at hh3
                have e4 := Option.some.inj hh3
                injection e4 with e5 e6 _
                subst e5; subst e6
                refine h1.setObj (ob := .box T' (vs.set j (.ref (l.1, j + 1)))) (X := fun _ => False) (Fr.refl _ w) (fun _ _ x => x.elim) (.inl rfl) (.inl rfl) ⟨b, T'', cs, by rw [e3]; exact hβ, hh, ?_⟩ (fun k hk => ⟨.inr ⟨⟨_, hol1⟩, hk⟩, (h1.excl l _ hol1 k hk).2.2⟩) (fun m => ?_)
                · have := hrels3.set j (v := .ref (l.1, j + 1)) (c := .slice none 0 0) ⟨updβ_same .., _, _, _, rfl⟩
                  rw [hset] at this
                  exact this
                · rw [oget_cons, oget_oset, hol]
                  show _ = if l = m then _ else oget (((l.1, j + 1), Ob.row eT e []) :: st.objs) m
                  rw [oget_cons]
                  by_cases e1 : (l.1, j + 1) = m
                  · rw [if_pos e1, if_neg (fun e2 => hlm (e2.trans e1.symm)), if_pos e1]
                  · rw [if_neg e1, if_neg e1]; rfl
              exact normBox_sound h2 he
theorem renEls_sound {t : Nat} : ∀ {vs : List LV} {i : Nat} {st st' : St} {β : Lab → Value}, Rel P tab.ty N w0 F S β st a w → renEls t vs i st = some st' → ∃ β', Rel P tab.ty N w0 F S β' st' a w
  | [], i, st, st', β, h, he => by have := Option.some.inj he; subst this; exact ⟨β, h⟩
  | v :: r, i, st, st', β, h, he => by
    cases v <;> try exact renEls_sound (vs := r) (i := i + 1) h he
    case ref k =>
      obtain ⟨s, hs, he⟩ := Option.bind_eq_some_iff.1 he
      obtain ⟨β1, g, _⟩ := h.ren hs
      exact renEls_sound g he
theorem renIn_sound {t : Nat} {st st' : St} {β : Lab → Value} (h : Rel P tab.ty N w0 F S β st a w) (he : renIn t st = some st') : ∃ β', Rel P tab.ty N w0 F S β' st' a w := by
  unfold renIn at he
  split at he
  · exact renEls_sound h he
  · have := Option.some.inj he; subst this; exact ⟨β, h⟩
theorem pureEls_rel {e : Ty} : ∀ {us : List LV} {xs : List e.den} {cs : List Value}, pureEls e us = some xs → LVrels P tab.ty S β w us cs → us.length = xs.length ∧ RowCells tab.ty S w e xs cs
  | [], xs, cs, he, h => by
    have := Option.some.inj he
    subst this
    exact ⟨rfl, h⟩
  | v :: r, xs, cs, he, h => by
    cases v <;> try (cases he; done)
    case pure t x =>
      simp only [pureEls, Option.bind_eq_some_iff, Option.some.injEq] at he
      obtain ⟨y, hy, l, hl, rfl⟩ := he
      obtain ⟨c, cr, rfl, h1, h2⟩ := h
      obtain ⟨g1, g2⟩ := pureEls_rel hl h2
      exact ⟨by simp [g1], [c], cr, rfl, cast_rep hy h1, g2⟩
theorem meltL_sound {st st' : St} {S : Nat → Prop} {β : Lab → Value} {l : Lab} (h : Rel P tab.ty N w0 F S β st a w) (he : meltL st l = some st') : ∃ S' β', (∀ k, S k → S' k) ∧ Rel P tab.ty N w0 F S' β' st' a w := by
  unfold meltL at he
  split at he
  · obtain ⟨s, hs, he⟩ := Option.bind_eq_some_iff.1 he
    obtain ⟨S1, h1, h2⟩ := frzAll_sound h hs
    split at he
    · rename_i eT us hol
      obtain ⟨e, _, he⟩ := Option.bind_eq_some_iff.1 he
      obtain ⟨xs, hxs, he⟩ := Option.bind_eq_some_iff.1 he
      cases hq : Nat.beq e.cells 1 with
      | false => rw [hq] at he; cases he
      | true =>
        rw [hq] at he
        have := Option.some.inj he
        subst this
        have hc := Nat.eq_of_beq_eq_true hq
        obtain ⟨cells, hown, hrels⟩ := h2.objs l _ hol
        obtain ⟨g1, g2⟩ := pureEls_rel hxs hrels
        refine ⟨S1, updβ β l (β l), h1, h2.setObj (ob := .row eT e xs) (X := fun _ => False) (Fr.refl _ w) (fun _ _ x => x.elim) (.inl rfl) (.inl rfl) ⟨by omega, cells, ?_, g2⟩ (fun k hk => ⟨.inr ⟨⟨_, hol⟩, hk⟩, (h2.excl l _ hol k hk).2.2⟩) (fun m => ?_)⟩
        · rw [hc, ← g1]; exact hown
        · rw [oget_oset, hol]; rfl
    · cases he
  · have := Option.some.inj he; subst this; exact ⟨S, β, fun _ x => x, h⟩
theorem meltAt_sound : ∀ {ms : List (Nat × Nat)} {id : Nat} {st st' : St} {S : Nat → Prop} {β : Lab → Value}, Rel P tab.ty N w0 F S β st a w → meltAt ms id st = some st' → ∃ S' β', (∀ k, S k → S' k) ∧ Rel P tab.ty N w0 F S' β' st' a w
  | [], id, st, st', S, β, h, he => by have := Option.some.inj he; subst this; exact ⟨S, β, fun _ x => x, h⟩
  | (i, t) :: r, id, st, st', S, β, h, he => by
    unfold meltAt at he
    cases hq : Nat.beq i id with
    | false => rw [hq] at he; exact meltAt_sound h he
    | true =>
      rw [hq] at he
      simp only [cond_true] at he
      split at he
      · obtain ⟨s, hs, he⟩ := Option.bind_eq_some_iff.1 he
        obtain ⟨S1, β1, g1, g2⟩ := meltL_sound h hs
        obtain ⟨S2, β2, g3, g4⟩ := meltAt_sound g2 he
        exact ⟨S2, β2, fun k hk => g3 k (g1 k hk), g4⟩
      · exact meltAt_sound h he
theorem normSlots_sound (hTab : TabOK P tab) {fi : Fi} : ∀ {ks : List Nat} {st st' : St} {S : Nat → Prop} {β : Lab → Value}, Rel P tab.ty N w0 F S β st a w → normSlots tab fi ks st = some st' →
    ∃ S' β', (∀ k, S k → S' k) ∧ Rel P tab.ty N w0 F S' β' st' a w
  | [], st, st', S, β, h, he => by have := Option.some.inj he; subst this; exact ⟨S, β, fun _ x => x, h⟩
  | t :: r, st, st', S, β, h, he => by
    have hs := h.slots t
    unfold normSlots at he
    split at he
    · rename_i hsl
      rw [hsl] at hs
      have hv : a.tmps.getD t undef = .slice none 0 0 := hs
      cases hraw : pmem (t, 999) fi.vals with
      | true => rw [hraw] at he; exact normSlots_sound hTab h he
      | false =>
      rw [hraw] at he
      simp only [cond_false] at he
      obtain ⟨T, hT, he⟩ := Option.bind_eq_some_iff.1 he
      split at he
      case h_2 => cases he
      case h_1 eT htd =>
      obtain ⟨e, hte, he⟩ := Option.bind_eq_some_iff.1 he
      cases hp : pmem (t, 0) fi.vals with
      | true =>
        rw [hp] at he
        refine normSlots_sound hTab (h.slotSet (v := .cv (.one (.pure (.sl eT e) []))) ?_) he
        exact ⟨none, 0, by rw [hv]; rfl, Nat.le_refl _, by simp [maxLen], fun h => absurd h (by simp)⟩
      | false =>
        rw [hp] at he
        cases hf : fresh st (hdLab t) with
        | false => rw [hf] at he; cases he
        | true =>
          rw [hf] at he
          have h1 := h.newNil hf (eT := eT) (hTab.pos T eT e htd hte)
          have h2 := h1.slotSet (t := t) (v := .cv (.one (.ref (hdLab t)))) ⟨by rw [hv]; exact updβ_same .., _, _, _, hv⟩
          exact normSlots_sound hTab h2 he
    · rename_i l hsl
      cases hp : pmem (t, 0) fi.vals with
      | true =>
        rw [hp] at he
        obtain ⟨s, hs', he⟩ := Option.bind_eq_some_iff.1 he
        obtain ⟨S1, g1, g2⟩ := h.frz hs'
        obtain ⟨S2, β2, g3, g4⟩ := normSlots_sound hTab g2 he
        exact ⟨S2, β2, fun k hk => g3 k (g1 k hk), g4⟩
      | false =>
        rw [hp] at he
        obtain ⟨s, hs', he⟩ := Option.bind_eq_some_iff.1 he
        obtain ⟨β1, g2, _⟩ := h.ren hs'
        obtain ⟨s2, hs2, he⟩ := Option.bind_eq_some_iff.1 he
        obtain ⟨β2, g3⟩ := renIn_sound g2 hs2
        exact normSlots_sound hTab g3 he
    · rename_i b hsl
      rw [hsl] at hs
      have hv : a.tmps.getD t undef = .bool b := hs
      exact normSlots_sound hTab (h.slotSet (v := .cv (.one (.pure .bool b))) (by rw [hv]; exact (rfl : [_] = [_]))) he
    · rename_i l hsl
      obtain ⟨s, hs', he⟩ := Option.bind_eq_some_iff.1 he
      split at hs'
      · rename_i T vs hol
        obtain ⟨ty, hty, hs'⟩ := Option.bind_eq_some_iff.1 hs'
        obtain ⟨S1, β1, g1, g2⟩ := normBox_sound h hs'
        obtain ⟨S2, β2, g3, g4⟩ := normSlots_sound hTab g2 he
        exact ⟨S2, β2, fun k hk => g3 k (g1 k hk), g4⟩
      · have := Option.some.inj hs'
        subst this
        exact normSlots_sound hTab h he
    · exact normSlots_sound hTab h he
theorem onlyObjs_get (st : St) : ∀ (ls : List Lab) (l : Lab) (ob : Ob), oget (ls.filterMap fun l => (oget st.objs l).map fun b => (l, b)) l = some ob → oget st.objs l = some ob
  | [], l, ob, h => by cases h
  | m :: r, l, ob, h => by
    rw [List.filterMap_cons] at h
    cases hm : oget st.objs m with
    | none => rw [hm] at h; exact onlyObjs_get st r l ob h
    | some b =>
      rw [hm] at h
      simp only [Option.map_some, oget_cons] at h
      split at h
      · rename_i e; subst e; rw [hm]; exact h
      · exact onlyObjs_get st r l ob h
theorem norm_sound (hTab : TabOK P tab) {fi : Fi} {ks : List Nat} {st' : St} (h : Rel P tab.ty N w0 F S β st a w) (he : norm tab fi ks st = some st') : ∃ S' β', (∀ k, S k → S' k) ∧ Rel P tab.ty N w0 F S' β' st' a w := by
  obtain ⟨s, hs, he⟩ := Option.bind_eq_some_iff.1 he
  have := Option.some.inj he
  subst this
  obtain ⟨S1, β1, g1, g2⟩ := normSlots_sound hTab (st := onlyObjs { st with slots := trim ks st.slots } (dedup (reach { st with slots := trim ks st.slots }))) ((h.trim ks).weaken (fun t => .inr rfl) (fun l ob hl => onlyObjs_get { st with slots := trim ks st.slots } _ l ob hl)) hs
  exact ⟨S1, β1, g1, g2.weaken (fun t => .inr rfl) (fun l ob hl => onlyObjs_get s _ l ob hl)⟩
def toExit : EX → Exit
  | .normal => .normal
  | .exit id => .exit id
  | .ret => .ret
def DrawOk (P : Program) (Γ : Ctx) (tab : Tab) (N : NN) : Prop := ∀ (w0 : World) (F : FF) (S : Nat → Prop) (β : Lab → Value) (st : St) (a : Act) (w : World) (id : Nat) (ops : Array Oper) (R : Type) (k : St → Option R) (res : R) (Q : Exit → Act → World → Prop),
  (∀ o ∈ ops.toList, ∀ d, o.dst = some d → okD N d) → Rel P tab.ty N w0 F S β st a w → evDraw Γ tab ops st k = some res →
  (∀ a' w' S' β' s, (∀ k, S k → S' k) → Rel P tab.ty N w0 F S' β' s a' w' → k s = some res → Q .normal a' w') → (Code.region id ops true).wp P Q a w
theorem loop_sound (hTab : TabOK P tab) {c : Code} {R : Type} {body : St → (EX → St → Option R) → Option R} {nm : St → Option St} {res : R}
    (hnm : ∀ {st st' : St} {S : Nat → Prop} {β : Lab → Value} {a : Act} {w : World}, Rel P tab.ty N w0 F S β st a w → nm st = some st' → ∃ S' β', (∀ k, S k → S' k) ∧ Rel P tab.ty N w0 F S' β' st' a w)
    (hb : ∀ {st : St} {S : Nat → Prop} {β : Lab → Value} {a : Act} {w : World} {k : EX → St → Option R} {Q : Exit → Act → World → Prop}, Rel P tab.ty N w0 F S β st a w → body st k = some res →
      (∀ e a' w' S' β' s, (∀ k, S k → S' k) → Rel P tab.ty N w0 F S' β' s a' w' → k e s = some res → Q (toExit e) a' w') → c.wp P Q a w) :
    ∀ (n : Nat) {st : St} {S : Nat → Prop} {β : Lab → Value} {a : Act} {w : World} {k : EX → St → Option R} {Q : Exit → Act → World → Prop}, Rel P tab.ty N w0 F S β st a w → evLoop body nm n st k = some res →
      (∀ e a' w' S' β' s, (∀ k, S k → S' k) → Rel P tab.ty N w0 F S' β' s a' w' → k e s = some res → Q (toExit e) a' w') → Code.rounds P c Q n a w
  | 0, st, S, β, a, w, k, Q, h, he, hQ => by cases he
  | n + 1, st, S, β, a, w, k, Q, h, he, hQ => by
    rw [rounds_succ]
    refine hb h he (fun e a' w' S' β' s hS h' hk => ?_)
    cases e with
    | normal =>
      obtain ⟨s', hs', hk⟩ := Option.bind_eq_some_iff.1 hk
      obtain ⟨S1, β1, g1, g2⟩ := hnm h' hs'
      exact loop_sound hTab hnm hb n g2 hk (fun e a'' w'' S'' β'' s'' g3 g4 g5 => hQ e a'' w'' S'' β'' s'' (fun k hk => g3 k (g1 k (hS k hk))) g4 g5)
    | exit id => exact hQ (.exit id) a' w' S' β' s hS h' hk
    | ret => exact hQ .ret a' w' S' β' s hS h' hk
theorem evCode_sound {n0 : Nat} (hn0 : n0 ≤ N.1) {Γ : Ctx} (hΓ : GoodΓ tab.ty P Γ) (hTab : TabOK P tab) (hD : DrawOk P Γ tab N) {fi : Fi} {n : Nat} {R : Type} {res : R} : ∀ {c : Code} {st : St} {S : Nat → Prop} {β : Lab → Value} {a : Act} {w : World} {k : EX → St → Option R} {Q : Exit → Act → World → Prop},
    dstsOkc n0 (N.2.map (·.1)) c = true → Rel P tab.ty N w0 F S β st a w → evCode Γ tab fi n c st k = some res →
    (∀ e a' w' S' β' s, (∀ k, S k → S' k) → Rel P tab.ty N w0 F S' β' s a' w' → k e s = some res → Q (toExit e) a' w') → c.wp P Q a w := by
  intro c
  induction c with
  | skip => intro st S β a w k Q hd h he hQ; exact wp_skip (hQ .normal a w S β st (fun _ x => x) h he)
  | exit id => intro st S β a w k Q hd h he hQ; exact wp_exit (hQ (.exit id) a w S β st (fun _ x => x) h he)
  | ret => intro st S β a w k Q hd h he hQ; exact wp_ret (hQ .ret a w S β st (fun _ x => x) h he)
  | seq x y ihx ihy =>
    intro st S β a w k Q hd h he hQ
    simp only [dstsOkc, Bool.and_eq_true] at hd
    refine wp_seq (ihx hd.1 h he (fun e a' w' S' β' s hS h' hk => ?_))
    cases e with
    | normal => exact ihy hd.2 h' hk (fun e a'' w'' S'' β'' s' g1 g2 g3 => hQ e a'' w'' S'' β'' s' (fun k hk => g1 k (hS k hk)) g2 g3)
    | exit id => exact hQ (.exit id) a' w' S' β' s hS h' hk
    | ret => exact hQ .ret a' w' S' β' s hS h' hk
  | cond c x y ihx ihy =>
    intro st S β a w k Q hd h he hQ
    simp only [dstsOkc, Bool.and_eq_true] at hd
    cases c <;> try (cases he; done)
    case tmp t =>
    have he : onBool [] t (sget st.slots t) (fun _ q => match q with | true => evCode Γ tab fi n x st k | false => evCode Γ tab fi n y st k) = some res := he
    obtain ⟨kn', b, _, hb, he⟩ := onBool_sound (kn := []) (fun t b ht => by cases ht) (h.slots t) he
    cases b with
    | true => exact wp_cond (t := true) hb (ihx hd.1 h he hQ)
    | false => exact wp_cond (t := false) hb (ihy hd.2 h he hQ)
  | block id b ih =>
    intro st S β a w k Q hd h he hQ
    refine wp_block (ih hd h he (fun e a' w' S' β' s hS h' hk => ?_))
    cases e with
    | normal => exact hQ .normal a' w' S' β' s hS h' hk
    | ret => exact hQ .ret a' w' S' β' s hS h' hk
    | exit j =>
      simp only at hk
      show Exit.inBlock id Q (.exit j) a' w'
      simp only [Exit.inBlock]
      cases hj : Nat.beq j id with
      | true =>
        rw [hj] at hk
        rw [if_pos (Nat.eq_of_beq_eq_true hj)]
        exact hQ .normal a' w' S' β' s hS h' hk
      | false =>
        rw [hj] at hk
        rw [if_neg (nbeq_false.1 hj)]
        exact hQ (.exit j) a' w' S' β' s hS h' hk
  | loop b ih =>
    intro st S β a w k Q hd h he hQ
    obtain ⟨s, hs, he⟩ := Option.bind_eq_some_iff.1 he
    obtain ⟨S1, β1, g1, g2⟩ := norm_sound hTab h hs
    refine wp_loop_rounds n (loop_sound hTab (fun h hn => norm_sound hTab h hn) (fun h hb hQ => ih hd h hb hQ) n g2 he (fun e a' w' S' β' s' g3 g4 g5 => hQ e a' w' S' β' s' (fun k hk => g3 k (g1 k hk)) g4 g5))
  | region id ops draw =>
    intro st S β a w k Q hd h he hQ
    have hdd : ∀ o ∈ ops.toList, ∀ d, o.dst = some d → okD N d := fun o ho d hod => by
      have := List.all_eq_true.1 hd o ho
      rw [hod] at this
      simp only [Bool.and_eq_true, Bool.not_eq_true'] at this
      refine ⟨Nat.lt_of_lt_of_le (nble_iff.1 this.1) hn0, fun p hp e => ?_⟩
      have h2 := this.2
      rw [← Bool.not_eq_true, nmem_iff] at h2
      exact h2 (by rw [← e]; exact List.mem_map.2 ⟨p, hp, rfl⟩)
    obtain ⟨stm, hm, he⟩ := Option.bind_eq_some_iff.1 he
    obtain ⟨Sm, βm, hSm, h⟩ := meltAt_sound h hm
    cases draw with
    | false =>
      refine wp_region_list (evOps_sound hΓ hTab hdd (fun t b ht => by cases ht) h he (fun a' w' S' β' s hS h' hk => ?_))
      exact hQ .normal a' w' S' β' _ (fun k hk => hS k (hSm k hk)) (h'.trim _) hk
    | true =>
      refine hD w0 F Sm βm stm a w id ops R _ res Q hdd h he (fun a' w' S' β' s hS h' hk => ?_)
      exact hQ .normal a' w' S' β' _ (fun k hk => hS k (hSm k hk)) (h'.trim _) hk
  | _ => intro st S β a w k Q hd h he hQ; cases he
end
end Go.PE


set_option linter.unusedVariables false
set_option linter.unusedSimpArgs false
namespace Go.PE
section
variable {P : Program} {tab : Tab} {N : NN} {w0 : World} {F : FF} {S : Nat → Prop} {β : Lab → Value} {st : St} {a : Act} {w : World}
theorem init_fits {τ : TypeId → Option Ty} : ∀ {ps : List PK} {x : PDs ps} {vals : List Value} {B : List Nat} (i : Nat), ArgsRel τ P S w ps x vals B →
    ∃ vs, Fits P τ S w (initOb i ps x) vs B (fun β => ∀ t, (t < i → sget (initSl i ps x) t = .dead) ∧ SVrel P τ S β w (sget (initSl i ps x) t) (vals.getD (t - i) undef))
  | [], x, vals, B, i, h => by
    obtain ⟨rfl, rfl⟩ := h
    exact ⟨[], Fits.none (fun β t => ⟨fun _ => rfl, trivial⟩)⟩
  | p :: r, x, vals, B, i, h => by
    obtain ⟨v, vr, B1, B2, rfl, rfl, h1, h2⟩ := h
    obtain ⟨v2, f2⟩ := init_fits (i + 1) h2
    have step : ∀ (sv : SV) (β : Lab → Value), SVrel P τ S β w sv v → (∀ t, (t < i + 1 → sget (initSl (i + 1) r x.2) t = .dead) ∧ SVrel P τ S β w (sget (initSl (i + 1) r x.2) t) (vr.getD (t - (i + 1)) undef)) →
        ∀ t, (t < i → sget ((i, sv) :: initSl (i + 1) r x.2) t = .dead) ∧ SVrel P τ S β w (sget ((i, sv) :: initSl (i + 1) r x.2) t) ((v :: vr).getD (t - i) undef) := by
      intro sv β hv hr t
      rw [sget_cons]
      refine ⟨fun hlt => ?_, ?_⟩
      · rw [if_neg (by omega)]; exact (hr t).1 (by omega)
      · by_cases e : i = t
        · subst e; rw [if_pos rfl]; simpa using hv
        · rw [if_neg e]
          by_cases hlt : t < i
          · rw [(hr t).1 (by omega)]; trivial
          · have : t - i = (t - (i + 1)) + 1 := by omega
            rw [this]
            simpa using (hr t).2
    cases p with
    | val t =>
      obtain ⟨h1, rfl⟩ := h1
      exact ⟨v2, f2.mono (fun β hg => step _ β (cvOf_rel h1) hg)⟩
    | rbox t =>
      obtain ⟨h1, rfl⟩ := h1
      exact ⟨v2, f2.mono (fun β hg => step (.ep t x.1) β h1 hg)⟩
    | fn ps' rs' =>
      obtain ⟨h1, rfl⟩ := h1
      exact ⟨v2, f2.mono (fun β hg => step (.cv (.one (.clo ps' rs' x.1))) β h1 hg)⟩
    | own eT e =>
      obtain ⟨hpos, ⟨cells, hown, hrc⟩, rfl⟩ := h1
      have f1 : Fits P τ S w [((i, 0), Ob.row eT e x.1)] [((i, 0), v)] ((blk v).toList) (fun β => SVrel P τ S β w (.cv (.one (.ref (i, 0)))) v) := by
        refine ⟨rfl, by simp [blks], fun β hβ => ?_⟩
        have h0 := hβ ((i, 0), v) (List.mem_cons_self ..)
        refine ⟨fun q hq => ?_, h0, own_slice hown⟩
        have := List.mem_singleton.1 hq
        subst this
        show ObRel P τ S β w (.row eT e x.1) (β (i, 0))
        rw [h0]
        exact ⟨hpos, cells, hown, hrc⟩
      exact ⟨_, (f1.append f2).mono (fun β hg => step _ β hg.1 hg.2)⟩
    | box T t own =>
      obtain ⟨v1, f1, _⟩ := var_fits (P := P) i 1 (i, 0) T h1
      exact ⟨_, (f1.append f2).mono (fun β hg => step (.cv (.one (.ptr (i, 0) 0))) β hg.1 hg.2)⟩
theorem start_rel {ps : List PK} {x : PDs ps} {vals : List Value} {B : List Nat} (hlt : ∀ k, S k → k < w.heap.size) (h : ArgsRel tab.ty P S w ps x vals B) (hnd : B.Nodup) (hB : ∀ k ∈ B, ¬ S k ∧ k < w.heap.size)
    (hd : noDup ((initOb 0 ps x).map (·.1)) = true) (a : Act) (hdf : a.defers = []) (ha : ∀ t, sget (initSl 0 ps x) t ≠ .dead → a.tmps.getD t undef = vals.getD t undef) (hN : a.tmps.size = N.1) (hp : ∀ p ∈ N.2, a.tmps.getD p.1 undef = p.2) :
    ∃ β, Rel P tab.ty N w (fun k => k ∈ B, S) S β { slots := initSl 0 ps x, objs := initOb 0 ps x } a w := by
  obtain ⟨vs, hlab, hblk, hfit⟩ := init_fits (P := P) 0 h
  have hvd : noDup (vs.map (·.1)) = true := by rw [hlab]; exact hd
  obtain ⟨h1, h2⟩ := hfit (vget vs) (fun p hp => vget_mem hvd p hp)
  have mem : ∀ l ob, oget (initOb 0 ps x) l = some ob → ∃ p ∈ vs, p.1 = l := fun l ob hl => by
    have : l ∈ vs.map (·.1) := by rw [hlab]; exact List.mem_map.2 ⟨(l, ob), oget_mem2 hl, rfl⟩
    exact List.mem_map.1 this
  refine ⟨vget vs, hlt, fun t => ?_, fun l ob hl => h1 (l, ob) (oget_mem2 hl), fun l ob hl b hb => ?_, fun l l' ob ob' hl hl' hne b hb => ?_, Fr.refl _ w, hN, hdf, fun k hk => .inl hk, hp⟩
  · have := (h2 t).2
    by_cases hdd : sget (initSl 0 ps x) t = .dead
    · show SVrel P tab.ty S _ w (sget (initSl 0 ps x) t) _
      rw [hdd]; trivial
    · rw [ha t hdd]; exact this
  · obtain ⟨p, hp', rfl⟩ := mem l ob hl
    rw [vget_mem hvd p hp'] at hb
    have hbm : b ∈ B := by rw [← hblk]; exact List.mem_flatMap.2 ⟨p, hp', by rw [hb]; simp⟩
    exact ⟨(hB b hbm).1, .inr hbm, (hB b hbm).2⟩
  · obtain ⟨p, hp', rfl⟩ := mem l ob hl
    obtain ⟨q, hq', rfl⟩ := mem l' ob' hl'
    rw [vget_mem hvd p hp'] at hb
    rw [vget_mem hvd q hq']
    exact blks_apart (by rw [hblk]; exact hnd) p hp' q hq' hne b hb
theorem resD_rel (h : Rel P tab.ty N w0 F S β st a w) {S' : Nat → Prop} (hS : ∀ k, S k → S' k) {k : RK} {sv : SV} {v : Value} {x : k.t.den} {own rd : List Lab} (he : resD (oget st.objs) k sv = some (x, own, rd)) (hv : SVrel P tab.ty S β w sv v)
    (hr : ∀ l ∈ rd, ∀ b, blk (β l) = some b → S' b) : ResRel tab.ty S' w k x v (ownBlks β own) := by
  unfold resD at he
  unfold ResRel
  split at he
  · rename_i c hp
    rw [hp]
    obtain ⟨y, hy, he⟩ := Option.bind_eq_some_iff.1 he
    cases hq : (ownOk (oget st.objs) (zipOwn (cvLvs c) k.own) && ownPos (lvs k.t y) k.own) with
    | false => rw [hq] at he; cases he
    | true =>
      rw [hq] at he
      obtain ⟨e1, e2⟩ := Prod.mk.inj (Option.some.inj he)
      obtain ⟨e2, e3⟩ := Prod.mk.inj e2
      subst e1; subst e2; subst e3
      simp only [Bool.and_eq_true] at hq
      cases c with
      | one u =>
        have hy' : (bif k.t.isAgg then none else lvDen (oget st.objs) k.t u) = some y := hy
        cases ha : k.t.isAgg with
        | true => rw [ha] at hy'; cases hy'
        | false =>
          rw [ha] at hy'
          have hl : lvs k.t y = [.pure k.t y] := by
            generalize k.t = t at *
            cases t <;> first | rfl | cases ha
          refine ⟨[v], (fun h => by cases h), (fun _ => rfl), ?_⟩
          refine own_of h.objs hS (vs := [u]) ?_ ⟨v, [], rfl, hv, rfl⟩ hq.1 hq.2 hr
          rw [hl]
          exact ⟨hy', trivial⟩
      | agg us =>
        have hw : ∀ o, k.t.isAgg = true → cvDen o k.t (.agg us) = some y → wholeDen o k.t us = some y := by
          intro o ha hy
          unfold cvDen at hy
          rw [ha] at hy
          simp only [cond_true] at hy
          unfold wholeDen
          split at hy
          · rename_i h2; first | (rw [h2]; exact hy) | exact hy
          · cases hy
        cases ha : k.t.isAgg with
        | false => unfold cvDen at hy; rw [ha] at hy; cases hy
        | true =>
          obtain ⟨cs, e1, hc⟩ := hv
          refine ⟨cs, (fun _ => e1), (fun h => by cases h), ?_⟩
          exact own_of h.objs hS (vs := us) (wholeDen_den2 (hw _ ha hy)) hc hq.1 hq.2 hr
  · rename_i T l hp
    rw [hp]
    obtain ⟨⟨y, vs⟩, hy, he⟩ := Option.bind_eq_some_iff.1 he
    obtain ⟨e1, e2⟩ := Prod.mk.inj (Option.some.inj he)
    obtain ⟨e2, e3⟩ := Prod.mk.inj e2
    subst e1; subst e2; subst e3
    exact (boxArg_rel h hS hy hv hr).1
  · cases he
def Each {A B : Type} (r : A → B → Prop) : List A → List B → Prop
  | [], [] => True
  | x :: p, y :: q => r x y ∧ Each r p q
  | _, _ => False
def resOf (P : Program) (a : Act) (w : World) : ResultVar → Value → Prop
  | .tmp t, v => v = a.tmps.getD t undef
  | .cell c T, v => (do loadVar T (← asAddr (a.tmps.getD c undef)) : Sem Value).run P w = .ok v w
theorem resVal_rel (hTab : TabOK P tab) (h : Rel P tab.ty N w0 F S β st a w) {r : ResultVar} {sv : SV} (he : resVal tab st r = some sv) : ∃ v, resOf P a w r v ∧ SVrel P tab.ty S β w sv v := by
  cases r with
  | tmp t => have := Option.some.inj he; subst this; exact ⟨_, rfl, h.slots t⟩
  | cell c T =>
    obtain ⟨⟨q, v, u⟩, hl, he⟩ := Option.bind_eq_some_iff.1 he
    cases hq : q with
    | false => rw [hq] at he; cases he
    | true =>
      rw [hq] at he hl
      have he := Option.some.inj he
      subst he
      obtain ⟨t, b, off, cs, hT, hx, hlen, hca, hv, _⟩ := load_core hTab h (x := .tmp c) hl rfl
      refine ⟨_, ?_, hv⟩
      have hx : a.tmps.getD c undef = .pointer (some ⟨b, off, none⟩) := hx
      unfold resOf
      simp [hx, asAddr, run_loadVar hT hlen hca]
theorem resDs_rel (hTab : TabOK P tab) (h : Rel P tab.ty N w0 F S β st a w) {S' : Nat → Prop} (hS : ∀ k, S k → S' k) : ∀ {rs : List RK} {l : List ResultVar} {z : RDs rs} {own rd : List Lab}, resDs tab st rs l = some (z, own, rd) →
    (∀ l ∈ rd, ∀ b, blk (β l) = some b → S' b) → ∃ vs, Each (resOf P a w) l vs ∧ ResRels tab.ty S' w rs z vs (ownBlks β own)
  | [], [], z, own, rd, he, hr => by
    obtain ⟨e1, e2⟩ := Prod.mk.inj (Option.some.inj he)
    obtain ⟨e2, e3⟩ := Prod.mk.inj e2
    subst e2
    exact ⟨[], trivial, rfl, rfl⟩
  | [], _ :: _, z, own, rd, he, hr => by cases he
  | _ :: _, [], z, own, rd, he, hr => by cases he
  | k :: r, x :: q, z, own, rd, he, hr => by
    obtain ⟨sv, hsv, he⟩ := Option.bind_eq_some_iff.1 he
    obtain ⟨⟨y, o1, r1⟩, hy, he⟩ := Option.bind_eq_some_iff.1 he
    obtain ⟨⟨z2, o2, r2⟩, hz, he⟩ := Option.bind_eq_some_iff.1 he
    obtain ⟨e1, e2⟩ := Prod.mk.inj (Option.some.inj he)
    obtain ⟨e2, e3⟩ := Prod.mk.inj e2
    subst e1; subst e2; subst e3
    obtain ⟨v, hv, hvr⟩ := resVal_rel hTab h hsv
    obtain ⟨vs, g1, g2⟩ := resDs_rel hTab h hS hz (fun l hl => hr l (List.mem_append.2 (.inr hl)))
    exact ⟨v :: vs, ⟨hv, g1⟩, v, vs, _, _, rfl, ownBlks_append β o1 o2, resD_rel h hS hy hvr (fun l hl => hr l (List.mem_append.2 (.inl hl))), g2⟩
def Pins (a : Act) : Nat → List PK → List Value → Prop
  | _, [], _ => True
  | i, .box _ _ _ :: r, vs => ∃ v vr, vs = v :: vr ∧ a.tmps.getD i undef = v ∧ Pins a (i + 1) r vr
  | i, .val _ :: r, vs => Pins a (i + 1) r vs.tail
  | i, .rbox _ :: r, vs => Pins a (i + 1) r vs.tail
  | i, .fn _ _ :: r, vs => Pins a (i + 1) r vs.tail
  | i, .own _ _ :: r, vs => Pins a (i + 1) r vs.tail
theorem outDs_rel (h : Rel P tab.ty N w0 F S β st a w) {S' : Nat → Prop} (hS : ∀ k, S k → S' k) : ∀ {ps : List PK} {i : Nat} {vals : List Value} {x : ODs ps} {own rd : List Lab}, outDs st i ps = some (x, own, rd) → Pins a i ps vals →
    (∀ l ∈ rd, ∀ b, blk (β l) = some b → S' b) → OutRels tab.ty S' w ps vals x (ownBlks β own)
  | [], i, vals, x, own, rd, he, hp, hr => by
    obtain ⟨e1, e2⟩ := Prod.mk.inj (Option.some.inj he)
    obtain ⟨e2, e3⟩ := Prod.mk.inj e2
    subst e2
    rfl
  | .box T t ow :: r, i, vals, x, own, rd, he, hp, hr => by
    obtain ⟨v, vr, rfl, hv, hp⟩ := hp
    have hs := h.slots i
    have he : (match sget st.slots i with
      | .cv (.one (.ptr l 0)) => (boxArg (oget st.objs) T t ow l).bind fun x =>
        (outDs st (i + 1) r).bind fun z => some (((x.1, z.1), l :: ownLabs (zipOwn x.2 ow) ++ z.2.1, readLabs (zipOwn x.2 ow) ++ z.2.2) : ODs (.box T t ow :: r) × List Lab × List Lab)
      | _ => none) = some (x, own, rd) := he
    split at he
    · rename_i l hsl
      rw [hsl, hv] at hs
      obtain ⟨⟨y, us⟩, hy, he⟩ := Option.bind_eq_some_iff.1 he
      obtain ⟨⟨z, o2, r2⟩, hz, he⟩ := Option.bind_eq_some_iff.1 he
      obtain ⟨e1, e2⟩ := Prod.mk.inj (Option.some.inj he)
      obtain ⟨e2, e3⟩ := Prod.mk.inj e2
      subst e1; subst e2; subst e3
      exact ⟨v, vr, _, _, rfl, ownBlks_append β (l :: ownLabs (zipOwn us ow)) o2, (boxArg_rel h hS hy hs (fun m hm => hr m (List.mem_append.2 (.inl hm)))).1, outDs_rel h hS hz hp (fun m hm => hr m (List.mem_append.2 (.inr hm)))⟩
    · cases he
  | .val t :: r, i, vals, x, own, rd, he, hp, hr => outDs_rel h hS (ps := r) he hp hr
  | .rbox t :: r, i, vals, x, own, rd, he, hp, hr => outDs_rel h hS (ps := r) he hp hr
  | .fn ps rs :: r, i, vals, x, own, rd, he, hp, hr => outDs_rel h hS (ps := r) he hp hr
  | .own eT e :: r, i, vals, x, own, rd, he, hp, hr => outDs_rel h hS (ps := r) he hp hr
theorem mapM_each {g : ResultVar → Sem Value} : ∀ {l : List ResultVar} {vs : List Value}, Each (fun r v => (g r).run P w = .ok v w) l vs → (l.mapM g).run P w = .ok vs w
  | [], [], _ => rfl
  | [], _ :: _, h => h.elim
  | _ :: _, [], h => h.elim
  | x :: r, v :: q, h => by
    have ih := mapM_each h.2
    simp [List.mapM_cons, h.1, ih]
theorem Each.mono {A B : Type} {r r' : A → B → Prop} (h : ∀ x y, r x y → r' x y) : ∀ {l : List A} {q : List B}, Each r l q → Each r' l q
  | [], [], _ => trivial
  | [], _ :: _, h' => h'.elim
  | _ :: _, [], h' => h'.elim
  | x :: p, y :: q, h' => ⟨h x y h'.1, Each.mono h h'.2⟩
theorem results_run {fn : Func} {vs : List Value} (h : Each (resOf P a w) fn.results.toList vs) : (results fn a.tmps).run P w = .ok (tupV vs) w := by
  have key : ∀ (g : ResultVar → Sem Value), (∀ r v, resOf P a w r v → (g r).run P w = .ok v w) →
      (do let vs ← fn.results.mapM g; pure (if h : vs.size = 1 then vs[0] else .tuple vs) : Sem Value).run P w = .ok (tupV vs) w := by
    intro g hg
    have h1 := mapM_each (g := g) (P := P) (w := w) (h.mono hg)
    simp only [Array.mapM_eq_mapM_toList]
    simp only [Sem.run_bind, Sem.run_map, h1, Result.andThen_ok]
    cases vs with
    | nil => rfl
    | cons v q =>
      cases q with
      | nil => rfl
      | cons _ _ => rfl
  exact key _ (fun r v hv => by
    cases r with
    | tmp t => have hv : v = a.tmps.getD t undef := hv; subst hv; rfl
    | cell c T => exact hv)
def pinsOf : Nat → List PK → List Value → List (Nat × Value)
  | i, .box _ _ _ :: r, v :: vr => (i, v) :: pinsOf (i + 1) r vr
  | i, _ :: r, vs => pinsOf (i + 1) r vs.tail
  | _, [], _ => []
theorem pins_map {τ : TypeId → Option Ty} : ∀ {ps : List PK} {x : PDs ps} {vals : List Value} {B : List Nat} (i : Nat), ArgsRel τ P S w ps x vals B → (pinsOf i ps vals).map (·.1) = boxIdx i ps
  | [], x, vals, B, i, h => by cases vals <;> rfl
  | p :: r, x, vals, B, i, h => by
    obtain ⟨v, vr, B1, B2, rfl, rfl, h1, h2⟩ := h
    have ih := pins_map (i + 1) h2
    cases p <;> simp [pinsOf, boxIdx, ih]
theorem pins_get {vals : List Value} : ∀ {ps : List PK} {vs : List Value} (i : Nat), vs = vals.drop i → ∀ p ∈ pinsOf i ps vs, vals.getD p.1 undef = p.2
  | [], vs, i, hv, p, hp => by cases vs <;> simp [pinsOf] at hp
  | q :: r, [], i, hv, p, hp => by
    have hn : vals.drop (i + 1) = [] := by rw [List.drop_eq_nil_iff] at *; have := hv.symm; rw [List.drop_eq_nil_iff] at this; omega
    have hp : p ∈ pinsOf (i + 1) r [] := by cases q <;> exact hp
    exact pins_get (i + 1) hn.symm p hp
  | q :: r, v :: vr, i, hv, p, hp => by
    have hd : vr = vals.drop (i + 1) := by rw [← List.drop_drop, ← hv]; rfl
    have h0 : vals.getD i undef = v := by
      have := congrArg (·[0]?) hv
      simp only [List.getElem?_cons_zero, List.getElem?_drop, Nat.add_zero] at this
      rw [List.getD_eq_getElem?_getD, ← this]; rfl
    cases q with
    | box T t own =>
      rcases List.mem_cons.1 hp with rfl | hp
      · exact h0
      · exact pins_get (i + 1) hd p hp
    | val t => exact pins_get (i + 1) hd p hp
    | rbox t => exact pins_get (i + 1) hd p hp
    | fn a b => exact pins_get (i + 1) hd p hp
    | own eT e => exact pins_get (i + 1) hd p hp
theorem pins_ok {τ : TypeId → Option Ty} {a : Act} : ∀ {ps : List PK} {x : PDs ps} {vals : List Value} {B : List Nat} (i : Nat), ArgsRel τ P S w ps x vals B → (∀ p ∈ pinsOf i ps vals, a.tmps.getD p.1 undef = p.2) → Pins a i ps vals
  | [], x, vals, B, i, h, hp => trivial
  | p :: r, x, vals, B, i, h, hp => by
    obtain ⟨v, vr, B1, B2, rfl, rfl, h1, h2⟩ := h
    cases p with
    | box T t own => exact ⟨v, vr, rfl, hp (i, v) (List.mem_cons_self ..), pins_ok (i + 1) h2 (fun p hp' => hp p (List.mem_cons_of_mem _ hp'))⟩
    | val t => exact pins_ok (i + 1) h2 hp
    | rbox t => exact pins_ok (i + 1) h2 hp
    | fn a b => exact pins_ok (i + 1) h2 hp
    | own eT e => exact pins_ok (i + 1) h2 hp
theorem args_len {τ : TypeId → Option Ty} : ∀ {ps : List PK} {x : PDs ps} {vals : List Value} {B : List Nat}, ArgsRel τ P S w ps x vals B → vals.length = ps.length
  | [], x, vals, B, h => by obtain ⟨rfl, _⟩ := h; rfl
  | p :: r, x, vals, B, h => by obtain ⟨v, vr, B1, B2, rfl, rfl, h1, h2⟩ := h; simp [args_len h2]
theorem fin_post (hTab : TabOK P tab) {B : List Nat} {S0 : Nat → Prop} {w1 : World} (h : Rel P tab.ty N w1 (fun k => k ∈ B, S0) S β st a w) (hS0 : ∀ k, S0 k → S k) {ps : List PK} {rs : List RK} {fn : Func} {r : RDs rs × ODs ps} (he : finFn tab ps rs fn st = some r)
    {vals : List Value} (hp : Pins a 0 ps vals) {R : Ending → World → Prop}
    (hR : ∀ vs S' B1 B2, ResRels tab.ty S' w rs r.1 vs B1 → OutRels tab.ty S' w ps vals r.2 B2 → (B1 ++ B2).Nodup →
      (∀ k ∈ B1 ++ B2, ¬ S' k ∧ k < w.heap.size ∧ (w1.heap.size ≤ k ∨ k ∈ B)) → (∀ k, S0 k → S' k) → (∀ k, S' k → k < w.heap.size ∧ (S0 k ∨ w1.heap.size ≤ k ∨ k ∈ B)) → Fr (fun k => k ∈ B) w1 w → R (.returned (tupV vs)) w) :
    ∃ v, (results fn a.tmps).run P w = .ok v w ∧ R (.returned v) w := by
  unfold finFn at he
  obtain ⟨⟨x, o1, r1⟩, h1, he⟩ := Option.bind_eq_some_iff.1 he
  obtain ⟨⟨y, o2, r2⟩, h2, he⟩ := Option.bind_eq_some_iff.1 he
  cases hq : (noDup (o1 ++ o2) && apart (o1 ++ o2) (r1 ++ r2) && (o1 ++ o2).all (isObj (oget st.objs)) && (r1 ++ r2).all (isObj (oget st.objs))) with
  | false => simp only [hq] at he; cases he
  | true =>
    simp only [hq, cond_true] at he
    have he := Option.some.inj he
    subst he
    simp only [Bool.and_eq_true] at hq
    obtain ⟨⟨⟨q1, q2⟩, q3⟩, q4⟩ := hq
    have hown : ∀ l ∈ o1 ++ o2, ∃ ob, oget st.objs l = some ob := fun l hl => isObj_ok (List.all_eq_true.1 q3 l hl)
    have hrd : ∀ l ∈ r1 ++ r2, ∃ ob, oget st.objs l = some ob := fun l hl => isObj_ok (List.all_eq_true.1 q4 l hl)
    have hsub : ∀ k, S k → (S k ∨ blkIn st β (r1 ++ r2) k) := fun k hk => .inl hk
    have hin : ∀ l ∈ r1 ++ r2, ∀ b, blk (β l) = some b → (S b ∨ blkIn st β (r1 ++ r2) b) := fun l hl b hb => by
      obtain ⟨ob, ho⟩ := hrd l hl
      exact .inr ⟨l, hl, ob, ho, hb⟩
    obtain ⟨vs, g1, g2⟩ := resDs_rel hTab h hsub h1 (fun l hl => hin l (List.mem_append.2 (.inl hl)))
    have g3 := outDs_rel h hsub h2 hp (fun l hl => hin l (List.mem_append.2 (.inr hl)))
    refine ⟨_, results_run g1, hR vs _ _ _ g2 g3 (by rw [← ownBlks_append]; exact ownBlks_nodup h q1 hown) (fun k hk => ?_) (fun k hk => .inl (hS0 k hk)) (fun k hk => ?_) h.fr⟩
    · rw [← ownBlks_append] at hk
      obtain ⟨l, hl, hb⟩ := mem_ownBlks.1 hk
      obtain ⟨ob, ho⟩ := hown l hl
      obtain ⟨e1, e2, e3⟩ := h.excl l ob ho k hb
      refine ⟨fun hx => ?_, e3, e2⟩
      rcases hx with hx | ⟨m, hm, ob', ho', hb'⟩
      · exact e1 hx
      · exact h.dist l m ob ob' ho ho' (fun e => apart_spec q2 l hl (e ▸ hm)) k hb hb'
    · rcases hk with hk | ⟨m, hm, ob', ho', hb'⟩
      · exact ⟨h.sb k hk, h.within k hk⟩
      · obtain ⟨_, e2, e3⟩ := h.excl m ob' ho' k hb'
        exact ⟨e3, .inr e2⟩
def PostG (tab : Tab) (w : World) (S : Nat → Prop) (vals : List Value) (B : List Nat) {ps : List PK} {rs : List RK} (r : RDs rs × ODs ps) (ex : Ending) (w' : World) : Prop :=
  ∃ vs S' B1 B2, ex = .returned (tupV vs) ∧ ResRels tab.ty S' w' rs r.1 vs B1 ∧ OutRels tab.ty S' w' ps vals r.2 B2 ∧ (B1 ++ B2).Nodup ∧
      (∀ k ∈ B1 ++ B2, ¬ S' k ∧ k < w'.heap.size ∧ (w.heap.size ≤ k ∨ k ∈ B)) ∧ (∀ k, S k → S' k) ∧
      (∀ k, S' k → k < w'.heap.size ∧ (S k ∨ w.heap.size ≤ k ∨ k ∈ B)) ∧ Fr (fun k => k ∈ B) w w'
theorem fn_sound {Γ : Ctx} (hΓ : GoodΓ tab.ty P Γ) (hTab : TabOK P tab) (hD : ∀ N, DrawOk P Γ tab N) {f : FuncId} {fn : Func} (hf : P.funcs[f]? = some fn) (hnm : (fn.name == "runtime.NumGoroutine") = false) (hnb : fn.body.isNone = false) {ps : List PK} {rs : List RK} {fi : Fi} {n : Nat}
    {G : PDs ps → Option (RDs rs × ODs ps)} (hG : ∀ x r, G x = some r → evFn Γ tab fi n ps rs fn x = some r) : Good tab.ty P f ⟨ps, rs, G⟩ := by
  cases hb : fn.body with
  | none => rw [hb] at hnb; cases hnb
  | some c =>
    refine ⟨⟨fn, hf, hnm, by rw [hb]; rfl⟩, fun w S x vals B r hlt hargs hnd hB hg => ?_⟩
    have he := hG x r hg
    unfold evFn at he
    rw [hb] at he
    simp only at he
    cases hq : (dstsOkc fn.ntmps (boxIdx 0 ps) c && noDup ((initOb 0 ps x).map (·.1))) with
    | false => rw [hq] at he; cases he
    | true =>
      rw [hq] at he
      simp only [cond_true] at he
      simp only [Bool.and_eq_true] at hq
      refine calls_of_wp hf hb ?_
      have htm : ∀ t, (vals.toArray ++ Array.replicate (fn.ntmps - vals.toArray.size) undef).getD t undef = vals.getD t undef := by
        intro t
        rw [Array.getD_eq_getD_getElem?, List.getD_eq_getElem?_getD, Array.getElem?_append]
        split
        · simp
        · rename_i hge
          rw [List.getElem?_eq_none (by simpa using hge)]
          rw [Array.getElem?_replicate]
          split <;> rfl
      obtain ⟨β, h0⟩ := start_rel (N := ((vals.toArray ++ Array.replicate (fn.ntmps - vals.toArray.size) undef).size, pinsOf 0 ps vals)) hlt hargs hnd hB hq.2
        { tmps := vals.toArray ++ Array.replicate (fn.ntmps - vals.toArray.size) undef, defers := [] } rfl (fun t _ => htm t) rfl (fun p hp => by rw [htm]; exact pins_get 0 rfl p hp)
      refine evCode_sound (n0 := fn.ntmps) (by simp; omega) hΓ hTab (hD _) (by rw [pins_map 0 hargs]; exact hq.1) h0 he (fun e a' w' S' β' s hS h' hk => ?_)
      have hpin := pins_ok (a := a') 0 hargs h'.par
      cases e with
      | normal => exact ⟨h'.nodef, fin_post (R := PostG tab w S vals B r) hTab h' hS hk hpin (fun vs S1 B1 B2 g1 g2 g3 g4 g5 g6 g7 => ⟨vs, S1, B1, B2, rfl, g1, g2, g3, g4, g5, g6, g7⟩)⟩
      | ret => exact ⟨h'.nodef, fin_post (R := PostG tab w S vals B r) hTab h' hS hk hpin (fun vs S1 B1 B2 g1 g2 g3 g4 g5 g6 g7 => ⟨vs, S1, B1, B2, rfl, g1, g2, g3, g4, g5, g6, g7⟩)⟩
      | exit id => cases hk
end
end Go.PE


set_option linter.unusedVariables false
set_option linter.unusedSimpArgs false
namespace Go.PE
section
variable {P : Program} {tab : Tab} {N : NN} {w0 : World} {F : FF} {S : Nat → Prop} {β : Lab → Value} {st : St} {a : Act} {w : World}
theorem finish_cps {o : Oper} {v : SV} {del : List Lab} {u : Upd} {R : Type} {k : St → List Lab → Option R} {res : R} (h : finish st o v del u k = some res) :
    ∃ s W, k s W = some res ∧ (∀ {R' : Type} (k' : St → List Lab → Option R'), finish st o v del u k' = k' s W) ∧ ∀ l, l ∉ W → oget s.objs l = oget st.objs l := by
  obtain ⟨s, hs, hk⟩ := Option.bind_eq_some_iff.1 h
  refine ⟨_, _, hk, fun k' => by unfold finish; rw [hs]; rfl, fun l hl => ?_⟩
  have hok := applyUpd_ok hs
  have e : oget (putS s o.dst v).objs l = oget s.objs l := by cases o.dst <;> rfl
  rw [e, hok.get l]
  have h1 : l ∉ del := fun hx => hl (List.mem_append.2 (.inl hx))
  cases hu : oget u l with
  | some ob => exact absurd (List.mem_append.2 (.inr (List.mem_map.2 ⟨(l, ob), oget_mem2 hu, rfl⟩))) hl
  | none => simp only; rw [delAll_get, if_neg h1]
theorem frzBox_none {l m : Lab} {T : TypeId} {p : St × (t : Ty) × t.den} (h : frzBox st l T tab = some p) (hm : oget st.objs m = none) : oget p.1.objs m = none := by
  unfold frzBox at h
  split at h
  · obtain ⟨t', _, h⟩ := Option.bind_eq_some_iff.1 h
    obtain ⟨x', _, h⟩ := Option.bind_eq_some_iff.1 h
    have h := Option.some.inj h
    subst h
    simp only [oget_odel, hm]
    split <;> rfl
  · cases h
theorem makeFunc_none {Γ : Ctx} {f : FuncId} {m : Lab} : ∀ {svs : List SV} {st : St} {cs : List ((t : Ty) × t.den)} {p : St × LV}, evMakeFunc Γ tab f st svs cs = some p → oget st.objs m = none → oget p.1.objs m = none
  | [], st, cs, p, h, hm => by
    obtain ⟨e, heg, h⟩ := Option.bind_eq_some_iff.1 h
    have h : (bif cloShape e.ps && e.rs.all flatRK then (capD (splitPs e.ps).2 cs).bind fun y => some (st, LV.clo (splitPs e.ps).1 (e.rs.map (·.t)) (cloFn e y (e.rs.map (·.t)))) else none) = some p := h
    cases hq : (cloShape e.ps && e.rs.all flatRK) with
    | false => rw [hq] at h; cases h
    | true =>
      rw [hq] at h
      obtain ⟨y, hy, h⟩ := Option.bind_eq_some_iff.1 h
      have h := Option.some.inj h
      subst h
      exact hm
  | sv :: r, st, cs, p, h, hm => by
    cases sv with
    | dead => cases h
    | skip => cases h
    | tup _ => cases h
    | ap _ _ _ _ => cases h
    | ep t x => exact makeFunc_none (svs := r) h hm
    | cv c =>
      cases c with
      | agg _ => cases h
      | one u =>
        cases u <;> try (cases h; done)
        case ptr l off =>
        cases off with
        | succ n => cases h
        | zero =>
          obtain ⟨⟨st1, t, x⟩, hf, h⟩ := Option.bind_eq_some_iff.1 h
          exact makeFunc_none (svs := r) h (frzBox_none hf hm)
theorem evCall_cps {Γ : Ctx} {o : Lab → Option Ob} {d : Nat} {e : Ent} {args : List SV} {R : Type} {k : SV → List Lab → Upd → Option R} {res : R} (h : evCall Γ o d e args k = some res) :
    ∃ v del u, k v del u = some res ∧ ∀ {R' : Type} (k' : SV → List Lab → Upd → Option R'), evCall Γ o d e args k' = k' v del u := by
  unfold evCall at h
  obtain ⟨a, ha, h⟩ := Option.bind_eq_some_iff.1 h
  cases hq : (noDup a.2.1 && apart a.2.1 a.2.2 && a.2.1.all (isObj o) && a.2.2.all (isObj o) && (bif leaks e then nilL a.2.2 else true)) with
  | false => rw [hq] at h; cases h
  | true =>
    rw [hq] at h
    obtain ⟨r, hr, h⟩ := Option.bind_eq_some_iff.1 h
    refine ⟨_, _, _, h, fun k' => ?_⟩
    unfold evCall
    rw [ha]
    simp only [Option.bind_some, hq, cond_true, hr]
theorem evCore_cps {Γ : Ctx} {kn : List (Nat × Bool)} {o : Oper} {R : Type} {k : St → List Lab → Option R} {res : R} (h : evCore Γ tab kn st o k = some res) :
    ∃ s W, k s W = some res ∧ (∀ {R' : Type} (k' : St → List Lab → Option R'), evCore Γ tab kn st o k' = k' s W) ∧ ∀ l, l ∉ W → (isMakeFunc o = false ∨ oget st.objs l = none) → oget s.objs l = oget st.objs l := by
  have simple : (∀ {R' : Type} (k' : St → List Lab → Option R'), evCore Γ tab kn st o k' = (ev1 tab kn (svOf st.slots) (oget st.objs) (o.dst.getD 999999999) o.op o.type).bind (fun r => bif r.1 then finish st o r.2.1 [] r.2.2 k' else none)) →
      ∃ s W, k s W = some res ∧ (∀ {R' : Type} (k' : St → List Lab → Option R'), evCore Γ tab kn st o k' = k' s W) ∧ ∀ l, l ∉ W → (isMakeFunc o = false ∨ oget st.objs l = none) → oget s.objs l = oget st.objs l := by
    intro hall
    rw [hall] at h
    obtain ⟨⟨c, v, u⟩, hr, he⟩ := Option.bind_eq_some_iff.1 h
    cases hc : c with
    | false => rw [hc] at he; cases he
    | true =>
      rw [hc] at he hr
      obtain ⟨s, W, g1, g2, g3⟩ := finish_cps he
      exact ⟨s, W, g1, fun k' => by rw [hall, hr]; exact g2 k', fun l hl _ => g3 l hl⟩
  cases ho : o.op <;> try (refine simple (fun k' => ?_); unfold evCore; rw [ho]; done)
  case convert sT dT x =>
    cases hb : evBytes tab (oget st.objs) sT dT (svOf st.slots x) with
    | none => refine simple (fun k' => ?_); unfold evCore; simp only [ho, hb]
    | some r =>
      obtain ⟨c, v, del⟩ := r
      have hall : ∀ {R' : Type} (k' : St → List Lab → Option R'), evCore Γ tab kn st o k' = (bif c then finish st o v del [] k' else none) := fun k' => by unfold evCore; simp only [ho, hb]
      rw [hall] at h
      cases hc : c with
      | false => rw [hc] at h; cases h
      | true =>
        rw [hc] at h
        obtain ⟨s', W, g1, g2, g3⟩ := finish_cps h
        exact ⟨s', W, g1, fun k' => by rw [hall, hc]; exact g2 k', fun l hl _ => g3 l hl⟩
  case makeFunc fn first captured =>
    clear simple
    unfold evCore at h ⊢
    simp only [ho] at h ⊢
    cases fn <;> try (cases h; done)
    case func f =>
    cases hfirst : first.toList with
    | cons _ _ => simp only [hfirst] at h; cases h
    | nil =>
      simp only [hfirst] at h ⊢
      obtain ⟨⟨st2, lv⟩, hm, h⟩ := Option.bind_eq_some_iff.1 h
      obtain ⟨s, W, g1, g2, g3⟩ := finish_cps h
      refine ⟨s, W, g1, fun k' => by rw [hm]; exact g2 k', fun l hl hh => ?_⟩
      have hn : oget st.objs l = none := by
        rcases hh with hh | hh
        · unfold isMakeFunc at hh; rw [ho] at hh; cases hh
        · exact hh
      rw [g3 l hl, hn]
      exact makeFunc_none hm hn
  case call cl =>
    obtain ⟨callee, args, argTypes⟩ := cl
    cases callee with
    | invoke r m => refine simple (fun k' => ?_); unfold evCore; rw [ho]
    | builtin b =>
      cases b <;> try (refine simple (fun k' => ?_); unfold evCore; rw [ho]; done)
      case append =>
      clear simple
      unfold evCore at h ⊢
      simp only [ho] at h ⊢
      split at h
      case h_2 => cases h
      case h_1 s x T T' ha ht =>
      obtain ⟨⟨c, v, del, u⟩, hr, h⟩ := Option.bind_eq_some_iff.1 h
      cases hc : c with
      | false => rw [hc] at h; cases h
      | true =>
        rw [hc] at h hr
        obtain ⟨s', W, g1, g2, g3⟩ := finish_cps h
        exact ⟨s', W, g1, fun k' => by simp only [ha, ht, hr, Option.bind_some]; exact g2 k', fun l hl _ => g3 l hl⟩
    | value f =>
      clear simple
      unfold evCore at h ⊢
      simp only [ho] at h ⊢
      split at h
      case h_3 => cases h
      case h_1 g hf =>
        obtain ⟨e, heg, h⟩ := Option.bind_eq_some_iff.1 h
        obtain ⟨v, del, u, hfin, hall⟩ := evCall_cps h
        obtain ⟨s', W, g1, g2, g3⟩ := finish_cps hfin
        exact ⟨s', W, g1, fun k' => by simp only [hf, heg, Option.bind_some]; rw [hall]; exact g2 k', fun l hl _ => g3 l hl⟩
      case h_2 ps rs g hf =>
        obtain ⟨⟨x, rd⟩, hx, h⟩ := Option.bind_eq_some_iff.1 h
        cases hq : rd.all (isObj (oget st.objs)) with
        | false => simp only [hq] at h; cases h
        | true =>
          simp only [hq, cond_true] at h
          obtain ⟨r, hr, h⟩ := Option.bind_eq_some_iff.1 h
          obtain ⟨s', W, g1, g2, g3⟩ := finish_cps h
          exact ⟨s', W, g1, fun k' => by simp only [hf, hx, Option.bind_some, hq, cond_true, hr]; exact g2 k', fun l hl _ => g3 l hl⟩
theorem frzAll_none {m : Lab} : ∀ {ls : List Lab} {st st' : St}, frzAll st ls = some st' → oget st.objs m = none → oget st'.objs m = none
  | [], st, st', h, hm => by have := Option.some.inj h; subst this; exact hm
  | l :: r, st, st', h, hm => by
    unfold frzAll at h
    split at h
    · obtain ⟨s, hs, h⟩ := Option.bind_eq_some_iff.1 h
      refine frzAll_none h ?_
      unfold PE.frz at hs
      split at hs
      · rename_i eT e xs _
        have hs := Option.some.inj hs
        subst hs
        have e1 : oget ((odel st.objs l).map fun p => (p.1, obSub (lvTo l (.pure (.sl eT e) xs)) p.2)) m = (oget (odel st.objs l) m).map (obSub (lvTo l (.pure (.sl eT e) xs))) := oget_map _ _ _
        show oget ((odel st.objs l).map fun p => (p.1, obSub (lvTo l (.pure (.sl eT e) xs)) p.2)) m = none
        rw [e1, oget_odel, hm]
        split <;> rfl
      · cases hs
    · exact frzAll_none h hm
theorem frzAll_id : ∀ {ls : List Lab} {st st' : St}, frzAll st ls = some st' → frzd st ls = false → st' = st
  | [], st, st', h, _ => (Option.some.inj h).symm
  | l :: r, st, st', h, hf => by
    unfold frzd at hf
    rw [List.any_cons, Bool.or_eq_false_iff] at hf
    unfold frzAll at h
    split at h
    · rename_i h1
      rw [h1] at hf
      cases hf.1
    · exact frzAll_id h hf.2
theorem oget_none_keys {o : List (Lab × Ob)} {l : Lab} (h : l ∉ o.map (·.1)) : oget o l = none := by
  cases ho : oget o l with
  | none => rfl
  | some ob => exact absurd (List.mem_map.2 ⟨(l, ob), oget_mem2 ho, rfl⟩) h
theorem evOp_cps {Γ : Ctx} {kn : List (Nat × Bool)} {o : Oper} {R : Type} {k : St → List Lab → Option R} {res : R} (h : evOp Γ tab kn st o k = some res) :
    ∃ s W, k s W = some res ∧ (∀ {R' : Type} (k' : St → List Lab → Option R'), evOp Γ tab kn st o k' = k' s W) ∧ ∀ l, l ∉ W → oget s.objs l = oget st.objs l := by
  unfold evOp at h
  obtain ⟨st1, hz, h⟩ := Option.bind_eq_some_iff.1 h
  obtain ⟨s, W, g1, g2, g3⟩ := evCore_cps h
  refine ⟨s, _, g1, fun k' => by unfold evOp; rw [hz]; exact g2 _, fun l hl => ?_⟩
  have hl2 : l ∉ W := fun hx => hl (List.mem_append.2 (.inr hx))
  cases hq : (frzd st (needFrz Γ (svOf st.slots) o) || isMakeFunc o) with
  | true =>
    rw [hq] at hl
    have hk : oget st.objs l = none := oget_none_keys (fun hx => hl (List.mem_append.2 (.inl hx)))
    have h1 := frzAll_none hz hk
    rw [g3 l hl2 (.inr h1), h1, hk]
  | false =>
    rw [Bool.or_eq_false_iff] at hq
    have := frzAll_id hz hq.1
    subst this
    exact g3 l hl2 (.inl hq.2)
theorem evOp_fixed {Γ : Ctx} (hΓ : GoodΓ tab.ty P Γ) (hTab : TabOK P tab) {o : Oper} {s : St} {W : List Lab} (hall : ∀ {R' : Type} (k' : St → List Lab → Option R'), evOp Γ tab [] st o k' = k' s W) :
    ∀ {N : NN} {w0 : World} {F : FF} {S : Nat → Prop} {β : Lab → Value} {a : Act} {w : World}, Rel P tab.ty N w0 F S β st a w → (∀ d, o.dst = some d → okD N d) →
    ∀ (Q : Exit → Act → World → Prop) (K : Act → World → Prop),
      (∀ x w' S' β', (∀ k, S k → S' k) → (∀ l : Lab, l.1 ≠ o.dst.getD 999999999 → β' l = β l) → Rel P tab.ty N w0 F S' β' s (a.put o.dst x) w' → K (a.put o.dst x) w') → o.wp P a w K Q := by
  intro N w0 F S β a w h hd Q K hK
  have he : evOp Γ tab [] st o (fun s W => some s) = some s := hall _
  refine evOp_sound hΓ hTab (fun t b ht => by cases ht) h hd he Q K (fun x w' S' β' s' W' h1 h2 h3 h4 => ?_)
  have := Option.some.inj h4
  subst this
  exact hK x w' S' β' h1 h2 h3
theorem frame_rule {τ : TypeId → Option Ty} {sl : Nat → SV} {ob : Lab → Option Ob} (h : RelF P τ N w0 F S β sl ob a w) {sub s : St} {ls : List Lab} {o : Oper}
    (hsl : ∀ t, sget sub.slots t = .dead ∨ sget sub.slots t = sl t) (hob : ∀ l, oget sub.objs l = if l ∈ ls then ob l else none)
    (hf1 : ∀ t, ∀ l ∈ svRefs (sl t), l.1 ≠ o.dst.getD 999999999) (hf2 : ∀ l x, ob l = some x → l.1 ≠ o.dst.getD 999999999 ∧ ∀ m ∈ obRefs x, m.1 ≠ o.dst.getD 999999999)
    (hloc : ∀ {w0 : World} {F : FF} {S : Nat → Prop} {β : Lab → Value} {a : Act} {w : World}, Rel P τ N w0 F S β sub a w → ∀ (Q : Exit → Act → World → Prop) (K : Act → World → Prop),
      (∀ x w' S' β', (∀ k, S k → S' k) → (∀ l : Lab, l.1 ≠ o.dst.getD 999999999 → β' l = β l) → Rel P τ N w0 F S' β' s (a.put o.dst x) w' → K (a.put o.dst x) w') → o.wp P a w K Q)
    (hs : ∀ l x, oget s.objs l = some x → l ∈ ls ∨ o.dst = some l.1) (Q : Exit → Act → World → Prop) (K : Act → World → Prop)
    (hK : ∀ x w' S' β', (∀ k, S k → S' k) → RelF P τ N w0 F S' β' (fun t => if o.dst = some t then sget s.slots t else sl t) (fun l => if l ∈ ls ∨ o.dst = some l.1 then oget s.objs l else ob l) (a.put o.dst x) w' → K (a.put o.dst x) w') : o.wp P a w K Q := by
  have h0 : Rel P τ N w (fun k => ∃ l ∈ ls, ∃ x, ob l = some x ∧ blk (β l) = some k, S) S β sub a w := by
    have look : ∀ l x, oget sub.objs l = some x → l ∈ ls ∧ ob l = some x := fun l x hl => by
      rw [hob] at hl
      split at hl
      · rename_i hm; exact ⟨hm, hl⟩
      · cases hl
    refine ⟨h.sb, fun t => ?_, fun l x hl => h.objs l x (look l x hl).2, fun l x hl b hb => ?_, fun l l' x x' hl hl' => h.dist l l' x x' (look l x hl).2 (look l' x' hl').2, Fr.refl _ w, h.size, h.nodef, fun k hk => .inl hk, h.par⟩
    · rcases hsl t with e | e
      · rw [e]; trivial
      · rw [e]; exact h.slots t
    · obtain ⟨e1, _, e3⟩ := h.excl l x (look l x hl).2 b hb
      exact ⟨e1, .inr ⟨l, (look l x hl).1, x, (look l x hl).2, hb⟩, e3⟩
  refine hloc h0 Q K (fun x w' S' β' hS hβ h' => hK x w' S' β' hS ?_)
  have hblk : ∀ k, k < w.heap.size → ¬ (∃ l ∈ ls, ∃ x, ob l = some x ∧ blk (β l) = some k) → w'.heap[k]? = w.heap[k]? := fun k hk hn => h'.fr.block hk hn
  have hSk : ∀ k, S k → k < w.heap.size → w'.heap[k]? = w.heap[k]? := fun k hs hk => hblk k hk (fun ⟨l, _, y, hy, hb⟩ => (h.excl l y hy k hb).1 hs)
  have cases' : ∀ l y, (if l ∈ ls ∨ o.dst = some l.1 then oget s.objs l else ob l) = some y → oget s.objs l = some y ∧ (l ∈ ls ∨ o.dst = some l.1) ∨ (l ∉ ls ∧ ob l = some y ∧ β' l = β l) := fun l y hl => by
    split at hl
    · rename_i hc; exact .inl ⟨hl, hc⟩
    · rename_i hc
      exact .inr ⟨fun hm => hc (.inl hm), hl, hβ l (hf2 l y hl).1⟩
  have own : ∀ l y, oget s.objs l = some y → ∀ b, blk (β' l) = some b → w.heap.size ≤ b ∨ ∃ m ∈ ls, ∃ z, ob m = some z ∧ blk (β m) = some b := fun l y hl b hb => (h'.excl l y hl b hb).2.1
  refine ⟨h'.sb, fun t => ?_, fun l y hl => ?_, fun l y hl b hb => ?_, fun l l' y y' hl hl' hne b hb hb' => ?_, ?_, h'.size, h'.nodef, fun k hk => ?_, h'.par⟩
  · show SVrel P τ S' β' w' (if o.dst = some t then sget s.slots t else sl t) _
    split
    · exact h'.slots t
    · rename_i hne
      have e : (a.put o.dst x).tmps.getD t undef = a.tmps.getD t undef := by
        cases hd : o.dst with
        | none => rfl
        | some d =>
          have hdt : d ≠ t := fun e => hne (by rw [hd, e])
          simp only [Act.put, Array.getD_eq_getD_getElem?, Array.getElem?_setIfInBounds]
          rw [if_neg hdt]
      rw [e]
      exact (h.slots t).frame hS h'.fr.size hSk h.sb (fun l hl => hβ l (hf1 t l hl))
  · rcases cases' l y hl with ⟨hl, _⟩ | ⟨hn, hl, hb⟩
    · exact h'.objs l y hl
    · rw [hb]
      refine (h.objs l y hl).frame hS h'.fr.size hSk h.sb (fun m hm => hβ m ((hf2 l y hl).2 m hm)) (fun b hbl => hblk b (h.excl l y hl b hbl).2.2 ?_)
      rintro ⟨m, hm, z, hz, hbm⟩
      exact h.dist l m y z hl hz (fun e => hn (e ▸ hm)) b hbl hbm
  · rcases cases' l y hl with ⟨hl, _⟩ | ⟨hn, hl, hbe⟩
    · obtain ⟨e1, e2, e3⟩ := h'.excl l y hl b hb
      refine ⟨e1, ?_, e3⟩
      rcases e2 with e2 | ⟨m, _, z, hz, hbm⟩
      · exact .inl (Nat.le_trans h.fr.size e2)
      · exact (h.excl m z hz b hbm).2.1
    · rw [hbe] at hb
      obtain ⟨e1, e2, e3⟩ := h.excl l y hl b hb
      refine ⟨fun hs' => ?_, e2, Nat.lt_of_lt_of_le e3 h'.fr.size⟩
      rcases h'.within b hs' with h1 | h1 | ⟨m, hm, z, hz, hbm⟩
      · exact e1 h1
      · omega
      · exact h.dist l m y z hl hz (fun e => hn (e ▸ hm)) b hb hbm
  · rcases cases' l y hl with ⟨hl1, _⟩ | ⟨hn, hl1, hbe⟩
    · rcases cases' l' y' hl' with ⟨hl2, _⟩ | ⟨hn2, hl2, hbe2⟩
      · exact h'.dist l l' y y' hl1 hl2 hne b hb hb'
      · rw [hbe2] at hb'
        have := (h.excl l' y' hl2 b hb').2.2
        rcases own l y hl1 b hb with h1 | ⟨m, hm, z, hz, hbm⟩
        · omega
        · exact h.dist l' m y' z hl2 hz (fun e => hn2 (e ▸ hm)) b hb' hbm
    · rw [hbe] at hb
      rcases cases' l' y' hl' with ⟨hl2, _⟩ | ⟨hn2, hl2, hbe2⟩
      · have := (h.excl l y hl1 b hb).2.2
        rcases own l' y' hl2 b hb' with h1 | ⟨m, hm, z, hz, hbm⟩
        · omega
        · exact h.dist l m y z hl1 hz (fun e => hn (e ▸ hm)) b hb hbm
      · rw [hbe2] at hb'
        exact h.dist l l' y y' hl1 hl2 hne b hb hb'
  · refine h.fr.trans' h'.fr (fun i hi hx => ?_)
    obtain ⟨m, _, z, hz, hbm⟩ := hx
    rcases (h.excl m z hz i hbm).2.1 with h1 | h1
    · omega
    · exact h1
  · rcases h'.within k hk with h1 | h1 | ⟨m, _, z, hz, hbm⟩
    · exact h.within k h1
    · exact .inr (.inl (Nat.le_trans h.fr.size h1))
    · exact .inr (h.excl m z hz k hbm).2.1
end
end Go.PE


set_option linter.unusedVariables false
set_option linter.unusedSimpArgs false
namespace Go.PE
structure En where
  o : Oper
  act : Bool
  ls : List Lab
  W : List Lab
  sub : St
  s : St
def En.v (e : En) : SV := match e.act, e.o.dst with
  | true, some d => sget e.s.slots d
  | _, _ => .skip
def En.putSl (e : En) (f : Nat → SV) (t : Nat) : SV := if e.o.dst = some t then e.v else f t
def En.putOb (e : En) (f : Lab → Option Ob) (l : Lab) : Option Ob := if e.act = true ∧ l ∈ e.W then oget e.s.objs l else f l
def accS (D : Nat → Bool) : Nat → List En → (Nat → SV) → Nat → SV
  | _, [], f => f
  | i, e :: r, f => accS D (i + 1) r (if D i = true then e.putSl f else f)
def accO (D : Nat → Bool) : Nat → List En → (Lab → Option Ob) → Lab → Option Ob
  | _, [], f => f
  | i, e :: r, f => accO D (i + 1) r (if D i = true then e.putOb f else f)
theorem accS_congr {D D' : Nat → Bool} {t : Nat} : ∀ {es : List En} {i : Nat} {f f' : Nat → SV}, f t = f' t → (∀ j e, es[j]? = some e → e.o.dst = some t → D (i + j) = D' (i + j)) → accS D i es f t = accS D' i es f' t
  | [], i, f, f', h, _ => h
  | e :: r, i, f, f', h, hd => by
    simp only [accS]
    refine accS_congr ?_ (fun j e' hj hdj => by have := hd (j + 1) e' (by simpa using hj) hdj; rw [show i + (j + 1) = i + 1 + j by omega] at this; exact this)
    by_cases hdt : e.o.dst = some t
    · have := hd 0 e rfl hdt
      rw [Nat.add_zero] at this
      rw [this]
      split
      · simp [En.putSl, hdt]
      · exact h
    · have e1 : ∀ g : Nat → SV, e.putSl g t = g t := fun g => by simp [En.putSl, hdt]
      split <;> split <;> simp only [e1, h]
theorem accO_congr {D D' : Nat → Bool} {l : Lab} : ∀ {es : List En} {i : Nat} {f f' : Lab → Option Ob}, f l = f' l → (∀ j e, es[j]? = some e → e.act = true → l ∈ e.W → D (i + j) = D' (i + j)) → accO D i es f l = accO D' i es f' l
  | [], i, f, f', h, _ => h
  | e :: r, i, f, f', h, hd => by
    simp only [accO]
    refine accO_congr ?_ (fun j e' hj h1 h2 => by have := hd (j + 1) e' (by simpa using hj) h1 h2; rw [show i + (j + 1) = i + 1 + j by omega] at this; exact this)
    by_cases hdt : e.act = true ∧ l ∈ e.W
    · have := hd 0 e rfl hdt.1 hdt.2
      rw [Nat.add_zero] at this
      rw [this]
      split
      · simp [En.putOb, hdt]
      · exact h
    · have e1 : ∀ g : Lab → Option Ob, e.putOb g l = g l := fun g => by simp [En.putOb, hdt]
      split <;> split <;> simp only [e1, h]
theorem accS_last {D : Nat → Bool} {t : Nat} : ∀ {es : List En} {i j : Nat} {f : Nat → SV} {e : En}, es[j]? = some e → e.o.dst = some t → D (i + j) = true → (∀ k e', es[k]? = some e' → e'.o.dst = some t → j < k → D (i + k) = false) → accS D i es f t = e.v
  | [], i, j, f, e, hj, _, _, _ => by simp at hj
  | x :: r, i, 0, f, e, hj, hd, hD, hk => by
    simp at hj
    subst hj
    rw [Nat.add_zero] at hD
    simp only [accS, hD, if_true]
    have e1 : accS D (i + 1) r (x.putSl f) t = accS (fun _ => false) (i + 1) r (x.putSl f) t := accS_congr rfl (fun k e' hke hde => by
      have := hk (k + 1) e' (by simpa using hke) hde (by omega)
      rw [show i + (k + 1) = i + 1 + k by omega] at this
      exact this)
    rw [e1]
    have e2 : ∀ (es : List En) (i : Nat) (f : Nat → SV), accS (fun _ => false) i es f = f := by
      intro es
      induction es with
      | nil => intro i f; rfl
      | cons y q ih => intro i f; simp [accS, ih]
    rw [e2]
    simp [En.putSl, hd]
  | x :: r, i, j + 1, f, e, hj, hd, hD, hk => by
    simp only [accS]
    refine accS_last (j := j) (by simpa using hj) hd (by rw [show i + 1 + j = i + (j + 1) by omega]; exact hD) (fun k e' hke hde hlt => ?_)
    have := hk (k + 1) e' (by simpa using hke) hde (by omega)
    rw [show i + (k + 1) = i + 1 + k by omega] at this
    exact this
theorem accO_last {D : Nat → Bool} {l : Lab} : ∀ {es : List En} {i j : Nat} {f : Lab → Option Ob} {e : En}, es[j]? = some e → e.act = true → l ∈ e.W → D (i + j) = true → (∀ k e', es[k]? = some e' → e'.act = true → l ∈ e'.W → j < k → D (i + k) = false) →
    accO D i es f l = oget e.s.objs l
  | [], i, j, f, e, hj, _, _, _, _ => by simp at hj
  | x :: r, i, 0, f, e, hj, hd, hW, hD, hk => by
    simp at hj
    subst hj
    rw [Nat.add_zero] at hD
    simp only [accO, hD, if_true]
    have e1 : accO D (i + 1) r (x.putOb f) l = accO (fun _ => false) (i + 1) r (x.putOb f) l := accO_congr rfl (fun k e' hke h1 h2 => by
      have := hk (k + 1) e' (by simpa using hke) h1 h2 (by omega)
      rw [show i + (k + 1) = i + 1 + k by omega] at this
      exact this)
    rw [e1]
    have e2 : ∀ (es : List En) (i : Nat) (f : Lab → Option Ob), accO (fun _ => false) i es f = f := by
      intro es
      induction es with
      | nil => intro i f; rfl
      | cons y q ih => intro i f; simp [accO, ih]
    rw [e2]
    simp [En.putOb, hd, hW]
  | x :: r, i, j + 1, f, e, hj, hd, hW, hD, hk => by
    simp only [accO]
    refine accO_last (j := j) (by simpa using hj) hd hW (by rw [show i + 1 + j = i + (j + 1) by omega]; exact hD) (fun k e' hke h1 h2 hlt => ?_)
    have := hk (k + 1) e' (by simpa using hke) h1 h2 (by omega)
    rw [show i + (k + 1) = i + 1 + k by omega] at this
    exact this
theorem accS_append (D : Nat → Bool) : ∀ (a b : List En) (i : Nat) (f : Nat → SV), accS D i (a ++ b) f = accS D (i + a.length) b (accS D i a f)
  | [], b, i, f => by simp [accS]
  | e :: r, b, i, f => by simp only [List.cons_append, accS, List.length_cons]; rw [accS_append D r b]; congr 1; omega
theorem accO_append (D : Nat → Bool) : ∀ (a b : List En) (i : Nat) (f : Lab → Option Ob), accO D i (a ++ b) f = accO D (i + a.length) b (accO D i a f)
  | [], b, i, f => by simp [accO]
  | e :: r, b, i, f => by simp only [List.cons_append, accO, List.length_cons]; rw [accO_append D r b]; congr 1; omega
theorem accS_front (ep er : List En) (f : Nat → SV) (t : Nat) : accS (fun i => decide (i < ep.length)) 0 (ep ++ er) f t = accS (fun _ => true) 0 ep f t := by
  have h1 : accS (fun i => decide (i < ep.length)) 0 (ep ++ er) f t = accS (fun _ => true) 0 (ep ++ er) f t ∨ True := .inr trivial
  rw [accS_append]
  have e2 : ∀ g : Nat → SV, accS (fun i => decide (i < ep.length)) (0 + ep.length) er g t = g t := by
    intro g
    have : accS (fun i => decide (i < ep.length)) (0 + ep.length) er g t = accS (fun _ => false) (0 + ep.length) er g t := accS_congr rfl (fun j e _ _ => by simp)
    rw [this]
    have e3 : ∀ (es : List En) (i : Nat) (f : Nat → SV), accS (fun _ => false) i es f = f := by
      intro es
      induction es with
      | nil => intro i f; rfl
      | cons y q ih => intro i f; simp [accS, ih]
    rw [e3]
  rw [e2]
  refine accS_congr rfl (fun j e hj _ => ?_)
  have : j < ep.length := (List.getElem?_eq_some_iff.1 hj).1
  simp [this]
theorem accO_front (ep er : List En) (f : Lab → Option Ob) (l : Lab) : accO (fun i => decide (i < ep.length)) 0 (ep ++ er) f l = accO (fun _ => true) 0 ep f l := by
  rw [accO_append]
  have e2 : ∀ g : Lab → Option Ob, accO (fun i => decide (i < ep.length)) (0 + ep.length) er g l = g l := by
    intro g
    have : accO (fun i => decide (i < ep.length)) (0 + ep.length) er g l = accO (fun _ => false) (0 + ep.length) er g l := accO_congr rfl (fun j e _ _ _ => by simp)
    rw [this]
    have e3 : ∀ (es : List En) (i : Nat) (f : Lab → Option Ob), accO (fun _ => false) i es f = f := by
      intro es
      induction es with
      | nil => intro i f; rfl
      | cons y q ih => intro i f; simp [accO, ih]
    rw [e3]
  rw [e2]
  refine accO_congr rfl (fun j e hj _ _ => ?_)
  have : j < ep.length := (List.getElem?_eq_some_iff.1 hj).1
  simp [this]
section
variable {P : Program} {tab : Tab} {N : NN}
def GuardOn (all : List Oper) (sl : Nat → SV) (o : Oper) (go : Bool) : Prop :=
  match o.guard with
  | none => go = true
  | some (g, want) => ∃ t, (all[g]?).bind (·.dst) = some t ∧ ((sl t = .skip ∧ go = false) ∨ ∃ b, sl t = .cv (.one (.lit b)) ∧ go = (b == want))
def Local (P : Program) (tab : Tab) (N : NN) (e : En) : Prop := ∀ {w0 : World} {F : FF} {S : Nat → Prop} {β : Lab → Value} {a : Act} {w : World}, Rel P tab.ty N w0 F S β e.sub a w →
  ∀ (Q : Exit → Act → World → Prop) (K : Act → World → Prop), (∀ x w' S' β', (∀ k, S k → S' k) → (∀ l : Lab, l.1 ≠ e.o.dst.getD 999999999 → β' l = β l) → Rel P tab.ty N w0 F S' β' e.s (a.put e.o.dst x) w' → K (a.put e.o.dst x) w') → e.o.wp P a w K Q
structure EnOk (P : Program) (tab : Tab) (N : NN) (bf : List Nat) (all : List Oper) (es : List En) (sl0 : Nat → SV) (ob0 : Lab → Option Ob) (j : Nat) (e : En) : Prop where
  guard : GuardOn all (accS (fun i => decide (i < j)) 0 es sl0) e.o e.act
  sl : e.act = true → ∀ t, sget e.sub.slots t = .dead ∨ (t ∈ looks all e.o ∧ sget e.sub.slots t = accS (fun i => decide (i < j)) 0 es sl0 t)
  ob : e.act = true → ∀ l, oget e.sub.objs l = if l ∈ e.ls then accO (fun i => decide (i < j)) 0 es ob0 l else none
  ls : e.act = true → ∀ l ∈ e.ls, (∃ t ∈ looks all e.o, l ∈ svRefs (accS (fun i => decide (i < j)) 0 es sl0 t)) ∨ ∃ m x, m ∈ e.ls ∧ accO (fun i => decide (i < j)) 0 es ob0 m = some x ∧ l ∈ obRefs x
  loc : e.act = true → Local P tab N e
  keep : e.act = true → ∀ l, l ∉ e.W → oget e.s.objs l = oget e.sub.objs l
  refs : e.act = true → (∀ l ∈ svRefs e.v, (l ∈ e.ls ∨ e.o.dst = some l.1) ∨ ∃ t ∈ looks all e.o, l ∈ svRefs (accS (fun i => decide (i < j)) 0 es sl0 t)) ∧ (∀ l x, oget e.s.objs l = some x → (l ∈ e.ls ∨ e.o.dst = some l.1) ∧ ∀ m ∈ obRefs x, m ∈ e.ls ∨ e.o.dst = some m.1) ∧ ∀ l ∈ e.W, l ∈ e.ls ∨ e.o.dst = some l.1
  tr : e.act = true → ∀ i e', es[i]? = some e' → i < j → e'.act = true → ordered bf i j = true ∨ ((∀ l ∈ e'.W, l ∉ e.ls) ∧ (∀ l ∈ e'.W, l ∉ e.W) ∧ ∀ l ∈ e.W, l ∉ e'.ls)
end
end Go.PE


set_option linter.unusedVariables false
set_option linter.unusedSimpArgs false
namespace Go.PE
section
variable {P : Program} {tab : Tab} {N : NN} {w0 : World} {F : FF} {S : Nat → Prop} {β : Lab → Value} {st : St} {a : Act} {w : World}
theorem sub_slots (st : St) : ∀ (ts : List Nat) (t : Nat), sget (ts.map fun u => (u, sget st.slots u)) t = .dead ∨ (t ∈ ts ∧ sget (ts.map fun u => (u, sget st.slots u)) t = sget st.slots t)
  | [], t => .inl rfl
  | u :: r, t => by
    rw [List.map_cons, sget_cons]
    by_cases h : u = t
    · subst h; rw [if_pos rfl]; exact .inr ⟨List.mem_cons_self .., rfl⟩
    · rw [if_neg h]
      rcases sub_slots st r t with h1 | ⟨h1, h2⟩
      · exact .inl h1
      · exact .inr ⟨List.mem_cons_of_mem _ h1, h2⟩
theorem sub_objs (st : St) : ∀ (ls : List Lab) (l : Lab), oget (ls.filterMap fun l => (oget st.objs l).map fun b => (l, b)) l = if l ∈ ls then oget st.objs l else none
  | [], l => by simp [oget]
  | m :: r, l => by
    rw [List.filterMap_cons]
    have ih := sub_objs st r l
    cases hm : oget st.objs m with
    | none =>
      simp only [Option.map_none]
      rw [ih]
      by_cases h : l = m
      · subst h; rw [hm]; simp
      · simp [h]
    | some b =>
      simp only [Option.map_some]
      rw [oget_cons, ih]
      by_cases h : m = l
      · subst h; rw [if_pos rfl, hm]; simp
      · rw [if_neg h]
        have h3 : l ≠ m := fun e => h e.symm
        by_cases h2 : l ∈ r <;> simp [h2, h3]
theorem dedup_mem : ∀ {ls : List Lab} {l : Lab}, l ∈ dedup ls ↔ l ∈ ls
  | [], l => by simp [dedup]
  | m :: r, l => by
    simp only [dedup]
    cases hm : lmem m r with
    | true =>
      simp only [cond_true, List.mem_cons]
      rw [dedup_mem]
      exact ⟨.inr, fun h => h.elim (fun e => e ▸ lmem_iff.1 hm) id⟩
    | false =>
      simp only [cond_false, List.mem_cons]
      rw [dedup_mem]
theorem behind_mem {ts : List Nat} {l : Lab} (h : l ∈ behind st ts) : (∃ t ∈ ts, l ∈ svRefs (sget st.slots t)) ∨ ∃ m x, m ∈ behind st ts ∧ oget st.objs m = some x ∧ l ∈ obRefs x := by
  have h' := h
  unfold behind at h
  rw [dedup_mem] at h
  rcases List.mem_append.1 h with h | h
  · obtain ⟨t, ht, hl⟩ := List.mem_flatMap.1 h
    exact .inl ⟨t, ht, hl⟩
  · obtain ⟨m, hm, hl⟩ := List.mem_flatMap.1 h
    split at hl
    · rename_i x hx
      refine .inr ⟨m, x, ?_, hx, hl⟩
      unfold behind
      rw [dedup_mem]
      exact List.mem_append.2 (.inl hm)
    · cases hl
theorem lsOf_mem {all : List Oper} {o : Oper} {l : Lab} (h : l ∈ lsOf st all o) : (∃ t ∈ looks all o, l ∈ svRefs (sget st.slots t)) ∨ ∃ m x, m ∈ lsOf st all o ∧ oget st.objs m = some x ∧ l ∈ obRefs x := by
  unfold lsOf at h ⊢
  cases hm : isSlotOp o with
  | true => rw [hm] at h; cases h
  | false => rw [hm] at h; exact behind_mem h
theorem within_ok {ls : List Lab} {dst : Option Nat} {l : Lab} (h : within ls dst l = true) : l ∈ ls ∨ dst = some l.1 := by
  unfold within at h
  rw [Bool.or_eq_true] at h
  rcases h with h | h
  · exact .inl (lmem_iff.1 h)
  · cases dst with
    | none => cases h
    | some d => exact .inr (by rw [nbeq_iff.1 h])
theorem split_ok {all : List Oper} {dst : Option Nat} {s : St} {R : Type} {k : St → Option R} {res : R} (h : split all dst s k = some res) :
    ∃ s', k s' = some res ∧ (s' = s ∨ ∃ d b, dst = some d ∧ sget s.slots d = .cv (.one (.pure .bool b)) ∧ s' = putS s (some d) (.cv (.one (.lit b)))) := by
  unfold split at h
  cases dst with
  | none => exact ⟨s, h, .inl rfl⟩
  | some d =>
    simp only at h
    cases hq : nmem d (guardTs all) with
    | false => rw [hq] at h; exact ⟨s, h, .inl rfl⟩
    | true =>
      rw [hq] at h
      simp only [cond_true] at h
      split at h
      · rename_i x hx
        cases hb : (show Bool from x) with
        | true =>
          have hb : x = true := hb
          subst hb
          exact ⟨_, h, .inr ⟨d, true, rfl, hx, rfl⟩⟩
        | false =>
          have hb : x = false := hb
          subst hb
          exact ⟨_, h, .inr ⟨d, false, rfl, hx, rfl⟩⟩
      · exact ⟨s, h, .inl rfl⟩
theorem Rel.lit (h : Rel P tab.ty N w0 F S β st a w) {d : Nat} {b : Bool} (hd : sget st.slots d = .cv (.one (.pure .bool b))) : Rel P tab.ty N w0 F S β (putS st (some d) (.cv (.one (.lit b)))) a w := by
  refine ⟨h.sb, fun t => ?_, h.objs, h.excl, h.dist, h.fr, h.size, h.nodef, h.within, h.par⟩
  show SVrel P tab.ty S β w (sget ((d, SV.cv (.one (.lit b))) :: st.slots) t) _
  rw [sget_cons]
  split
  · rename_i e; subst e
    have := h.slots d
    rw [hd] at this
    exact List.singleton_inj.1 this
  · exact h.slots t
def DsRun (P : Program) (tab : Tab) (N : NN) (bf : List Nat) (all : List Oper) (r : List Oper) (i : Nat) (ts : List Tr) (st : St) {R : Type} (k : St → Option R) (res : R) : Prop :=
    ∃ (er : List En) (fin : St), er.map (·.o) = r ∧ k fin = some res ∧ ∀ (ep : List En) (sl0 : Nat → SV) (ob0 : Lab → Option Ob), ep.length = i → (∀ t, sget st.slots t = accS (fun _ => true) 0 ep sl0 t) → (∀ l, oget st.objs l = accO (fun _ => true) 0 ep ob0 l) →
      (∀ n e, ep[n]? = some e → e.act = true → ∃ x ∈ ts, x.i = n ∧ x.rd = e.ls ∧ x.wr = e.W) →
      (∀ j e, er[j]? = some e → EnOk P tab N bf all (ep ++ er) sl0 ob0 (i + j) e) ∧ (∀ t, sget fin.slots t = accS (fun _ => true) 0 (ep ++ er) sl0 t) ∧ (∀ l, oget fin.objs l = accO (fun _ => true) 0 (ep ++ er) ob0 l)
theorem evDs_run {Γ : Ctx} (hΓ : GoodΓ tab.ty P Γ) (hTab : TabOK P tab) {bf : List Nat} {all : List Oper} {R : Type} {k : St → Option R} {res : R} : ∀ {r : List Oper} {i : Nat} {ts : List Tr} {st : St},
    (∀ o ∈ r, ∀ d, o.dst = some d → okD N d) → evDs Γ tab bf all r i ts st k = some res →
    DsRun P tab N bf all r i ts st k res
  | [], i, ts, st, hd, he => ⟨[], st, rfl, he, fun ep sl0 ob0 _ h1 h2 _ => ⟨fun j e hj => by simp at hj, by simpa using h1, by simpa using h2⟩⟩
  | o :: r, i, ts, st, hd, he => by
    have hdr : ∀ o ∈ r, ∀ d, o.dst = some d → okD N d := fun o ho => hd o (List.mem_cons_of_mem _ ho)
    have hdo := hd o (List.mem_cons_self ..)
    have join : ∀ (e : En) (st1 : St) (ts1 : List Tr), e.o = o → evDs Γ tab bf all r (i + 1) ts1 st1 k = some res →
        (∀ t, sget st1.slots t = e.putSl (sget st.slots) t) → (∀ l, oget st1.objs l = e.putOb (oget st.objs) l) → (∀ x ∈ ts, x ∈ ts1) → (e.act = true → ∃ x ∈ ts1, x.i = i ∧ x.rd = e.ls ∧ x.wr = e.W) →
        (∀ (ep er : List En) (sl0 : Nat → SV) (ob0 : Lab → Option Ob), ep.length = i → (∀ t, sget st.slots t = accS (fun i => decide (i < ep.length)) 0 (ep ++ e :: er) sl0 t) → (∀ l, oget st.objs l = accO (fun i => decide (i < ep.length)) 0 (ep ++ e :: er) ob0 l) →
          (∀ n e, ep[n]? = some e → e.act = true → ∃ x ∈ ts, x.i = n ∧ x.rd = e.ls ∧ x.wr = e.W) → EnOk P tab N bf all (ep ++ e :: er) sl0 ob0 i e) →
        DsRun P tab N bf all (o :: r) i ts st k res := by
      intro e st1 ts1 heo he hsl hob hts hte hok
      obtain ⟨er, fin, g1, g2, g3⟩ := evDs_run hΓ hTab hdr he
      refine ⟨e :: er, fin, by simp [heo, g1], g2, fun ep sl0 ob0 hl h1 h2 h3 => ?_⟩
      have q := g3 (ep ++ [e]) sl0 ob0 (by simp [hl]) (fun t => by
        rw [hsl, accS_append]
        simp only [accS, if_true]
        unfold En.putSl
        rw [h1]) (fun l => by
        rw [hob, accO_append]
        simp only [accO, if_true]
        unfold En.putOb
        rw [h2]) (fun n e' hn ha => by
          by_cases hlt : n < ep.length
          · rw [List.getElem?_append_left hlt] at hn
            obtain ⟨x, hx, hr⟩ := h3 n e' hn ha
            exact ⟨x, hts x hx, hr⟩
          · rw [List.getElem?_append_right (by omega)] at hn
            have hn0 : n - ep.length = 0 := by
              rcases Nat.eq_zero_or_pos (n - ep.length) with h0 | h0
              · exact h0
              · rw [List.getElem?_eq_none (by simp; omega)] at hn; cases hn
            rw [hn0] at hn
            have hn := Option.some.inj hn
            subst hn
            obtain ⟨x, hx, hxi, hr⟩ := hte ha
            exact ⟨x, hx, by rw [hxi]; omega, hr⟩)
      rw [List.append_assoc, List.singleton_append] at q
      refine ⟨fun j e' hj => ?_, q.2.1, q.2.2⟩
      cases j with
      | zero =>
        have hj := Option.some.inj hj
        subst hj
        exact hok ep er sl0 ob0 hl (fun t => by rw [h1, accS_front]) (fun l => by rw [h2, accO_front]) h3
      | succ j =>
        have := q.1 j e' (by simpa using hj)
        rw [show i + 1 + j = i + (j + 1) by omega] at this
        exact this
    have skip : evDs Γ tab bf all r (i + 1) ts (putS st o.dst .skip) k = some res → GuardOn all (sget st.slots) o false → DsRun P tab N bf all (o :: r) i ts st k res := fun he hg =>
      join { o := o, act := false, ls := [], W := [], sub := st, s := st } (putS st o.dst .skip) ts rfl he (fun t => by
        simp only [En.putSl, En.v]
        cases hdst : o.dst with
        | none => simp [putS]
        | some d => simp only [putS, sget_cons, Option.some.injEq]) (fun l => by
        simp only [En.putOb]
        cases o.dst <;> simp [putS]) (fun x hx => hx) (fun h => by cases h) (fun ep er sl0 ob0 hl h1 h2 h3 => by
        have hsl : accS (fun n => decide (n < i)) 0 (ep ++ { o := o, act := false, ls := [], W := [], sub := st, s := st } :: er) sl0 = sget st.slots := by rw [← hl]; funext t; exact (h1 t).symm
        refine ⟨by rw [hsl]; exact hg, ?_, ?_, ?_, ?_, ?_, ?_, ?_⟩ <;> (intro h; cases h))
    have go : (evOp Γ tab [] (subSt st (looks all o) (lsOf st all o)) o fun s W =>
          bif trOk bf ts { i := i, rd := lsOf st all o, wr := W } && locOk (lsOf st all o) (rfOf st all o) o.dst s W then
          split all o.dst s fun s' => evDs Γ tab bf all r (i + 1) ({ i := i, rd := lsOf st all o, wr := W } :: ts) (merge st (lsOf st all o) W s' o.dst) k else none) = some res → GuardOn all (sget st.slots) o true → DsRun P tab N bf all (o :: r) i ts st k res := fun he hg => by
      obtain ⟨s0, W, hk, hall, hkeep⟩ := evOp_cps he
      generalize hls : lsOf st all o = ls at *
      cases hq : (trOk bf ts { i := i, rd := ls, wr := W } && locOk ls (rfOf st all o) o.dst s0 W) with
      | false => simp only [hq] at hk; cases hk
      | true =>
        simp only [hq, cond_true] at hk
        rw [Bool.and_eq_true] at hq
        obtain ⟨htr, hlo⟩ := hq
        obtain ⟨s', hk, hs'⟩ := split_ok hk
        have hobj : s'.objs = s0.objs := by
          rcases hs' with rfl | ⟨d, b, _, _, rfl⟩ <;> rfl
        unfold locOk at hlo
        simp only [Bool.and_eq_true, List.all_eq_true] at hlo
        obtain ⟨⟨l1, l2⟩, l3⟩ := hlo
        have hsubo : ∀ l, oget (subSt st (looks all o) ls).objs l = if l ∈ ls then oget st.objs l else none := fun l => sub_objs st ls l
        refine join { o := o, act := true, ls := ls, W := W, sub := subSt st (looks all o) ls, s := s' } (merge st ls W s' o.dst) _ rfl hk (fun t => ?_) (fun l => ?_) (fun x hx => List.mem_cons_of_mem _ hx) (fun _ => ⟨_, List.mem_cons_self .., rfl, rfl, rfl⟩) (fun ep er sl0 ob0 hl h1 h2 h3 => ?_)
        · simp only [En.putSl, En.v, merge]
          cases hdst : o.dst with
          | none => simp
          | some d => simp only [List.singleton_append, sget_cons, Option.some.injEq]
        · show oget (s'.objs ++ (PE.delAll st (ls ++ W)).objs) l = if true = true ∧ l ∈ W then oget s'.objs l else oget st.objs l
          rw [oget_append, delAll_get]
          by_cases hW : l ∈ W
          · rw [if_pos (show l ∈ ls ++ W from List.mem_append.2 (.inr hW)), if_pos (show true = true ∧ l ∈ W from ⟨rfl, hW⟩)]
            cases oget s'.objs l <;> rfl
          · have e9 : (if true = true ∧ l ∈ W then oget s'.objs l else oget st.objs l) = oget st.objs l := if_neg (fun h => hW h.2)
            rw [e9]
            have hkl : oget s'.objs l = if l ∈ ls then oget st.objs l else none := by rw [hobj, hkeep l hW, hsubo]
            by_cases hm : l ∈ ls
            · rw [if_pos hm] at hkl
              rw [hkl, if_pos (show l ∈ ls ++ W from List.mem_append.2 (.inl hm))]
              cases oget st.objs l <;> rfl
            · rw [if_neg hm] at hkl
              rw [hkl, if_neg (show ¬ l ∈ ls ++ W from fun h => (List.mem_append.1 h).elim hm hW)]
        · have hsl : accS (fun n => decide (n < i)) 0 (ep ++ { o := o, act := true, ls := ls, W := W, sub := subSt st (looks all o) ls, s := s' } :: er) sl0 = sget st.slots := by rw [← hl]; funext t; exact (h1 t).symm
          have hob : accO (fun n => decide (n < i)) 0 (ep ++ { o := o, act := true, ls := ls, W := W, sub := subSt st (looks all o) ls, s := s' } :: er) ob0 = oget st.objs := by rw [← hl]; funext t; exact (h2 t).symm
          refine ⟨by rw [hsl]; exact hg, fun _ t => ?_, fun _ l => ?_, fun _ l hlm => ?_, fun _ => ?_, fun _ l hlW => ?_, fun _ => ⟨fun l hlm => ?_, fun l x hx => ?_, fun l hlm => within_ok (l3 l hlm)⟩, fun _ n e' hn hlt ha => ?_⟩
          · rw [hsl]; exact sub_slots st (looks all o) t
          · rw [hob]; exact hsubo l
          · rw [hsl, hob]
            rw [← hls] at hlm
            rcases lsOf_mem hlm with h | ⟨m, x, hm, hx, hlx⟩
            · exact .inl h
            · exact .inr ⟨m, x, by rw [← hls]; exact hm, hx, hlx⟩
          · intro w0 F S β a w h Q K hK
            refine evOp_fixed hΓ hTab hall h hdo Q K (fun x w' S' β' g1 g2 g3 => hK x w' S' β' g1 g2 ?_)
            rcases hs' with rfl | ⟨d, b, _, hsd, rfl⟩
            · exact g3
            · exact g3.lit hsd
          · show oget s'.objs l = _
            rw [hobj]; exact hkeep l hlW
          · simp only [En.v] at hlm
            cases hdst : o.dst with
            | none => rw [hdst] at hlm; simp [svRefs] at hlm
            | some d =>
              rw [hdst] at hlm l1
              rcases hs' with rfl | ⟨d', b, hd', hsd, rfl⟩
              · have := List.all_eq_true.1 l1 l hlm
                rw [Bool.or_eq_true] at this
                rcases this with h | h
                · refine .inr ?_
                  rw [hsl]
                  obtain ⟨t, ht, hl⟩ := List.mem_flatMap.1 (lmem_iff.1 h)
                  exact ⟨t, ht, hl⟩
                · exact .inl (within_ok h)
              · have e : d' = d := by rw [hdst] at hd'; exact (Option.some.inj hd').symm
                subst e
                simp [putS, sget_cons, svRefs, cvRefs, lvRefs] at hlm
          · have hx : oget s0.objs l = some x := by rw [← hobj]; exact hx
            have hp := l2 (l, x) (oget_mem2 hx)
            exact ⟨within_ok hp.1, fun m hm => within_ok (hp.2 m hm)⟩
          · have hnl : n < ep.length := by omega
            rw [List.getElem?_append_left hnl] at hn
            obtain ⟨x, hx, hxi, hxr, hxw⟩ := h3 n e' hn ha
            have := List.all_eq_true.1 htr x hx
            rw [Bool.or_eq_true] at this
            rcases this with h | h
            · exact .inl (by rw [← hxi]; exact h)
            · simp only [Bool.and_eq_true] at h
              refine .inr ⟨fun l hl => ?_, fun l hl => ?_, fun l hl => ?_⟩
              · exact apart_spec h.1.1 l (by rw [hxw]; exact hl)
              · exact apart_spec h.1.2 l (by rw [hxw]; exact hl)
              · rw [← hxr]; exact apart_spec h.2 l hl
    unfold evDs at he
    cases hg : o.guard with
    | none =>
      simp only [hg] at he
      exact go he (by unfold GuardOn; rw [hg])
    | some gw =>
      obtain ⟨g, want⟩ := gw
      simp only [hg] at he
      cases ht : (all[g]?).bind (·.dst) with
      | none => simp only [ht] at he; cases he
      | some t =>
        simp only [ht] at he
        split at he
        · rename_i hs
          exact skip he (by unfold GuardOn; rw [hg]; exact ⟨t, ht, .inl ⟨hs, rfl⟩⟩)
        · rename_i b hs
          cases hb : (b == want) with
          | true =>
            simp only [hb, cond_true] at he
            exact go he (by unfold GuardOn; rw [hg]; exact ⟨t, ht, .inr ⟨b, hs, hb.symm⟩⟩)
          | false =>
            simp only [hb, cond_false] at he
            exact skip he (by unfold GuardOn; rw [hg]; exact ⟨t, ht, .inr ⟨b, hs, hb.symm⟩⟩)
        · cases he
end
end Go.PE


set_option linter.unusedVariables false
set_option linter.unusedSimpArgs false
namespace Go.PE
theorem ancMask_bit {acc : List Nat} {i : Nat} : ∀ {es : List Edge} {s : Nat}, (es.foldl (fun s e => bif Region.binds .any e then s ||| 2 ^ e.on ||| acc.getD e.on 0 else s) s).testBit i = true →
    s.testBit i = true ∨ ∃ e ∈ es, Region.binds .any e = true ∧ (i = e.on ∨ (acc.getD e.on 0).testBit i = true)
  | [], s, h => .inl h
  | e :: r, s, h => by
    rw [List.foldl_cons] at h
    rcases ancMask_bit h with h1 | ⟨e', he', h1⟩
    · cases hb : Region.binds .any e with
      | false => rw [hb] at h1; exact .inl h1
      | true =>
        rw [hb] at h1
        simp only [cond_true, Nat.testBit_or, Bool.or_eq_true, Nat.testBit_two_pow, decide_eq_true_eq] at h1
        rcases h1 with (h1 | h1) | h1
        · exact .inl h1
        · exact .inr ⟨e, List.mem_cons_self .., hb, .inl h1.symm⟩
        · exact .inr ⟨e, List.mem_cons_self .., hb, .inr h1⟩
    · exact .inr ⟨e', List.mem_cons_of_mem _ he', h1⟩
theorem ancs_front : ∀ (r : List Oper) (acc : List Nat) (k : Nat), k < acc.length → (ancs r acc).getD k 0 = acc.getD k 0
  | [], acc, k, _ => rfl
  | o :: r, acc, k, h => by
    simp only [ancs]
    rw [ancs_front r _ k (by simp; omega), List.getD_eq_getElem?_getD, List.getD_eq_getElem?_getD, List.getElem?_append_left h]
theorem ancs_step : ∀ (r : List Oper) (acc : List Nat) (j : Nat) (o : Oper), r[j]? = some o → ∀ i, ((ancs r acc).getD (acc.length + j) 0).testBit i = true →
    ∃ e ∈ o.after.toList, Region.binds .any e = true ∧ (i = e.on ∨ ((ancs r acc).getD e.on 0).testBit i = true)
  | [], acc, j, o, hj, _, _ => by simp at hj
  | x :: r, acc, 0, o, hj, i, h => by
    have hj := Option.some.inj hj
    subst hj
    simp only [ancs] at h ⊢
    rw [Nat.add_zero, ancs_front r _ acc.length (by simp), List.getD_eq_getElem?_getD, List.getElem?_append_right (Nat.le_refl _)] at h
    simp only [Nat.sub_self, List.getElem?_cons_zero, Option.getD_some] at h
    unfold ancMask at h
    rcases ancMask_bit h with h1 | ⟨e, he, hb, h1⟩
    · simp at h1
    · refine ⟨e, he, hb, ?_⟩
      rcases h1 with h1 | h1
      · exact .inl h1
      · refine .inr ?_
        have hlt : e.on < acc.length := by
          rcases Nat.lt_or_ge e.on acc.length with hl | hl
          · exact hl
          · rw [List.getD_eq_getElem?_getD, List.getElem?_eq_none hl] at h1; simp at h1
        rw [ancs_front r _ e.on (by simp; omega), List.getD_eq_getElem?_getD, List.getElem?_append_left hlt, ← List.getD_eq_getElem?_getD]
        exact h1
  | x :: r, acc, j + 1, o, hj, i, h => by
    simp only [ancs] at h ⊢
    have := ancs_step r (acc ++ [ancMask acc x.after.toList]) j o (by simpa using hj) i
    rw [List.length_append, List.length_singleton, show acc.length + 1 + j = acc.length + (j + 1) by omega] at this
    exact this h
theorem ordered_edge {all : List Oper} {i j : Nat} {o : Oper} (hj : all[j]? = some o) (h : ordered (ancs all []) i j = true) :
    ∃ e ∈ o.after.toList, Region.binds .any e = true ∧ (i = e.on ∨ ordered (ancs all []) i e.on = true) := by
  have := ancs_step all [] j o hj i
  simp only [List.length_nil, Nat.zero_add] at this
  exact this h
theorem tmps_pair {bf : List Nat} {all : List Oper} (h : tmpsOk bf all = true) {i j : Nat} {x y : Oper} (hi : all[i]? = some x) (hj : all[j]? = some y) (hlt : i < j) :
    ordered bf i j = true ∨ ((∀ t, x.dst = some t → t ∉ looks all y) ∧ (∀ t, y.dst = some t → t ∉ looks all x)) := by
  unfold tmpsOk at h
  have hx : (x, i) ∈ all.zipIdx := List.mem_zipIdx_iff_getElem?.2 hi
  have hy : (y, j) ∈ all.zipIdx := List.mem_zipIdx_iff_getElem?.2 hj
  have h1 := List.all_eq_true.1 (List.all_eq_true.1 h (x, i) hx) (y, j) hy
  have hb : Nat.blt i j = true := nble_iff.2 hlt
  simp only [hb, cond_true, Bool.or_eq_true] at h1
  rcases h1 with h1 | h1
  · exact .inl h1
  · refine .inr ?_
    unfold tmpsApart at h1
    simp only [Bool.and_eq_true] at h1
    have ap : ∀ {a b : List Nat}, apartN a b = true → ∀ t ∈ a, t ∉ b := fun {a b} hab t ht => by
      have := List.all_eq_true.1 hab t ht
      rw [Bool.not_eq_true', ← Bool.not_eq_true, nmem_iff] at this
      exact this
    refine ⟨fun t ht => ap h1.1.1 t (by simp [dstsOf, ht]), fun t ht => ap h1.1.2 t (by simp [dstsOf, ht])⟩
theorem nNoDup_nodup : ∀ {l : List Nat}, nNoDup l = true → l.Nodup
  | [], _ => List.nodup_nil
  | t :: r, h => by
    simp only [nNoDup, Bool.and_eq_true, Bool.not_eq_true'] at h
    refine List.nodup_cons.2 ⟨fun hm => ?_, nNoDup_nodup h.2⟩
    rw [← Bool.not_eq_true, nmem_iff] at h
    exact h.1 hm
theorem dst_once : ∀ {all : List Oper}, (all.flatMap dstsOf).Nodup → ∀ {i j : Nat} {x y : Oper} {t : Nat}, all[i]? = some x → all[j]? = some y → x.dst = some t → y.dst = some t → i = j
  | [], _, i, j, x, y, t, hi, _, _, _ => by simp at hi
  | o :: r, h, i, j, x, y, t, hi, hj, hx, hy => by
    rw [List.flatMap_cons, List.nodup_append] at h
    obtain ⟨_, h2, h3⟩ := h
    have inr : ∀ {k : Nat} {z : Oper}, r[k]? = some z → z.dst = some t → t ∈ r.flatMap dstsOf := fun hk hz =>
      List.mem_flatMap.2 ⟨_, List.mem_of_getElem? hk, by simp [dstsOf, hz]⟩
    cases i with
    | zero =>
      cases j with
      | zero => rfl
      | succ j =>
        have hi := Option.some.inj hi
        subst hi
        exact absurd rfl (h3 t (by simp [dstsOf, hx]) t (inr (by simpa using hj) hy))
    | succ i =>
      cases j with
      | zero =>
        have hj := Option.some.inj hj
        subst hj
        exact absurd rfl (h3 t (by simp [dstsOf, hy]) t (inr (by simpa using hi) hx))
      | succ j => rw [dst_once h2 (i := i) (j := j) (by simpa using hi) (by simpa using hj) hx hy]
section
variable {P : Program} {tab : Tab} {N : NN} {w0 : World} {F : FF} {S : Nat → Prop} {β : Lab → Value} {st : St} {a : Act} {w : World}
theorem famFresh_spec {d : Nat} (h : famFresh st d = true) : (∀ t, ∀ l ∈ svRefs (sget st.slots t), l.1 ≠ d) ∧ ∀ l x, oget st.objs l = some x → l.1 ≠ d ∧ ∀ m ∈ obRefs x, m.1 ≠ d := by
  unfold famFresh at h
  simp only [Bool.and_eq_true, List.all_eq_true, Bool.not_eq_true'] at h
  refine ⟨fun t l hl => ?_, fun l x hx => ?_⟩
  · by_cases hd : sget st.slots t = .dead
    · rw [hd] at hl; simp [svRefs] at hl
    · obtain ⟨p, hp, hpv⟩ := sget_mem rfl hd
      exact nbeq_false.1 (h.2 p hp l (by rw [hpv]; exact hl))
  · have := h.1 (l, x) (oget_mem2 hx)
    exact ⟨nbeq_false.1 this.1, fun m hm => nbeq_false.1 (this.2 m hm)⟩
theorem RelF.skipF {τ : TypeId → Option Ty} {sl : Nat → SV} {ob : Lab → Option Ob} (h : RelF P τ N w0 F S β sl ob a w) {dst : Option Nat} (hd : ∀ d, dst = some d → okD N d) :
    RelF P τ N w0 F S β (fun t => if dst = some t then .skip else sl t) ob (a.put dst undef) w := by
  cases dst with
  | none => simp only [reduceCtorEq, if_false]; exact h
  | some d =>
    have hlt : d < a.tmps.size := by rw [h.size]; exact (hd d rfl).1
    refine ⟨h.sb, fun t => ?_, h.objs, h.excl, h.dist, h.fr, ?_, h.nodef, h.within, fun p hp => ?_⟩
    · simp only [Act.put, getD_set hlt, Option.some.injEq]
      by_cases e : d = t
      · rw [if_pos e, if_pos e]; rfl
      · rw [if_neg e, if_neg e]; exact h.slots t
    · simp only [Act.put, Array.size_setIfInBounds]; exact h.size
    · simp only [Act.put]; rw [getD_set hlt, if_neg (fun e => (hd d rfl).2 p hp e.symm)]; exact h.par p hp
theorem guard_wanted {τ : TypeId → Option Ty} {ops : Array Oper} {sl sl' : Nat → SV} {ob : Lab → Option Ob} (h : RelF P τ N w0 F S β sl ob a w) {o : Oper} {act : Bool} (hg : GuardOn ops.toList sl' o act) (hs : ∀ t ∈ looks ops.toList o, sl' t = sl t) :
    Region.wanted o (yielded ops a.tmps) = act := by
  unfold GuardOn at hg
  unfold Region.wanted
  cases ho : o.guard with
  | none => rw [ho] at hg; exact hg.symm
  | some gw =>
    obtain ⟨g, want⟩ := gw
    rw [ho] at hg
    obtain ⟨t, ht, hg⟩ := hg
    have hl : t ∈ looks ops.toList o := by
      unfold looks
      rw [ho]
      exact List.mem_append.2 (.inr (by simp only [ht]; simp))
    rw [hs t hl] at hg
    have hv := h.slots t
    rcases hg with ⟨e, rfl⟩ | ⟨b, e, rfl⟩
    · rw [e] at hv
      have hv : a.tmps.getD t undef = undef := hv
      simp only [yielded_undef ht hv]; rfl
    · rw [e] at hv
      have hv : a.tmps.getD t undef = .bool b := hv
      simp only [yielded_of ht hv]; cases b <;> cases want <;> rfl
end
end Go.PE


set_option linter.unusedVariables false
set_option linter.unusedSimpArgs false
namespace Go.PE
section
variable {P : Program} {tab : Tab} {N : NN} {w0 : World} {F : FF} {S : Nat → Prop} {β : Lab → Value} {st : St} {a : Act} {w : World}
def FamIn (all : List Oper) (es : List En) (D : Nat → Bool) (l : Lab) : Prop :=
  (l.1 ≠ 999999999 ∧ l.1 ∉ all.flatMap dstsOf) ∨ ∃ (k : Nat) (e : En), D k = true ∧ es[k]? = some e ∧ e.o.dst = some l.1
structure DInv (P : Program) (tab : Tab) (N : NN) (w0 : World) (F : FF) (S : Nat → Prop) (all : List Oper) (es : List En) (sl0 : Nat → SV) (ob0 : Lab → Option Ob) (D : Nat → Bool) (a : Act) (w : World) : Prop where
  rel : ∃ S' β', (∀ k, S k → S' k) ∧ RelF P tab.ty N w0 F S' β' (accS D 0 es sl0) (accO D 0 es ob0) a w
  fs : ∀ t, ∀ l ∈ svRefs (accS D 0 es sl0 t), FamIn all es D l
  fo : ∀ l x, accO D 0 es ob0 l = some x → FamIn all es D l ∧ ∀ m ∈ obRefs x, FamIn all es D m
  closed : ∀ j, D j = true → ∀ i, ordered (ancs all []) i j = true → D i = true
def addD (D : Nat → Bool) (j : Nat) : Nat → Bool := fun i => if i = j then true else D i
theorem FamIn.mono {all : List Oper} {es : List En} {D D' : Nat → Bool} {l : Lab} (h : FamIn all es D l) (hd : ∀ i, D i = true → D' i = true) : FamIn all es D' l := by
  rcases h with h | ⟨k, e, h1, h2⟩
  · exact .inl h
  · exact .inr ⟨k, e, hd k h1, h2⟩
theorem draw_step {ops : Array Oper} {es : List En} {sl0 : Nat → SV} {ob0 : Lab → Option Ob} (hes : es.map (·.o) = ops.toList) (hok : ∀ j e, es[j]? = some e → EnOk P tab N (ancs ops.toList []) ops.toList es sl0 ob0 j e)
    (htm : tmpsOk (ancs ops.toList []) ops.toList = true) (hnd : (ops.toList.flatMap dstsOf).Nodup) (h9 : 999999999 ∉ ops.toList.flatMap dstsOf) (hdd : ∀ o ∈ ops.toList, ∀ d, o.dst = some d → okD N d)
    {D : Nat → Bool} (hi : DInv P tab N w0 F S ops.toList es sl0 ob0 D a w) {j : Nat} {o : Oper} (hj : ops[j]? = some o) (hDj : D j = false) (hanc : ∀ i, ordered (ancs ops.toList []) i j = true → D i = true)
    (Q : Exit → Act → World → Prop) (K : Act → World → Prop) (hK : ∀ a' w', DInv P tab N w0 F S ops.toList es sl0 ob0 (addD D j) a' w' → K a' w') :
    if Region.wanted o (yielded ops a.tmps) then o.wp P a w K Q ∨ (o.asks P a w ∧ LetsOut Q) else K (a.put o.dst undef) w := by
  have hjl : ops.toList[j]? = some o := by rw [Array.getElem?_toList]; exact hj
  obtain ⟨e, he, heo⟩ : ∃ e, es[j]? = some e ∧ e.o = o := by
    rw [← hes, List.getElem?_map] at hjl
    cases hx : es[j]? with
    | none => rw [hx] at hjl; cases hjl
    | some e => rw [hx] at hjl; exact ⟨e, rfl, Option.some.inj hjl⟩
  have hall : ∀ (i : Nat) (e' : En), es[i]? = some e' → ops.toList[i]? = some e'.o := fun i e' h => by rw [← hes, List.getElem?_map, h]; rfl
  have E := hok j e he
  have hDj' : ∀ i, ordered (ancs ops.toList []) j i = true → D i = false := fun i h => by
    cases hD : D i with
    | false => rfl
    | true => rw [hi.closed i hD j h] at hDj; cases hDj
  obtain ⟨S1, β1, hS1, hrel⟩ := hi.rel
  have seeS : ∀ t ∈ looks ops.toList e.o, accS (fun i => decide (i < j)) 0 es sl0 t = accS D 0 es sl0 t := fun t ht => by
    refine accS_congr rfl (fun i e' hi' hdst => ?_)
    rw [Nat.zero_add]
    rcases Nat.lt_trichotomy i j with hlt | rfl | hgt
    · rw [decide_eq_true hlt]
      rcases tmps_pair htm (hall i e' hi') hjl hlt with h | ⟨h, _⟩
      · exact (hanc i h).symm
      · exact absurd (heo ▸ ht) (h t hdst)
    · rw [hDj]; simp
    · rw [show decide (i < j) = false by simp; omega]
      rcases tmps_pair htm hjl (hall i e' hi') hgt with h | ⟨_, h⟩
      · exact (hDj' i h).symm
      · exact absurd (heo ▸ ht) (h t hdst)
  have seeO : e.act = true → ∀ l ∈ e.ls, accO (fun i => decide (i < j)) 0 es ob0 l = accO D 0 es ob0 l := fun hact l hl => by
    refine accO_congr rfl (fun i e' hi' ha' hW => ?_)
    rw [Nat.zero_add]
    rcases Nat.lt_trichotomy i j with hlt | rfl | hgt
    · rw [decide_eq_true hlt]
      rcases E.tr hact i e' hi' hlt ha' with h | ⟨h, _, _⟩
      · exact (hanc i h).symm
      · exact absurd hl (h l hW)
    · rw [hDj]; simp
    · rw [show decide (i < j) = false by simp; omega]
      rcases (hok i e' hi').tr ha' j e he hgt hact with h | ⟨_, _, h⟩
      · exact (hDj' i h).symm
      · exact absurd hl (h l hW)
  have hwant := guard_wanted hrel (ops := ops) (o := e.o) E.guard seeS
  rw [heo] at hwant
  have once : ∀ {i : Nat} {e' : En} {t : Nat}, es[i]? = some e' → e'.o.dst = some t → e.o.dst = some t → i = j := fun hi' h1 h2 => dst_once hnd (hall _ _ hi') (hall _ _ he) h1 h2
  have upD : ∀ i, D i = true → addD D j i = true := fun i h => by unfold addD; split <;> first | rfl | exact h
  have neD : ∀ i, i ≠ j → D i = addD D j i := fun i h => by unfold addD; rw [if_neg h]
  have atD : addD D j j = true := by unfold addD; rw [if_pos rfl]
  have closed' : ∀ k, addD D j k = true → ∀ i, ordered (ancs ops.toList []) i k = true → addD D j i = true := fun k hk i h => by
    by_cases hkj : k = j
    · subst hkj; exact upD i (hanc i h)
    · rw [← neD k hkj] at hk; exact upD i (hi.closed k hk i h)
  have newS : ∀ t, accS (addD D j) 0 es sl0 t = if e.o.dst = some t then e.v else accS D 0 es sl0 t := fun t => by
    by_cases hdt : e.o.dst = some t
    · rw [if_pos hdt]
      refine accS_last he hdt (by rw [Nat.zero_add]; exact atD) (fun k e' hk hdk hlt => ?_)
      have := once hk hdk hdt
      omega
    · rw [if_neg hdt]
      refine accS_congr rfl (fun i e' hi' hdi => ?_)
      rw [Nat.zero_add]
      refine (neD i (fun h => ?_)).symm
      subst h
      rw [he] at hi'
      have := Option.some.inj hi'
      subst this
      exact hdt hdi
  cases hact : e.act with
  | false =>
    rw [hwant, hact, if_neg (by decide)]
    refine hK _ _ ⟨?_, ?_, ?_, closed'⟩
    · refine ⟨S1, β1, hS1, ?_⟩
      have h1 := hrel.skipF (dst := o.dst) (fun d hd => hdd o (List.mem_of_getElem? hjl) d hd)
      have e1 : accS (addD D j) 0 es sl0 = fun t => if o.dst = some t then SV.skip else accS D 0 es sl0 t := by
        funext t
        rw [newS t, heo]
        unfold En.v
        rw [hact]
      have e2 : accO (addD D j) 0 es ob0 = accO D 0 es ob0 := by
        funext l
        refine accO_congr rfl (fun i e' hi' ha' _ => ?_)
        rw [Nat.zero_add]
        refine (neD i (fun h => ?_)).symm
        subst h
        rw [he] at hi'
        have := Option.some.inj hi'
        subst this
        rw [hact] at ha'; cases ha'
      rw [e1, e2]
      exact h1
    · intro t l hl
      rw [newS t] at hl
      split at hl
      · unfold En.v at hl; rw [hact] at hl; simp [svRefs] at hl
      · exact (hi.fs t l hl).mono upD
    · intro l x hx
      have e2 : accO (addD D j) 0 es ob0 l = accO D 0 es ob0 l := accO_congr rfl (fun i e' hi' ha' _ => by
        rw [Nat.zero_add]
        refine (neD i (fun h => ?_)).symm
        subst h
        rw [he] at hi'
        have := Option.some.inj hi'
        subst this
        rw [hact] at ha'; cases ha')
      rw [e2] at hx
      exact ⟨(hi.fo l x hx).1.mono upD, fun m hm => ((hi.fo l x hx).2 m hm).mono upD⟩
  | true =>
    rw [hwant, hact, if_pos rfl]
    refine .inl ?_
    have notMine : ∀ l, FamIn ops.toList es D l → l.1 ≠ o.dst.getD 999999999 := by
      rintro l (⟨h1, h2⟩ | ⟨k, e', hk, hke, hd⟩) heq
      · cases hd : o.dst with
        | none => rw [hd] at heq; exact h1 heq
        | some d =>
          rw [hd] at heq
          have heq : l.1 = d := heq
          exact h2 (List.mem_flatMap.2 ⟨o, List.mem_of_getElem? hjl, by simp [dstsOf, hd, heq]⟩)
      · cases hdo : o.dst with
        | none =>
          rw [hdo] at heq
          have heq : l.1 = 999999999 := heq
          exact h9 (List.mem_flatMap.2 ⟨e'.o, List.mem_of_getElem? (hall k e' hke), by simp [dstsOf, hd, heq]⟩)
        | some d =>
          rw [hdo] at heq
          have heq : l.1 = d := heq
          have := once hke hd (by rw [heo, hdo, heq])
          subst this
          rw [hk] at hDj; cases hDj
    have newO : ∀ l, accO (addD D j) 0 es ob0 l = if l ∈ e.ls ∨ o.dst = some l.1 then oget e.s.objs l else accO D 0 es ob0 l := fun l => by
      by_cases hW : l ∈ e.W
      · have hin := (E.refs hact).2.2 l hW
        rw [heo] at hin
        rw [if_pos hin]
        refine accO_last he hact hW (by rw [Nat.zero_add]; exact atD) (fun k e' hk ha' hWk hlt => ?_)
        rw [Nat.zero_add]
        rcases (hok k e' hk).tr ha' j e he hlt hact with h | ⟨_, h, _⟩
        · rw [← neD k (by omega)]; exact hDj' k h
        · exact absurd hWk (h l hW)
      · have e1 : accO (addD D j) 0 es ob0 l = accO D 0 es ob0 l := accO_congr rfl (fun i e' hi' ha' hWi => by
          rw [Nat.zero_add]
          refine (neD i (fun h => ?_)).symm
          subst h
          rw [he] at hi'
          have := Option.some.inj hi'
          subst this
          exact hW hWi)
        rw [e1]
        have hk := E.keep hact l hW
        rw [E.ob hact l] at hk
        by_cases hl : l ∈ e.ls
        · rw [if_pos (.inl hl), hk, if_pos hl, seeO hact l hl]
        · rw [if_neg hl] at hk
          by_cases hd : o.dst = some l.1
          · rw [if_pos (.inr hd), hk]
            cases hx : accO D 0 es ob0 l with
            | none => rfl
            | some x => exact absurd (by rw [hd]; rfl) (notMine l (hi.fo l x hx).1)
          · rw [if_neg (fun h => h.elim hl hd)]
    have newS' : ∀ t, accS (addD D j) 0 es sl0 t = if o.dst = some t then sget e.s.slots t else accS D 0 es sl0 t := fun t => by
      rw [newS t, heo]
      by_cases hdt : o.dst = some t
      · rw [if_pos hdt, if_pos hdt]
        unfold En.v
        rw [hact, heo, hdt]
      · rw [if_neg hdt, if_neg hdt]
    have famRef : ∀ l, (l ∈ e.ls ∨ e.o.dst = some l.1) → FamIn ops.toList es (addD D j) l := fun l hl => by
      rcases hl with hl | hl
      · rcases E.ls hact l hl with ⟨t, ht, h⟩ | ⟨m, x, hm, hx, h⟩
        · rw [seeS t ht] at h; exact (hi.fs t l h).mono upD
        · rw [seeO hact m hm] at hx; exact ((hi.fo m x hx).2 l h).mono upD
      · exact .inr ⟨j, e, atD, he, hl⟩
    have hfr := frame_rule (sub := e.sub) (s := e.s) (ls := e.ls) (o := o) hrel (fun t => ?_) (fun l => ?_) (fun t l hl => notMine l (hi.fs t l hl)) (fun l x hx => ⟨notMine l (hi.fo l x hx).1, fun m hm => notMine m ((hi.fo l x hx).2 m hm)⟩)
      (by rw [← heo]; exact E.loc hact) (fun l x hx => by rw [← heo]; exact ((E.refs hact).2.1 l x hx).1) Q K (fun x w' S' β' hS' h' => hK _ _ ⟨⟨S', β', fun k hk => hS' k (hS1 k hk), ?_⟩, ?_, ?_, closed'⟩)
    · exact hfr
    · rcases E.sl hact t with h | ⟨ht, h⟩
      · exact .inl h
      · exact .inr (by rw [h, seeS t ht])
    · rw [E.ob hact l]
      by_cases hl : l ∈ e.ls
      · rw [if_pos hl, if_pos hl, seeO hact l hl]
      · rw [if_neg hl, if_neg hl]
    · have e1 : accS (addD D j) 0 es sl0 = fun t => if o.dst = some t then sget e.s.slots t else accS D 0 es sl0 t := funext newS'
      have e2 : accO (addD D j) 0 es ob0 = fun l => if l ∈ e.ls ∨ o.dst = some l.1 then oget e.s.objs l else accO D 0 es ob0 l := funext newO
      rw [e1, e2]
      exact h'
    · intro t l hl
      rw [newS t] at hl
      split at hl
      · rcases (E.refs hact).1 l hl with h | ⟨t', ht', h⟩
        · exact famRef l h
        · rw [seeS t' ht'] at h; exact (hi.fs t' l h).mono upD
      · exact (hi.fs t l hl).mono upD
    · intro l x' hx'
      rw [newO l] at hx'
      split at hx'
      · have := (E.refs hact).2.1 l x' hx'
        exact ⟨famRef l this.1, fun m hm => famRef m (this.2 m hm)⟩
      · exact ⟨(hi.fo l x' hx').1.mono upD, fun m hm => ((hi.fo l x' hx').2 m hm).mono upD⟩
end
end Go.PE


set_option linter.unusedVariables false
set_option linter.unusedSimpArgs false
namespace Go.PE
theorem filter_le {p p' : Nat → Bool} (h : ∀ i, p' i = true → p i = true) : ∀ (l : List Nat), (l.filter p').length ≤ (l.filter p).length
  | [] => Nat.le_refl _
  | x :: r => by
    have ih := filter_le h r
    rw [List.filter_cons, List.filter_cons]
    cases hp' : p' x with
    | true => rw [h x hp']; simpa using ih
    | false =>
      simp only [Bool.false_eq_true, if_false]
      split
      · simp only [List.length_cons]; omega
      · exact ih
theorem filter_lt {p p' : Nat → Bool} (h : ∀ i, p' i = true → p i = true) {j : Nat} (hj : p j = true) (hj' : p' j = false) : ∀ (l : List Nat), j ∈ l → (l.filter p').length < (l.filter p).length
  | [], hm => by cases hm
  | x :: r, hm => by
    rw [List.filter_cons, List.filter_cons]
    rcases List.mem_cons.1 hm with rfl | hm
    · rw [hj, hj']
      have := filter_le h r
      simp only [Bool.false_eq_true, if_false, if_true, List.length_cons]
      omega
    · have ih := filter_lt h hj hj' r hm
      cases hp' : p' x with
      | true => rw [h x hp']; simpa using ih
      | false =>
        simp only [Bool.false_eq_true, if_false]
        split
        · simp only [List.length_cons]; omega
        · exact ih
theorem getD_in {xs : Array Bool} {i : Nat} (h : i < xs.size) (d d' : Bool) : xs.getD i d = xs.getD i d' := by
  simp only [Array.getD_eq_getD_getElem?, Array.getElem?_eq_getElem h, Option.getD_some]
theorem ready_nil {ops : Array Oper} (he : edgesOk ops.toList = true) {listed : Array Bool} (hs : listed.size = ops.size) (hr : Region.ready .any ops listed = []) : ∀ i, i < ops.size → listed.getD i false = true := by
  intro i
  induction i using Nat.strongRecOn with
  | _ i ih =>
    intro hi
    cases hl : listed.getD i false with
    | true => rfl
    | false =>
      have hm : i ∈ Region.ready .any ops listed := by
        rw [mem_ready]
        refine ⟨by rw [getD_in (by omega) true false]; exact hl, ops[i], Array.getElem?_eq_getElem hi, fun e hm hb => ?_⟩
        have hx : (ops[i], i) ∈ ops.toList.zipIdx := List.mem_zipIdx_iff_getElem?.2 (by rw [Array.getElem?_toList]; exact Array.getElem?_eq_getElem hi)
        have h1 := List.all_eq_true.1 (List.all_eq_true.1 he (ops[i], i) hx) e (Array.mem_toList_iff.2 hm)
        simp only [hb, Bool.not_true, Bool.false_or] at h1
        have hlt := nble_iff.1 h1
        exact ih e.on hlt (by omega)
      rw [hr] at hm; cases hm
section
variable {P : Program} {tab : Tab} {N : NN} {w0 : World} {F : FF} {S : Nat → Prop} {β : Lab → Value} {st : St} {a : Act} {w : World}
theorem any_sound {ops : Array Oper} {es : List En} {sl0 : Nat → SV} {ob0 : Lab → Option Ob} (hes : es.map (·.o) = ops.toList) (hok : ∀ j e, es[j]? = some e → EnOk P tab N (ancs ops.toList []) ops.toList es sl0 ob0 j e)
    (htm : tmpsOk (ancs ops.toList []) ops.toList = true) (hnd : (ops.toList.flatMap dstsOf).Nodup) (h9 : 999999999 ∉ ops.toList.flatMap dstsOf) (hdd : ∀ o ∈ ops.toList, ∀ d, o.dst = some d → okD N d) (hedge : edgesOk ops.toList = true)
    {Q : Exit → Act → World → Prop} (hQ : ∀ a w, (∃ S' β', (∀ k, S k → S' k) ∧ RelF P tab.ty N w0 F S' β' (accS (fun _ => true) 0 es sl0) (accO (fun _ => true) 0 es ob0) a w) → Q .normal a w) :
    ∀ (fuel : Nat) (listed : Array Bool) (a : Act) (w : World), listed.size = ops.size → DInv P tab N w0 F S ops.toList es sl0 ob0 (fun i => listed.getD i false) a w →
      ((List.range ops.size).filter (fun i => !(listed.getD i false))).length ≤ fuel → wpAny P .any ops Q fuel listed a w := by
  have hlen : es.length = ops.size := by rw [← Array.length_toList, ← hes, List.length_map]
  have fin : ∀ (listed : Array Bool) (a : Act) (w : World), (∀ i, i < ops.size → listed.getD i false = true) → DInv P tab N w0 F S ops.toList es sl0 ob0 (fun i => listed.getD i false) a w → Q .normal a w := by
    intro listed a w hall hi
    obtain ⟨S', β', h1, h2⟩ := hi.rel
    refine hQ a w ⟨S', β', h1, ?_⟩
    have e1 : accS (fun i => listed.getD i false) 0 es sl0 = accS (fun _ => true) 0 es sl0 := by
      funext t
      refine accS_congr rfl (fun j e hj _ => ?_)
      have : j < es.length := (List.getElem?_eq_some_iff.1 hj).1
      rw [Nat.zero_add]; exact hall j (by omega)
    have e2 : accO (fun i => listed.getD i false) 0 es ob0 = accO (fun _ => true) 0 es ob0 := by
      funext l
      refine accO_congr rfl (fun j e hj _ _ => ?_)
      have : j < es.length := (List.getElem?_eq_some_iff.1 hj).1
      rw [Nat.zero_add]; exact hall j (by omega)
    rw [← e1, ← e2]
    exact h2
  intro fuel
  induction fuel with
  | zero =>
    intro listed a w hs hi hc
    have hnil : (List.range ops.size).filter (fun i => !(listed.getD i false)) = [] := List.eq_nil_of_length_eq_zero (Nat.le_zero.1 hc)
    have hall : ∀ i, i < ops.size → listed.getD i false = true := fun i hlt => by
      cases hl : listed.getD i false with
      | true => rfl
      | false =>
        have : i ∈ (List.range ops.size).filter (fun i => !(listed.getD i false)) := List.mem_filter.2 ⟨List.mem_range.2 hlt, by rw [hl]; rfl⟩
        rw [hnil] at this; cases this
    refine ⟨?_, fin listed a w hall hi⟩
    cases hr : Region.ready .any ops listed with
    | nil => rfl
    | cons i r =>
      have hm : i ∈ Region.ready .any ops listed := by rw [hr]; exact List.mem_cons_self ..
      rw [mem_ready] at hm
      obtain ⟨h1, o, ho, _⟩ := hm
      have hlt : i < ops.size := (Array.getElem?_eq_some_iff.1 ho).1
      have h2 := hall i hlt
      rw [getD_in (by omega) false true, h1] at h2
      cases h2
  | succ fuel ih =>
    intro listed a w hs hi hc
    refine ⟨fun hr => fin listed a w (ready_nil hedge hs hr) hi, fun j hj => ?_⟩
    rw [mem_ready] at hj
    obtain ⟨h1, o, ho, hedges⟩ := hj
    have hlt : j < ops.size := (Array.getElem?_eq_some_iff.1 ho).1
    have hDj : listed.getD j false = false := by rw [getD_in (by omega) false true]; exact h1
    have hjl : ops.toList[j]? = some o := by rw [Array.getElem?_toList]; exact ho
    have key := draw_step hes hok htm hnd h9 hdd hi ho hDj (fun i h => by
      obtain ⟨e, hm, hb, h⟩ := ordered_edge hjl h
      have hon := hedges e (Array.mem_toList_iff.1 hm) hb
      rcases h with rfl | h
      · exact hon
      · exact hi.closed e.on hon i h) Q (wpAny P .any ops Q fuel (listed.setIfInBounds j true)) (fun a' w' hi' => by
      have e1 : addD (fun i => listed.getD i false) j = fun i => (listed.setIfInBounds j true).getD i false := by
        funext i
        unfold addD
        simp only [Array.getD_eq_getD_getElem?, Array.getElem?_setIfInBounds]
        by_cases hij : i = j
        · subst hij; rw [if_pos rfl, if_pos rfl, if_pos (by omega)]; rfl
        · rw [if_neg hij, if_neg (fun h => hij h.symm)]
      rw [e1] at hi'
      refine ih _ a' w' (by rw [Array.size_setIfInBounds]; exact hs) hi' ?_
      have hl := filter_lt (p := fun i => !(listed.getD i false)) (p' := fun i => !((listed.setIfInBounds j true).getD i false)) (j := j) (fun i h => by
        have := congrFun e1 i
        rw [← this] at h
        unfold addD at h
        by_cases hij : i = j
        · rw [if_pos hij] at h; cases h
        · rw [if_neg hij] at h; exact h) (by rw [hDj]; rfl) (by
        have := congrFun e1 j
        rw [← this]
        unfold addD; rw [if_pos rfl]; rfl) (List.range ops.size) (List.mem_range.2 hlt)
      omega)
    unfold wpOp
    rw [ho]
    exact key
theorem draw_sound {Γ : Ctx} (hm : P.follows .mixedOrders = true) (hΓ : GoodΓ tab.ty P Γ) (hTab : TabOK P tab) (N : NN) : DrawOk P Γ tab N := by
  intro w0 F S β st a w id ops R k res Q hd h he hQ
  refine wp_region_any hm ?_
  unfold evDraw at he
  cases hq : (tmpsOk (ancs ops.toList []) ops.toList && drawOk st ops.toList) with
  | false => rw [hq] at he; cases he
  | true =>
    rw [hq] at he
    simp only [cond_true] at he
    rw [Bool.and_eq_true] at hq
    obtain ⟨htm, hdr⟩ := hq
    unfold drawOk at hdr
    simp only [Bool.and_eq_true, Bool.not_eq_true', List.all_eq_true] at hdr
    obtain ⟨⟨⟨q1, q2⟩, q3⟩, q4⟩ := hdr
    have h9 : 999999999 ∉ ops.toList.flatMap dstsOf := by rw [← Bool.not_eq_true, nmem_iff] at q2; exact q2
    have hw : Rel P tab.ty N w0 F S β st a { w with drawn := w.drawn + 1 } := h.grow' (Fr.drew _ w)
    obtain ⟨es, fin, g1, g2, g3⟩ := evDs_run hΓ hTab hd he
    obtain ⟨k1, k2, k3⟩ := g3 [] (sget st.slots) (oget st.objs) rfl (fun _ => rfl) (fun _ => rfl) (fun n e hn => by simp at hn)
    simp only [List.nil_append] at k1 k2 k3
    have none_ : ∀ i, (Array.replicate ops.size false).getD i false = false := fun i => by
      rw [Array.getD_eq_getD_getElem?, Array.getElem?_replicate]; split <;> rfl
    have accN : ∀ (es : List En) (i : Nat) (f : Nat → SV), accS (fun i => (Array.replicate ops.size false).getD i false) i es f = f := by
      intro es
      induction es with
      | nil => intro i f; rfl
      | cons y q ih => intro i f; rw [accS, ih, if_neg (by rw [none_]; decide)]
    have accM : ∀ (es : List En) (i : Nat) (f : Lab → Option Ob), accO (fun i => (Array.replicate ops.size false).getD i false) i es f = f := by
      intro es
      induction es with
      | nil => intro i f; rfl
      | cons y q ih => intro i f; rw [accO, ih, if_neg (by rw [none_]; decide)]
    have fam : ∀ l : Lab, (∀ d ∈ (999999999 :: ops.toList.flatMap dstsOf), l.1 ≠ d) → FamIn ops.toList es (fun i => (Array.replicate ops.size false).getD i false) l := fun l hl =>
      .inl ⟨hl _ (List.mem_cons_self ..), fun hm => hl _ (List.mem_cons_of_mem _ hm) rfl⟩
    refine any_sound (w0 := w0) (F := F) (S := S) g1 (fun j e hj => by have := k1 j e hj; rw [Nat.zero_add] at this; exact this) htm (nNoDup_nodup q1) h9 hd q4 (fun a' w' hrel => ?_) ops.size _ a _ (by simp) ⟨⟨S, β, fun _ x => x, ?_⟩, fun t l hl => ?_, fun l x hx => ?_, fun j hj => ?_⟩ ?_
    · obtain ⟨S', β', h1, h2⟩ := hrel
      have e1 : accS (fun _ => true) 0 es (sget st.slots) = sget fin.slots := by funext t; exact (k2 t).symm
      have e2 : accO (fun _ => true) 0 es (oget st.objs) = oget fin.objs := by funext t; exact (k3 t).symm
      rw [e1, e2] at h2
      exact hQ a' w' S' β' fin h1 h2 g2
    · rw [accN, accM]; exact hw
    · rw [accN] at hl
      exact fam l (fun d hd => (famFresh_spec (q3 d hd)).1 t l hl)
    · rw [accM] at hx
      exact ⟨fam l (fun d hd => ((famFresh_spec (q3 d hd)).2 l x hx).1), fun m hm => fam m (fun d hd => ((famFresh_spec (q3 d hd)).2 l x hx).2 m hm)⟩
    · rw [none_] at hj; cases hj
    · exact Nat.le_trans (List.length_filter_le _ _) (by simp)
theorem fn_good {Γ : Ctx} (hm : P.follows .mixedOrders = true) (hΓ : GoodΓ tab.ty P Γ) (hTab : TabOK P tab) {f : FuncId} {fn : Func} (hf : P.funcs[f]? = some fn) (hnm : (fn.name == "runtime.NumGoroutine") = false) (hnb : fn.body.isNone = false) {ps : List PK} {rs : List RK} {fi : Fi} {n : Nat}
    {G : PDs ps → Option (RDs rs × ODs ps)} (hG : ∀ x r, G x = some r → evFn Γ tab fi n ps rs fn x = some r) : Good tab.ty P f ⟨ps, rs, G⟩ :=
  fn_sound hΓ hTab (fun N => draw_sound hm hΓ hTab N) hf hnm hnb hG
end
end Go.PE


set_option linter.unusedVariables false
set_option linter.unusedSimpArgs false
namespace Go.PE
def nats2 : List (Nat × Nat) → List (Nat × Nat) → Bool
  | [], [] => true
  | a :: r, b :: q => Nat.beq a.1 b.1 && Nat.beq a.2 b.2 && nats2 r q
  | _, _ => false
theorem nats2_eq : ∀ {a b : List (Nat × Nat)}, nats2 a b = true → a = b
  | [], [], _ => rfl
  | a :: r, b :: q, h => by
    simp only [nats2, Bool.and_eq_true] at h
    rw [nats2_eq h.2]
    obtain ⟨a1, a2⟩ := a
    obtain ⟨b1, b2⟩ := b
    have e1 : a1 = b1 := Nat.eq_of_beq_eq_true h.1.1
    have e2 : a2 = b2 := Nat.eq_of_beq_eq_true h.1.2
    rw [e1, e2]
  | [], _ :: _, h => by cases h
  | _ :: _, [], h => by cases h
def chkTD (P : Program) (T : TypeId) (d : TD) : Bool :=
  match d, P.underlying T with
  | .int k, some (.int k') => Nat.beq (ikCode k) (ikCode k')
  | .bool, some .bool => true
  | .str, some .string => true
  | .ifc, some (.interface _) => true
  | .slc e, some (.slice e') => Nat.beq e e'
  | .stc fs, some (.struct gs) => nats2 (gs.toList.map fun g => (g.type, g.offset)) fs
  | .ptr e, some (.pointer e') => Nat.beq e e'
  | .arr n e, some (.array n' e') => Nat.beq n n' && Nat.beq e e'
  | .fnc, _ => true
  | _, _ => false
def zeroCell : Value → Value → Bool
  | .int k n, .int k' n' => Nat.beq (ikCode k) (ikCode k') && decide (n = n')
  | .bool b, .bool b' => b == b'
  | .string s, .string s' => decide (s.data.toList = s'.data.toList)
  | .nilIface, .nilIface => true
  | .slice none 0 0, .slice none 0 0 => true
  | _, _ => false
theorem zeroCell_eq {u v : Value} (h : zeroCell u v = true) : u = v := by
  unfold zeroCell at h
  split at h
  · simp only [Bool.and_eq_true, decide_eq_true_eq] at h; rw [ikCode_inj (Nat.eq_of_beq_eq_true h.1), h.2]
  · rw [eq_of_beq h]
  · rename_i s s'
    have := of_decide_eq_true h
    obtain ⟨⟨x⟩⟩ := s
    obtain ⟨⟨y⟩⟩ := s'
    have : x = y := this
    rw [this]
  · rfl
  · rfl
  · cases h
def zeroCells : List Value → List Value → Bool
  | [], [] => true
  | a :: r, b :: q => zeroCell a b && zeroCells r q
  | _, _ => false
theorem zeroCells_eq : ∀ {a b : List Value}, zeroCells a b = true → a = b
  | [], [], _ => rfl
  | a :: r, b :: q, h => by
    simp only [zeroCells, Bool.and_eq_true] at h
    rw [zeroCell_eq h.1, zeroCells_eq h.2]
  | [], _ :: _, h => by cases h
  | _ :: _, [], h => by cases h
def isAggV : Value → Bool
  | .agg _ => true
  | _ => false
def aggDesc : TypeDesc → Bool
  | .struct _ => true
  | .array _ _ => true
  | _ => false
def chkTY (P : Program) (T : TypeId) (t : Ty) : Bool :=
  match P.info? T, P.underlying T with
  | some i, some d => match i.zero with
    | some z => Nat.beq i.size t.cells && zeroCells z.cells.toList (zeroVals t) && (bif t.isAgg then isAggV z && aggDesc d else notAgg d) && Nat.ble i.bytes 131072
    | none => false
  | _, _ => false
def chkArr (P : Program) (τ : Tab) (T : TypeId) (d : TD) : Bool :=
  match d with
  | .arr n eT => match τ.ty eT with
    | some e => bif Nat.beq e.cells 1 then (match P.info? T with
      | some i => (match i.zero with
        | some (.agg z) => zeroCells z.toList (List.replicate n ((zeroVals e).getD 0 undef))
        | _ => false)
      | none => false) else true
    | none => true
  | _ => true
def chkFld (P : Program) (d : TD) : Bool :=
  match d with
  | .stc fs => fs.all fun f => (P.info? f.1).isSome
  | _ => true
def chkPos (τ : Tab) (d : TD) : Bool :=
  match d with
  | .slc eT => match τ.ty eT with
    | some e => Nat.blt 0 e.cells
    | none => true
  | _ => true
def isU8 : Ty → Bool
  | .int .u8 => true
  | _ => false
def isZeroU8 : Value → Bool
  | .int .u8 n => decide (n = 0)
  | _ => false
def chkU8 (P : Program) (T : TypeId) (t : Option Ty) : Bool :=
  match t with
  | some t => bif isU8 t then (match P.info? T with
    | some i => Nat.beq i.size 1 && Nat.beq i.bytes 1 && (match i.zero with | some z => isZeroU8 z | none => false)
    | none => false) else true
  | none => true
def chkEq (P : Program) (τ : Tab) (T : TypeId) (d : TD) : Bool :=
  match d with
  | .stc fs => bif eqFlat τ 0 fs then !(P.stoodInHeld T) && !(P.eqGuardType P.depth T) && (P.fieldsOf T).toList.all fun f => f.name != "_" else true
  | _ => true
def tabChk (P : Program) (τ : Tab) : Bool := τ.all fun r =>
  chkTD P r.1 r.2.1 && (match r.2.2 with | some t => chkTY P r.1 t | none => true) && chkArr P τ r.1 r.2.1 && chkFld P r.2.1 && chkPos τ r.2.1 && chkU8 P r.1 r.2.2 && chkEq P τ r.1 r.2.1
theorem tget_mem {τ : Tab} {T : Nat} {v : TD × Option Ty} (h : tget τ T = some v) : (T, v) ∈ τ := by
  induction τ with
  | nil => cases h
  | cons p r ih =>
    obtain ⟨u, x⟩ := p
    simp only [tget] at h
    cases hb : Nat.beq u T with
    | true =>
      rw [hb] at h
      have := Option.some.inj h
      subst this
      rw [Nat.eq_of_beq_eq_true hb]
      exact List.mem_cons_self ..
    | false => rw [hb] at h; exact List.mem_cons_of_mem _ (ih h)
theorem tabOK_of {P : Program} {τ : Tab} (h : tabChk P τ = true) : TabOK P τ := by
  have all : ∀ T d ty, tget τ T = some (d, ty) → chkTD P T d = true ∧ (∀ t, ty = some t → chkTY P T t = true) ∧ chkArr P τ T d = true ∧ chkFld P d = true ∧ chkPos τ d = true ∧ chkU8 P T ty = true ∧ chkEq P τ T d = true := by
    intro T d ty hm
    have := List.all_eq_true.1 h _ (tget_mem hm)
    simp only [Bool.and_eq_true] at this
    obtain ⟨⟨⟨⟨⟨⟨h1, h2⟩, h3⟩, h4⟩, h5⟩, h6⟩, h7⟩ := this
    exact ⟨h1, fun t ht => by rw [ht] at h2; exact h2, h3, h4, h5, h6, h7⟩
  have atd : ∀ T d, τ.td T = some d → ∃ ty, tget τ T = some (d, ty) := by
    intro T d hd
    unfold Tab.td at hd
    cases hg : tget τ T with
    | none => rw [hg] at hd; cases hd
    | some v => obtain ⟨d', ty⟩ := v; rw [hg] at hd; have := Option.some.inj hd; subst this; exact ⟨ty, rfl⟩
  have aty : ∀ T t, τ.ty T = some t → ∃ d, tget τ T = some (d, some t) := by
    intro T t ht
    unfold Tab.ty at ht
    cases hg : tget τ T with
    | none => rw [hg] at ht; cases ht
    | some v => obtain ⟨d, ty⟩ := v; rw [hg] at ht; have ht : ty = some t := ht; subst ht; exact ⟨d, rfl⟩
  refine ⟨fun T d hd => ?_, fun T t ht => ?_, fun T n eT e hd hte h1 => ?_, fun T fs hd f hf => ?_, fun T eT e hd hte => ?_, fun eT ht => ?_, fun T fs hd he => ?_⟩
  · obtain ⟨ty, hg⟩ := atd T d hd
    have := (all T d ty hg).1
    unfold chkTD at this
    split at this <;> first | (cases this; done) | skip
    all_goals rename_i hu
    · have e := ikCode_inj (Nat.eq_of_beq_eq_true this); subst e; exact hu
    · exact hu
    · exact hu
    · exact ⟨_, hu⟩
    · have e := Nat.eq_of_beq_eq_true this; subst e; exact hu
    · exact ⟨_, hu, nats2_eq this⟩
    · have e := Nat.eq_of_beq_eq_true this; subst e; exact hu
    · simp only [Bool.and_eq_true] at this
      have e := Nat.eq_of_beq_eq_true this.1; have e' := Nat.eq_of_beq_eq_true this.2; subst e; subst e'; exact hu
    · trivial
  · obtain ⟨d, hg⟩ := aty T t ht
    have := (all T d _ hg).2.1 t rfl
    unfold chkTY at this
    split at this
    case h_2 => cases this
    case h_1 i dd hi hu =>
    split at this
    case h_2 => cases this
    case h_1 z hz =>
    simp only [Bool.and_eq_true] at this
    obtain ⟨⟨⟨c1, c2⟩, c3⟩, c4⟩ := this
    refine ⟨⟨i, z, hi, Nat.eq_of_beq_eq_true c1, hz, zeroCells_eq c2, fun ha => ?_, nble_iff.1 c4⟩, fun ha => ?_, fun ha => ?_⟩
    · rw [ha] at c3
      simp only [cond_true, Bool.and_eq_true] at c3
      cases z <;> first | exact ⟨_, rfl⟩ | (cases c3.1; done)
    · rw [ha] at c3
      simp only [cond_true, Bool.and_eq_true] at c3
      cases dd <;> first | exact .inl ⟨_, hu⟩ | exact .inr ⟨_, _, hu⟩ | (cases c3.2; done)
    · rw [ha] at c3
      exact ⟨dd, hu, c3⟩
  · obtain ⟨ty, hg⟩ := atd T _ hd
    have := (all T _ ty hg).2.2.1
    simp only [chkArr, hte] at this
    rw [nbeq_iff.2 h1] at this
    simp only [cond_true] at this
    split at this
    case h_2 => cases this
    case h_1 i hi =>
    split at this
    case h_2 => cases this
    case h_1 z hz => exact ⟨i, z, hi, hz, zeroCells_eq this⟩
  · obtain ⟨ty, hg⟩ := atd T _ hd
    have := (all T _ ty hg).2.2.2.1
    simp only [chkFld, List.all_eq_true] at this
    exact Option.isSome_iff_exists.1 (this f hf)
  · obtain ⟨ty, hg⟩ := atd T _ hd
    have := (all T _ ty hg).2.2.2.2.1
    simp only [chkPos, hte] at this
    exact nble_iff.1 this
  · obtain ⟨d, hg⟩ := aty eT _ ht
    have := (all eT d _ hg).2.2.2.2.2.1
    simp only [chkU8, isU8, cond_true] at this
    split at this
    case h_2 => cases this
    case h_1 i hi =>
    simp only [Bool.and_eq_true] at this
    refine ⟨i, hi, Nat.eq_of_beq_eq_true this.1.1, Nat.eq_of_beq_eq_true this.1.2, ?_⟩
    have h2 := this.2
    split at h2
    case h_2 => cases h2
    case h_1 z hz =>
    rw [hz]
    unfold isZeroU8 at h2
    split at h2
    · rw [of_decide_eq_true h2]
    · cases h2
  · obtain ⟨ty, hg⟩ := atd T _ hd
    have := (all T _ ty hg).2.2.2.2.2.2
    simp only [chkEq, he, cond_true, Bool.and_eq_true, Bool.not_eq_true', List.all_eq_true] at this
    exact ⟨this.1.1, this.1.2, fun f hf => by have := this.2 f hf; simpa using this⟩
end Go.PE


set_option linter.unusedVariables false
namespace Go.PE
noncomputable def bodyOf (f : Func) : Code := match f.body with | some c => c | none => .skip
def codeAt : List Nat → Code → Code
  | [], c => c
  | d :: p, .seq a b => bif Nat.beq d 0 then codeAt p a else codeAt p b
  | d :: p, .cond _ a b => bif Nat.beq d 0 then codeAt p a else codeAt p b
  | _ :: p, .block _ b => codeAt p b
  | _ :: p, .loop b => codeAt p b
  | _, _ => .skip
def loopBody : Code → Code
  | .loop b => b
  | _ => .skip
noncomputable def ctxK {R : Type} (Γ : Ctx) (τ : Tab) (fi : Fi) (n : Nat) : List Nat → Code → List (Nat × List Nat) → (EX → St → Option R) → EX → St → Option R
  | [], _, _, K => K
  | d :: p, .seq a b, ls, K => bif Nat.beq d 0 then ctxK Γ τ fi n p a ls (fun e s => match e with
      | .normal => evCode Γ τ fi n b s K
      | e => K e s) else ctxK Γ τ fi n p b ls K
  | d :: p, .cond _ a b, ls, K => bif Nat.beq d 0 then ctxK Γ τ fi n p a ls K else ctxK Γ τ fi n p b ls K
  | _ :: p, .block id b, ls, K => ctxK Γ τ fi n p b ls (fun e s => match e with
      | .exit j => bif Nat.beq j id then K .normal s else K (.exit j) s
      | e => K e s)
  | _ :: p, .loop b, (m, ks) :: ls, K => ctxK Γ τ fi n p b ls (fun e s => match e with
      | .normal => (norm τ fi ks s).bind fun s' => evLoop (evCode Γ τ fi n b) (norm τ fi ks) m s' K
      | e => K e s)
  | _, _, _, K => K
noncomputable def finK (τ : Tab) (ps : List PK) (rs : List RK) (fn : Func) : EX → St → Option (RDs rs × ODs ps) := fun e s => match e with
  | .normal => finFn τ ps rs fn s
  | .ret => finFn τ ps rs fn s
  | .exit _ => none
noncomputable def atLoop (Γ : Ctx) (τ : Tab) (fi : Fi) (n : Nat) (ps : List PK) (rs : List RK) (fn : Func) (p : List Nat) (ls : List (Nat × List Nat)) (ks : List Nat) (m : Nat) (s : St) : Option (RDs rs × ODs ps) :=
  evLoop (evCode Γ τ fi n (loopBody (codeAt p (bodyOf fn)))) (norm τ fi ks) m s (ctxK Γ τ fi n p (bodyOf fn) ls (finK τ ps rs fn))
def fiB (ps : List PK) (fi : Fi) : Fi := { fi with keep := boxIdx 0 ps ++ fi.keep }
def iter {A : Type} (z : A) (F : A → A) : Nat → A
  | 0 => z
  | m + 1 => F (iter z F m)
def iterN {A : Type} (z : A) (F : Nat → A → A) : Nat → A
  | 0 => z
  | m + 1 => F m (iterN z F m)
theorem iter_succ {A : Type} (z : A) (F : A → A) (m : Nat) : iter z F (m + 1) = F (iter z F m) := rfl
def bothDec {R : Type} [DecidableEq R] (a b : Option R) : Option R := if a = b then a else none
theorem bothEq_dec {R : Type} [DecidableEq R] : (bothEq : Option R → Option R → Option R) = bothDec := by
  funext a b
  unfold bothDec
  split
  · rename_i h; exact bothEq_of h
  · rename_i h
    unfold bothEq
    split
    · contradiction
    · rfl
theorem bothDec_same {R : Type} [DecidableEq R] (a : Option R) : bothDec a a = a := if_pos rfl
theorem gnil {τ : TypeId → Option Ty} {P : Program} : GoodΓ τ P [] := fun f e h => by cases h
theorem gcons {τ : TypeId → Option Ty} {P : Program} {n : Nat} {e : Ent} {Γ : Ctx} (h : Good τ P n e) (hΓ : GoodΓ τ P Γ) : GoodΓ τ P ((n, e) :: Γ) := by
  intro f e' hf
  simp only [eget] at hf
  cases hb : Nat.beq n f with
  | true =>
    rw [hb] at hf
    have h1 := Option.some.inj hf
    subst h1
    have h2 := Nat.eq_of_beq_eq_true hb
    subst h2
    exact h
  | false => rw [hb] at hf; exact hΓ f e' hf
end Go.PE


set_option linter.unusedVariables false
set_option linter.unusedSimpArgs false
namespace Go.PE
open Go.RowKit
def wfTy : (t : Ty) → t.den → Prop
  | .int k, n => (Lit.int k n).wf = true
  | .bool, _ => True
  | .str, (s : ByteArray) => s.size ≤ maxLen
  | .ifc, _ => True
  | .sl _ e, (xs : List e.den) => xs.length ≤ maxLen ∧ ∀ x ∈ xs, wfTy e x
  | .pair a b, x => wfTy a x.1 ∧ wfTy b x.2
  | .unit, _ => True
def wfPs : (ps : List PK) → PDs ps → Prop
  | [], _ => True
  | .val t :: r, x => wfTy t x.1 ∧ wfPs r x.2
  | _ :: r, x => wfPs r x.2
def tyIs (τ : Tab) (T : TypeId) (t : Ty) : Bool := match τ.ty T with | some t' => Ty.beq t' t | none => false
theorem tyIs_eq {τ : Tab} {T : TypeId} {t : Ty} (h : tyIs τ T t = true) : τ.ty T = some t := by
  unfold tyIs at h
  split at h
  · rename_i e; rw [e, Ty.eq_of_beq h]
  · cases h
def rfit (τ : Tab) : Nat → TypeId → Ty → Bool
  | 0, _, _ => false
  | n + 1, T, t =>
    match τ.td T, t with
    | some (.int k), .int k' => Nat.beq (ikCode k) (ikCode k')
    | some .bool, .bool => true
    | some .str, .str => true
    | some (.slc e), .sl e' te => Nat.beq e e' && tyIs τ e te && rfit τ n e te
    | some (.stc fs), t => t.isAgg && rfs (rfit τ n) (tyIs τ) fs t 0
    | _, _ => false
where rfs (g h : TypeId → Ty → Bool) : List (TypeId × Nat) → Ty → Nat → Bool
  | [], .unit, _ => true
  | [f], .pair a .unit, o => Nat.beq f.2 o && g f.1 a && h f.1 a
  | [f], t, o => Nat.beq f.2 o && g f.1 t && h f.1 t
  | f :: r, .pair a b, o => Nat.beq f.2 o && g f.1 a && h f.1 a && rfs g h r b (o + a.cells)
  | _, _, _ => false
section
variable {P : Program} {tab : Tab} {H : Type} {enc : TypeId × Value → H} {w : World} {base : Nat} {spare : Nat → Bool} {held : Bool}
theorem all_some {A B : Type} {f : A → Option B} : ∀ {l : List A} {r : List B}, l.mapM f = some r → ∀ x ∈ l, ∃ y, f x = some y := by
  intro l
  induction l with
  | nil => intro r _ x hx; cases hx
  | cons a q ih =>
    intro r h x hx
    simp only [List.mapM_cons, Option.bind_eq_bind, Option.pure_def, Option.bind_eq_some_iff] at h
    obtain ⟨y, hy, z, hz, _⟩ := h
    rcases List.mem_cons.1 hx with rfl | hx
    · exact ⟨y, hy⟩
    · exact ih hz x hx
theorem cellsOf_ty (hT : TabOK P tab) {T : TypeId} {t : Ty} (h : tab.ty T = some t) : P.cellsOf T = t.cells := by
  obtain ⟨i, z, h1, h2, _⟩ := (hT.ty T t h).info
  simp [Program.cellsOf, h1, h2]
theorem getD_list {α : Type} {xs : List α} {i : Nat} {d x : α} (h : xs[i]? = some x) : List.getD xs i d = x := by
  rw [List.getD_eq_getElem?_getD, h]; rfl
theorem choose_list {α : Type} {p : Nat → α → Prop} : ∀ (n : Nat), (∀ i, i < n → ∃ x, p i x) → ∃ l : List α, l.length = n ∧ ∀ i x, l[i]? = some x → p i x := by
  intro n
  induction n with
  | zero => intro _; exact ⟨[], rfl, fun i x h => by simp at h⟩
  | succ n ih =>
    intro h
    obtain ⟨l, hl, hp⟩ := ih fun i hi => h i (by omega)
    obtain ⟨x, hx⟩ := h n (by omega)
    refine ⟨l ++ [x], by simp [hl], fun i y hy => ?_⟩
    by_cases hi : i < l.length
    · rw [List.getElem?_append_left hi] at hy; exact hp i y hy
    · rw [List.getElem?_append_right (by omega)] at hy
      have : i - l.length = 0 := by
        have := (List.getElem?_eq_some_iff.1 hy).1
        simp at this; omega
      rw [this] at hy
      have e : i = n := by omega
      simp at hy
      subst hy; subst e; exact hx
theorem open_fs (hT : TabOK P tab) {n m : Nat} (ih : ∀ T t cs x, rfit tab n T t = true → tab.ty T = some t → DataW.trod enc P w base spare held m T cs = some x → ∃ y : t.den, Rep tab.ty (fun k => k < w.heap.size) w t y cs ∧ wfTy t y)
    (cs : List Value) : ∀ (fs : List (TypeId × Nat)) (t : Ty) (o : Nat), rfit.rfs (rfit tab n) (tyIs tab) fs t o = true →
    (∀ f ∈ fs, ∃ x, DataW.trod enc P w base spare held m f.1 ((cs.drop f.2).take (P.cellsOf f.1)) = some x) → cs.length = o + t.cells →
    ∃ y : t.den, Rep tab.ty (fun k => k < w.heap.size) w t y (cs.drop o) ∧ wfTy t y := by
  have one : ∀ (f : TypeId × Nat) (t : Ty) (o : Nat), (Nat.beq f.2 o && rfit tab n f.1 t && tyIs tab f.1 t) = true →
      (∃ x, DataW.trod enc P w base spare held m f.1 ((cs.drop f.2).take (P.cellsOf f.1)) = some x) → ∃ y : t.den, Rep tab.ty (fun k => k < w.heap.size) w t y ((cs.drop o).take t.cells) ∧ wfTy t y := by
    intro f t o h hx
    simp only [Bool.and_eq_true] at h
    obtain ⟨⟨h1, h2⟩, h3⟩ := h
    obtain ⟨x, hx⟩ := hx
    have ht := tyIs_eq h3
    rw [cellsOf_ty hT ht, Nat.eq_of_beq_eq_true h1] at hx
    exact ih _ _ _ _ h2 ht hx
  intro fs
  induction fs with
  | nil =>
    intro t o h _ hl
    cases t with
    | unit =>
      refine ⟨(), ?_, trivial⟩
      have : cs.drop o = [] := List.drop_eq_nil_of_le (by simp [hl, Ty.cells])
      rw [this]; rfl
    | _ => simp [rfit.rfs] at h
  | cons f r ihr =>
    intro t o h hx hl
    have last : ∀ t, r = [] → cs.length = o + t.cells → (Nat.beq f.2 o && rfit tab n f.1 t && tyIs tab f.1 t) = true → ∃ y : t.den, Rep tab.ty (fun k => k < w.heap.size) w t y (cs.drop o) ∧ wfTy t y := by
      intro t hr hl h
      obtain ⟨y, h1, h2⟩ := one f t o h (hx f (List.mem_cons_self ..))
      refine ⟨y, ?_, h2⟩
      rwa [List.take_of_length_le (by rw [List.length_drop]; omega)] at h1
    have more : ∀ a b, cs.length = o + (a.cells + b.cells) → (Nat.beq f.2 o && rfit tab n f.1 a && tyIs tab f.1 a && rfit.rfs (rfit tab n) (tyIs tab) r b (o + a.cells)) = true →
        ∃ y : (Ty.pair a b).den, Rep tab.ty (fun k => k < w.heap.size) w (.pair a b) y (cs.drop o) ∧ wfTy (.pair a b) y := by
      intro a b hl h
      rw [Bool.and_eq_true] at h
      obtain ⟨y, h1, h2⟩ := one f a o h.1 (hx f (List.mem_cons_self ..))
      obtain ⟨z, h3, h4⟩ := ihr b (o + a.cells) h.2 (fun g hg => hx g (List.mem_cons_of_mem _ hg)) (by omega)
      refine ⟨(y, z), ⟨_, _, ?_, h1, h3⟩, h2, h4⟩
      rw [← List.drop_drop]
      exact (List.take_append_drop _ _).symm
    cases r with
    | nil =>
      cases t with
      | pair a b =>
        cases b with
        | unit =>
          simp only [rfit.rfs] at h
          simp only [Ty.cells, Nat.add_zero] at hl
          obtain ⟨y, h1, h2⟩ := last a rfl hl h
          refine ⟨(y, ()), ⟨_, [], ?_, h1, rfl⟩, h2, trivial⟩
          simp
        | _ => exact last _ rfl hl (by simpa only [rfit.rfs] using h)
      | _ => exact last _ rfl hl (by simpa only [rfit.rfs] using h)
    | cons g r' =>
      cases t with
      | pair a b =>
        simp only [rfit.rfs] at h
        exact more a b (by simpa [Ty.cells] using hl) h
      | _ => simp [rfit.rfs] at h
theorem open_rep (hT : TabOK P tab) : ∀ (n : Nat) (T : TypeId) (t : Ty) (m : Nat) (cs : List Value) (x : DataW H × List MemPlace), rfit tab n T t = true → tab.ty T = some t →
    DataW.trod enc P w base spare held m T cs = some x → ∃ y : t.den, Rep tab.ty (fun k => k < w.heap.size) w t y cs ∧ wfTy t y := by
  intro n
  induction n with
  | zero => intro T t m cs x h; cases h
  | succ n ih =>
    intro T t m cs x h ht hx
    cases m with
    | zero => simp [DataW.trod] at hx
    | succ m =>
    unfold rfit at h
    split at h
    · rename_i k k' htd
      have hu : P.underlying T = some (.int k) := hT.td T _ htd
      obtain rfl := ikCode_inj (Nat.eq_of_beq_eq_true h)
      unfold DataW.trod at hx
      rw [hu] at hx
      split at hx <;> simp_all
      obtain ⟨⟨e, hw⟩, _⟩ := hx
      subst_vars
      exact ⟨_, rfl, hw⟩
    · rename_i htd
      have hu : P.underlying T = some .bool := hT.td T _ htd
      unfold DataW.trod at hx
      rw [hu] at hx
      split at hx <;> simp_all
      exact ⟨_, rfl, trivial⟩
    · rename_i htd
      have hu : P.underlying T = some .string := hT.td T _ htd
      unfold DataW.trod at hx
      rw [hu] at hx
      split at hx <;> simp_all
      exact ⟨_, rfl, hx.1⟩
    · rename_i e e' te htd
      have hu : P.underlying T = some (.slice e) := hT.td T _ htd
      simp only [Bool.and_eq_true] at h
      obtain ⟨⟨h1, h2⟩, h3⟩ := h
      obtain rfl := Nat.eq_of_beq_eq_true h1
      have hte := tyIs_eq h2
      · have hpos := hT.pos T e te htd hte
        have hc := cellsOf_ty hT hte
        rcases DataW.trod_slice hu hx with ⟨rfl, _⟩ | ⟨a, len, cap, elems, rest, q, _, rfl, _, hb, hl, hm, hlen, hel, _, _⟩
        · exact ⟨[], ⟨none, 0, rfl, Nat.le_refl _, by unfold maxLen; decide, fun h0 => absurd h0 (by simp)⟩, by simp [maxLen], fun x hx => by cases hx⟩
        · have each : ∀ i, i < len → ∃ y : te.den, (∃ ce, (w.cells? base (a.add (i * te.cells)) te.cells) = some ce ∧ Rep tab.ty (fun k => k < w.heap.size) w te y ce) ∧ wfTy te y := by
            intro i hi
            have := hel i hi
            rw [List.getElem?_eq_getElem (by omega), Option.bind_eq_some_iff] at this
            obtain ⟨ce, hce, hz⟩ := this
            obtain ⟨y, hy, hwf⟩ := ih e te q ce _ h3 hte hz
            exact ⟨y, ⟨ce, by rw [← hc]; exact hce, hy⟩, hwf⟩
          obtain ⟨xs, hxl, hxs⟩ := choose_list len each
          have cellsr : ∀ (b : Addr) (k : Nat) (ce : List Value), w.cells? base b k = some ce → ce.length = k ∧ ∀ j, j < k → w.cell? (b.add j) = some (ce.getD j undef) := by
            intro b k ce hce
            unfold World.cells? at hce
            split at hce
            · have hlen : ∀ (l : List Nat) (r : List Value), l.mapM (fun i => w.cell? (b.add i)) = some r → r.length = l.length ∧ ∀ j, j < l.length → w.cell? (b.add (l.getD j 0)) = some (r.getD j undef) := by
                intro l
                induction l with
                | nil => intro r hr; simp at hr; subst hr; exact ⟨rfl, fun j hj => by simp at hj⟩
                | cons p l ih2 =>
                  intro r hr
                  simp only [List.mapM_cons, Option.bind_eq_bind, Option.pure_def, Option.bind_eq_some_iff] at hr
                  obtain ⟨y, hy, z, hz, e⟩ := hr
                  have e := Option.some.inj e
                  subst e
                  obtain ⟨i1, i2⟩ := ih2 z hz
                  refine ⟨by simp [i1], fun j hj => ?_⟩
                  cases j with
                  | zero => simpa using hy
                  | succ j => simpa using i2 j (by simpa using hj)
              obtain ⟨l1, l2⟩ := hlen _ _ hce
              simp at l1
              refine ⟨l1, fun j hj => ?_⟩
              have := l2 j (by simpa using hj)
              rwa [getD_list (x := j) (by simp [hj])] at this
            · cases hce
          refine ⟨xs, ⟨some a, cap, by rw [hxl], by omega, hm, fun h0 => ?_⟩, by rw [hxl]; exact Nat.le_trans hl hm, fun x hx => ?_⟩
          · have h00 : 0 < len := by omega
            obtain ⟨y0, ⟨ce0, hce0, _⟩, _⟩ := each 0 h00
            have hz := (cellsr _ _ _ hce0).2 0 hpos
            have ea : (a.add (0 * te.cells)).add 0 = a := by simp [Addr.add]
            rw [ea] at hz
            obtain ⟨b, o, s⟩ := a
            have hs : s = none := by
              unfold World.cell? at hz
              split at hz
              · split at hz
                · cases hz
                · rename_i hsn; simpa using hsn
              · cases hz
            subst hs
            have hbl : b < w.heap.size := by
              unfold World.cell? at hz
              split at hz
              · rename_i hh; exact (Array.getElem?_eq_some_iff.1 hh).1
              · cases hz
            refine ⟨b, o, rfl, hbl, hbl, fun i hi => ?_⟩
            have hi' : i < len := by rw [← hxl]; exact hi
            have hgi : xs[i]? = some (xs[i]'hi) := List.getElem?_eq_getElem hi
            obtain ⟨⟨ce, hce, hr⟩, _⟩ := hxs i _ hgi
            obtain ⟨c1, c2⟩ := cellsr _ _ _ hce
            refine ⟨ce, c1, fun j hj => ?_, ?_⟩
            · have := c2 j (by omega)
              rwa [addr_add, addr_add] at this
            · rw [getD_list hgi]; exact hr
          · obtain ⟨i, hi⟩ := List.getElem?_of_mem hx
            exact (hxs i x hi).2
    · rename_i fs htd
      obtain ⟨gs, hu, hgs⟩ : ∃ gs : Array Field, P.underlying T = some (.struct gs) ∧ (gs.toList.map fun g => (g.type, g.offset)) = fs := hT.td T _ htd
      rw [Bool.and_eq_true] at h
      unfold DataW.trod at hx
      rw [hu] at hx
      simp only at hx
      split at hx
      · rename_i hlen
        rw [Option.map_eq_some_iff] at hx
        obtain ⟨r, hr, _⟩ := hx
        have hall := all_some hr
        rw [cellsOf_ty hT ht] at hlen
        have := open_fs hT (fun T t cs x h1 h2 h3 => ih T t m cs x h1 h2 h3) cs fs _ 0 h.2 (fun f hf => by
          rw [← hgs] at hf
          obtain ⟨g, hg, rfl⟩ := List.mem_map.1 hf
          exact hall g hg) (by rw [hlen]; omega)
        simpa using this
      · cases hx
    · cases h
theorem trod_vrep (hT : TabOK P tab) {n : Nat} {T : TypeId} {t : Ty} {v : Value} {d : DataW H} {ps : List MemPlace} {r : Reach} {b0 : Nat} (h : rfit tab n T t = true) (ht : tab.ty T = some t)
    (hok : Value.okWide P w r b0 T v) (hx : DataW.Trod enc P w base spare held T v d ps) : ∃ y : t.den, VRep tab.ty (fun k => k < w.heap.size) w t y v ∧ wfTy t y := by
  obtain ⟨m, hm⟩ := hx
  obtain ⟨y, hy, hwf⟩ := open_rep hT n T t m _ _ h ht hm
  refine ⟨y, ?_, hwf⟩
  cases ha : t.isAgg with
  | true =>
    refine .inl ⟨ha, ?_⟩
    have : ∃ cs, v = .agg cs := by
      unfold Value.okWide at hok
      rcases (hT.ty T t ht).agg ha with ⟨fs, hu⟩ | ⟨n, e, hu⟩
      · rw [hu] at hok; obtain ⟨cs, h, _⟩ := hok; exact ⟨cs, h⟩
      · rw [hu] at hok; obtain ⟨cs, h, _⟩ := hok; exact ⟨cs, h⟩
    obtain ⟨cs, rfl⟩ := this
    exact ⟨cs.toList, by simp, hy⟩
  | false =>
    refine .inr ⟨ha, ?_⟩
    have : ∀ cs, v ≠ .agg cs := by
      intro cs hv
      subst hv
      obtain ⟨d, hu, hd⟩ := (hT.ty T t ht).one ha
      unfold Value.okWide at hok
      rw [hu] at hok
      cases d <;> simp_all [Cell.okWide, Cell.ok, notAgg]
    have e : v.cells.toList = [v] := by
      cases v <;> first | rfl | exact absurd rfl (this _)
    rw [e] at hy
    exact hy
def fitPs (τ : Tab) : List TypeId → List PK → Bool
  | [], [] => true
  | T :: r, .val t :: q => rfit τ 9 T t && tyIs τ T t && fitPs τ r q
  | _, _ => false
theorem open_all (hT : TabOK P tab) {r : Reach} {b0 : Nat} : ∀ (ts : List TypeId) (ks : List PK) (vs : List Value) (ds : List (DataW H)) (ps : List MemPlace), fitPs tab ts ks = true →
    (∀ (j : Nat) T v, ts[j]? = some T → vs[j]? = some v → Value.okWide P w r b0 T v) → DataW.TrodAll enc P w base spare held ts vs ds ps →
    ∃ x : PDs ks, ArgsRel tab.ty P (fun k => k < w.heap.size) w ks x vs [] ∧ wfPs ks x := by
  intro ts
  induction ts with
  | nil =>
    intro ks vs ds ps hf _ h
    cases ks with
    | cons _ _ => simp [fitPs] at hf
    | nil =>
      cases vs with
      | nil => exact ⟨(), ⟨rfl, rfl⟩, trivial⟩
      | cons _ _ => cases ds <;> simp [DataW.TrodAll] at h
  | cons T r' ih =>
    intro ks vs ds ps hf hok h
    cases vs with
    | nil => cases ds <;> simp [DataW.TrodAll] at h
    | cons v vs =>
      cases ds with
      | nil => simp [DataW.TrodAll] at h
      | cons d ds =>
        obtain ⟨p, q, h1, h2, _⟩ := h
        cases ks with
        | nil => simp [fitPs] at hf
        | cons k ks =>
          cases k with
          | val t =>
            simp only [fitPs, Bool.and_eq_true] at hf
            obtain ⟨⟨f1, f2⟩, f3⟩ := hf
            have ht := tyIs_eq f2
            · obtain ⟨y, hy, hwf⟩ := trod_vrep hT f1 ht (hok 0 T v rfl rfl) h1
              obtain ⟨z, hz, hwz⟩ := ih ks vs ds q f3 (fun j T v a b => hok (j + 1) T v a b) h2
              exact ⟨(y, z), ⟨v, vs, [], [], rfl, rfl, ⟨hy, rfl⟩, hz⟩, hwf, hwz⟩
          | _ => simp [fitPs] at hf
theorem Fr.lower {w w' : World} {X : Nat → Prop} (h : Fr X w w') (hX : ∀ k, ¬ X k) : Below w.heap.size w w' :=
  ⟨h.1, h.2.1, h.2.2.1, h.2.2.2.1, fun k hk => h.2.2.2.2 k hk (hX k)⟩
def rdOk (P : Program) (ts : List TypeId) : Bool := ts.all fun T => P.readableRec T && decide (T < P.types.size)
theorem reread (hl : laidOutB P = true) {W W' : World} (hb : Below W.heap.size W W') : ∀ (ts : List TypeId) (vs : List Value) (ds : List (DataW H)) (ps : List MemPlace), rdOk P ts = true →
    (∀ p ∈ ps, p.block < W.heap.size) → DataW.TrodAll enc P W 0 (fun _ => true) true ts vs ds ps → DataW.TrodAll enc P W' 0 (fun b => decide (b < W.heap.size)) true ts vs ds ps := by
  intro ts
  induction ts with
  | nil => intro vs ds ps _ _ h; cases vs <;> cases ds <;> exact h
  | cons T r ih =>
    intro vs ds ps hr hlt h
    cases vs with
    | nil => cases ds <;> exact h
    | cons v vs =>
      cases ds with
      | nil => exact h
      | cons d ds =>
        obtain ⟨p, q, h1, h2, rfl⟩ := h
        simp only [rdOk, List.all_cons, Bool.and_eq_true, decide_eq_true_eq] at hr
        exact ⟨p, q, Below.trod hl hr.1.1 hr.1.2 h1 hb (fun x hx => hlt x (List.mem_append_left _ hx)),
          ih vs ds q (by simpa [rdOk] using hr.2) (fun x hx => hlt x (List.mem_append_right _ hx)) h2, rfl⟩
theorem kept_below {w w' : World} {may : MemPlace → Prop} (h : Below w.heap.size w w') : w.keptBut w' may := by
  refine ⟨h.os, h.output, fun i hi => ?_⟩
  rw [h.block i hi]
  split
  · rename_i e1 e2
    rw [e1] at e2
    cases e2
    exact ⟨rfl, rfl, rfl, fun _ _ => rfl⟩
  · rename_i e1 e2
    rw [e1] at e2
    cases e2
    exact Or.inr ⟨rfl, rfl⟩
  · rfl
theorem law_calls (hT : TabOK P tab) (hl : laidOutB P = true) {f : FuncId} {fn : Func} {ks : List PK} {TB : TypeId} {apart fresh handsOn : Bool} {s : ChangeSpec}
    {G : PDs ks → Option (RDs [⟨.bool, [false], none⟩] × ODs ks)} (good : Good tab.ty P f ⟨ks, [⟨.bool, [false], none⟩], G⟩) (hfit : fitPs tab fn.params.toList ks = true) (hrd : rdOk P fn.params.toList = true)
    (hsz : fn.resultTypes = #[TB]) (hTB : P.underlying TB = some .bool) (hvars : s.vars = [])
    (hs : ∀ ds : List (DataW H), ds.length = fn.params.toList.length → (s.fn H ds).results = [.lit (.bool true)] ∧ (s.fn H ds).args = ds ∧ (s.fn H ds).vars = [])
    (hG : ∀ x, wfPs ks x → ∃ o, G x = some ((true, ()), o))
    {W : World} {b0 : Nat} {args : Array Value} {ds gs : List (DataW H)} {before : List MemPlace}
    (hok : ∀ (j : Nat) t v, fn.params[j]? = some t → args[j]? = some v → Value.okWide P W .any b0 t v)
    (hW : DataW.Whole enc P fn.params.toList s.vars apart W args.toList ds gs before) :
    Calls P f args W fun e W' => ∃ v, e = .returned v ∧ s.post enc P fn apart fresh handsOn false W args v W' := by
  have hW' := hW
  obtain ⟨p, q, hA, hV, rfl, hfz, hnd⟩ := hW
  rw [hvars] at hV
  obtain ⟨rfl, rfl⟩ := Go.ChangeShapes.trodVars_none hV
  obtain ⟨x, hx, hwf⟩ := open_all hT fn.params.toList ks args.toList ds p hfit (fun j t v a b => hok j t v (by simpa using a) (by simpa using b)) hA
  obtain ⟨o, ho⟩ := hG x hwf
  have hc := good.2 W (fun k => k < W.heap.size) x args.toList [] ((true, ()), o) (fun _ h => h) hx List.nodup_nil (fun k hk => by cases hk) ho
  rw [show args.toList.toArray = args from by simp] at hc
  refine hc.mono fun e W' => ?_
  rintro ⟨vs, S', B1, B2, he, hres, _, _, _, _, _, hfr⟩
  have hb := hfr.lower (fun k hk => by cases hk)
  obtain ⟨v, vr, C1, C2, rfl, _, hr, hr2, _⟩ := hres
  subst hr2
  obtain ⟨cs, _, hcs, hown⟩ := hr
  have hcs := hcs rfl
  subst hcs
  obtain ⟨c, cr, D1, D2, e1, _, hleaf, e2, _⟩ := hown
  subst e2
  cases e1
  obtain ⟨hrep, _⟩ := hleaf
  have hv : v = .bool true := by
    have : ([v] : List Value) = [.bool true] := hrep
    exact List.head_eq_of_cons_eq this
  subst hv
  have hlen : ds.length = fn.params.toList.length := by
    have : ∀ (ts : List TypeId) (vs : List Value) (ds : List (DataW H)) (ps : List MemPlace), DataW.TrodAll enc P W 0 (fun _ => true) true ts vs ds ps → ds.length = ts.length := by
      intro ts
      induction ts with
      | nil => intro vs ds ps h; cases vs <;> cases ds <;> first | rfl | (simp [DataW.TrodAll] at h)
      | cons T r ih =>
        intro vs ds ps h
        cases vs with
        | nil => cases ds <;> simp [DataW.TrodAll] at h
        | cons v vs =>
          cases ds with
          | nil => simp [DataW.TrodAll] at h
          | cons d ds => obtain ⟨p, q, _, h2, _⟩ := h; simp [ih vs ds q h2]
    exact this _ _ _ _ hA
  obtain ⟨s1, s2, s3⟩ := hs ds hlen
  have hlt : ∀ y ∈ p, y.block < W.heap.size := fun y hy => hW'.lt y (by simpa using hy)
  refine ⟨_, he, ds, [], p ++ [], [], p, [], hW', ?_, ?_, ?_, kept_below hb, fun h => by cases h⟩
  · rw [hsz, List.append_nil, s1]
    show DataW.TrodAll _ _ _ _ _ _ [TB] [Value.bool true] _ _
    refine ⟨[], [], ⟨1, ?_⟩, rfl, rfl⟩
    show DataW.trod enc P W' _ _ _ 1 TB [Value.bool true] = _
    unfold DataW.trod
    rw [hTB]
  · rw [List.append_nil, s2]
    exact reread hl hb _ _ _ _ hrd hlt hA
  · rw [List.append_nil, s3, hvars]
    rfl
end
end Go.PE
