/-
  The evaluator PE and its soundness, part 4.
  Conditions: none.
-/
import Derived.Carry
import Derived.ChangeArms
import Derived.RowKit
import Derived.Test.YtkkpafhoiofaiaaGreatDoorE3

set_option linter.unusedVariables false
set_option linter.unusedSimpArgs false
namespace Go.PE
theorem filter_le {p p' : Nat → Bool} (h : ∀ i, p' i = true → p i = true) : ∀ (l : List Nat), (l.filter p').length ≤ (l.filter p).length
  | [] => Nat.le_refl _
  | x :: r => by
    have ih := filter_le h r
    rw [List.filter_cons, List.filter_cons]
    cases hp' : p' x with
    | true => rw [h x hp']; simpa using ih
    | false =>
      simp only [Bool.false_eq_true, if_false]
      split
      · simp only [List.length_cons]; omega
      · exact ih
theorem filter_lt {p p' : Nat → Bool} (h : ∀ i, p' i = true → p i = true) {j : Nat} (hj : p j = true) (hj' : p' j = false) : ∀ (l : List Nat), j ∈ l → (l.filter p').length < (l.filter p).length
  | [], hm => by cases hm
  | x :: r, hm => by
    rw [List.filter_cons, List.filter_cons]
    rcases List.mem_cons.1 hm with rfl | hm
    · rw [hj, hj']
      have := filter_le h r
      simp only [Bool.false_eq_true, if_false, if_true, List.length_cons]
      omega
    · have ih := filter_lt h hj hj' r hm
      cases hp' : p' x with
      | true => rw [h x hp']; simpa using ih
      | false =>
        simp only [Bool.false_eq_true, if_false]
        split
        · simp only [List.length_cons]; omega
        · exact ih
theorem getD_in {xs : Array Bool} {i : Nat} (h : i < xs.size) (d d' : Bool) : xs.getD i d = xs.getD i d' := by
  simp only [Array.getD_eq_getD_getElem?, Array.getElem?_eq_getElem h, Option.getD_some]
theorem ready_nil {ops : Array Oper} (he : edgesOk ops.toList = true) {listed : Array Bool} (hs : listed.size = ops.size) (hr : Region.ready .any ops listed = []) : ∀ i, i < ops.size → listed.getD i false = true := by
  intro i
  induction i using Nat.strongRecOn with
  | _ i ih =>
    intro hi
    cases hl : listed.getD i false with
    | true => rfl
    | false =>
      have hm : i ∈ Region.ready .any ops listed := by
        rw [mem_ready]
        refine ⟨by rw [getD_in (by omega) true false]; exact hl, ops[i], Array.getElem?_eq_getElem hi, fun e hm hb => ?_⟩
        have hx : (ops[i], i) ∈ ops.toList.zipIdx := List.mem_zipIdx_iff_getElem?.2 (by rw [Array.getElem?_toList]; exact Array.getElem?_eq_getElem hi)
        have h1 := List.all_eq_true.1 (List.all_eq_true.1 he (ops[i], i) hx) e (Array.mem_toList_iff.2 hm)
        simp only [hb, Bool.not_true, Bool.false_or] at h1
        have hlt := nble_iff.1 h1
        exact ih e.on hlt (by omega)
      rw [hr] at hm; cases hm
section
variable {P : Program} {tab : Tab} {N : NN} {w0 : World} {F : FF} {S : Nat → Prop} {β : Lab → Value} {st : St} {a : Act} {w : World}
theorem any_sound {ops : Array Oper} {es : List En} {sl0 : Nat → SV} {ob0 : Lab → Option Ob} (hes : es.map (·.o) = ops.toList) (hok : ∀ j e, es[j]? = some e → EnOk P tab N (ancs ops.toList []) ops.toList es sl0 ob0 j e)
    (htm : tmpsOk (ancs ops.toList []) ops.toList = true) (hnd : (ops.toList.flatMap dstsOf).Nodup) (h9 : 999999999 ∉ ops.toList.flatMap dstsOf) (hdd : ∀ o ∈ ops.toList, ∀ d, o.dst = some d → okD N d) (hedge : edgesOk ops.toList = true)
    {Q : Exit → Act → World → Prop} (hQ : ∀ a w, (∃ S' β', (∀ k, S k → S' k) ∧ RelF P tab.ty N w0 F S' β' (accS (fun _ => true) 0 es sl0) (accO (fun _ => true) 0 es ob0) a w) → Q .normal a w) :
    ∀ (fuel : Nat) (listed : Array Bool) (a : Act) (w : World), listed.size = ops.size → DInv P tab N w0 F S ops.toList es sl0 ob0 (fun i => listed.getD i false) a w →
      ((List.range ops.size).filter (fun i => !(listed.getD i false))).length ≤ fuel → wpAny P .any ops Q fuel listed a w := by
  have hlen : es.length = ops.size := by rw [← Array.length_toList, ← hes, List.length_map]
  have fin : ∀ (listed : Array Bool) (a : Act) (w : World), (∀ i, i < ops.size → listed.getD i false = true) → DInv P tab N w0 F S ops.toList es sl0 ob0 (fun i => listed.getD i false) a w → Q .normal a w := by
    intro listed a w hall hi
    obtain ⟨S', β', h1, h2⟩ := hi.rel
    refine hQ a w ⟨S', β', h1, ?_⟩
    have e1 : accS (fun i => listed.getD i false) 0 es sl0 = accS (fun _ => true) 0 es sl0 := by
      funext t
      refine accS_congr rfl (fun j e hj _ => ?_)
      have : j < es.length := (List.getElem?_eq_some_iff.1 hj).1
      rw [Nat.zero_add]; exact hall j (by omega)
    have e2 : accO (fun i => listed.getD i false) 0 es ob0 = accO (fun _ => true) 0 es ob0 := by
      funext l
      refine accO_congr rfl (fun j e hj _ _ => ?_)
      have : j < es.length := (List.getElem?_eq_some_iff.1 hj).1
      rw [Nat.zero_add]; exact hall j (by omega)
    rw [← e1, ← e2]
    exact h2
  intro fuel
  induction fuel with
  | zero =>
    intro listed a w hs hi hc
    have hnil : (List.range ops.size).filter (fun i => !(listed.getD i false)) = [] := List.eq_nil_of_length_eq_zero (Nat.le_zero.1 hc)
    have hall : ∀ i, i < ops.size → listed.getD i false = true := fun i hlt => by
      cases hl : listed.getD i false with
      | true => rfl
      | false =>
        have : i ∈ (List.range ops.size).filter (fun i => !(listed.getD i false)) := List.mem_filter.2 ⟨List.mem_range.2 hlt, by rw [hl]; rfl⟩
        rw [hnil] at this; cases this
    refine ⟨?_, fin listed a w hall hi⟩
    cases hr : Region.ready .any ops listed with
    | nil => rfl
    | cons i r =>
      have hm : i ∈ Region.ready .any ops listed := by rw [hr]; exact List.mem_cons_self ..
      rw [mem_ready] at hm
      obtain ⟨h1, o, ho, _⟩ := hm
      have hlt : i < ops.size := (Array.getElem?_eq_some_iff.1 ho).1
      have h2 := hall i hlt
      rw [getD_in (by omega) false true, h1] at h2
      cases h2
  | succ fuel ih =>
    intro listed a w hs hi hc
    refine ⟨fun hr => fin listed a w (ready_nil hedge hs hr) hi, fun j hj => ?_⟩
    rw [mem_ready] at hj
    obtain ⟨h1, o, ho, hedges⟩ := hj
    have hlt : j < ops.size := (Array.getElem?_eq_some_iff.1 ho).1
    have hDj : listed.getD j false = false := by rw [getD_in (by omega) false true]; exact h1
    have hjl : ops.toList[j]? = some o := by rw [Array.getElem?_toList]; exact ho
    have key := draw_step hes hok htm hnd h9 hdd hi ho hDj (fun i h => by
      obtain ⟨e, hm, hb, h⟩ := ordered_edge hjl h
      have hon := hedges e (Array.mem_toList_iff.1 hm) hb
      rcases h with rfl | h
      · exact hon
      · exact hi.closed e.on hon i h) Q (wpAny P .any ops Q fuel (listed.setIfInBounds j true)) (fun a' w' hi' => by
      have e1 : addD (fun i => listed.getD i false) j = fun i => (listed.setIfInBounds j true).getD i false := by
        funext i
        unfold addD
        simp only [Array.getD_eq_getD_getElem?, Array.getElem?_setIfInBounds]
        by_cases hij : i = j
        · subst hij; rw [if_pos rfl, if_pos rfl, if_pos (by omega)]; rfl
        · rw [if_neg hij, if_neg (fun h => hij h.symm)]
      rw [e1] at hi'
      refine ih _ a' w' (by rw [Array.size_setIfInBounds]; exact hs) hi' ?_
      have hl := filter_lt (p := fun i => !(listed.getD i false)) (p' := fun i => !((listed.setIfInBounds j true).getD i false)) (j := j) (fun i h => by
        have := congrFun e1 i
        rw [← this] at h
        unfold addD at h
        by_cases hij : i = j
        · rw [if_pos hij] at h; cases h
        · rw [if_neg hij] at h; exact h) (by rw [hDj]; rfl) (by
        have := congrFun e1 j
        rw [← this]
        unfold addD; rw [if_pos rfl]; rfl) (List.range ops.size) (List.mem_range.2 hlt)
      omega)
    unfold wpOp
    rw [ho]
    exact key
theorem draw_sound {Γ : Ctx} (hm : P.follows .mixedOrders = true) (hΓ : GoodΓ tab.ty P Γ) (hTab : TabOK P tab) (N : NN) : DrawOk P Γ tab N := by
  intro w0 F S β st a w id ops R k res Q hd h he hQ
  refine wp_region_any hm ?_
  unfold evDraw at he
  cases hq : (tmpsOk (ancs ops.toList []) ops.toList && drawOk st ops.toList) with
  | false => rw [hq] at he; cases he
  | true =>
    rw [hq] at he
    simp only [cond_true] at he
    rw [Bool.and_eq_true] at hq
    obtain ⟨htm, hdr⟩ := hq
    unfold drawOk at hdr
    simp only [Bool.and_eq_true, Bool.not_eq_true', List.all_eq_true] at hdr
    obtain ⟨⟨⟨q1, q2⟩, q3⟩, q4⟩ := hdr
    have h9 : 999999999 ∉ ops.toList.flatMap dstsOf := by rw [← Bool.not_eq_true, nmem_iff] at q2; exact q2
    have hw : Rel P tab.ty N w0 F S β st a { w with drawn := w.drawn + 1 } := h.grow' (Fr.drew _ w)
    obtain ⟨es, fin, g1, g2, g3⟩ := evDs_run hΓ hTab hd he
    obtain ⟨k1, k2, k3⟩ := g3 [] (sget st.slots) (oget st.objs) rfl (fun _ => rfl) (fun _ => rfl) (fun n e hn => by simp at hn)
    simp only [List.nil_append] at k1 k2 k3
    have none_ : ∀ i, (Array.replicate ops.size false).getD i false = false := fun i => by
      rw [Array.getD_eq_getD_getElem?, Array.getElem?_replicate]; split <;> rfl
    have accN : ∀ (es : List En) (i : Nat) (f : Nat → SV), accS (fun i => (Array.replicate ops.size false).getD i false) i es f = f := by
      intro es
      induction es with
      | nil => intro i f; rfl
      | cons y q ih => intro i f; rw [accS, ih, if_neg (by rw [none_]; decide)]
    have accM : ∀ (es : List En) (i : Nat) (f : Lab → Option Ob), accO (fun i => (Array.replicate ops.size false).getD i false) i es f = f := by
      intro es
      induction es with
      | nil => intro i f; rfl
      | cons y q ih => intro i f; rw [accO, ih, if_neg (by rw [none_]; decide)]
    have fam : ∀ l : Lab, (∀ d ∈ (999999999 :: ops.toList.flatMap dstsOf), l.1 ≠ d) → FamIn ops.toList es (fun i => (Array.replicate ops.size false).getD i false) l := fun l hl =>
      .inl ⟨hl _ (List.mem_cons_self ..), fun hm => hl _ (List.mem_cons_of_mem _ hm) rfl⟩
    refine any_sound (w0 := w0) (F := F) (S := S) g1 (fun j e hj => by have := k1 j e hj; rw [Nat.zero_add] at this; exact this) htm (nNoDup_nodup q1) h9 hd q4 (fun a' w' hrel => ?_) ops.size _ a _ (by simp) ⟨⟨S, β, fun _ x => x, ?_⟩, fun t l hl => ?_, fun l x hx => ?_, fun j hj => ?_⟩ ?_
    · obtain ⟨S', β', h1, h2⟩ := hrel
      have e1 : accS (fun _ => true) 0 es (sget st.slots) = sget fin.slots := by funext t; exact (k2 t).symm
      have e2 : accO (fun _ => true) 0 es (oget st.objs) = oget fin.objs := by funext t; exact (k3 t).symm
      rw [e1, e2] at h2
      exact hQ a' w' S' β' fin h1 h2 g2
    · rw [accN, accM]; exact hw
    · rw [accN] at hl
      exact fam l (fun d hd => (famFresh_spec (q3 d hd)).1 t l hl)
    · rw [accM] at hx
      exact ⟨fam l (fun d hd => ((famFresh_spec (q3 d hd)).2 l x hx).1), fun m hm => fam m (fun d hd => ((famFresh_spec (q3 d hd)).2 l x hx).2 m hm)⟩
    · rw [none_] at hj; cases hj
    · exact Nat.le_trans (List.length_filter_le _ _) (by simp)
theorem initOb_cap (c c' : Nat) : ∀ {ps : List PK} {x : PDs ps} (i : Nat), noOwnc ps = true → initOb c i ps x = initOb c' i ps x
  | [], x, i, _ => rfl
  | p :: r, x, i, h => by
    have hr : noOwnc r = true := by cases p <;> first | exact h | cases h
    have ih := initOb_cap c c' (ps := r) (x := x.2) (i + 1) hr
    cases p <;> first | (cases h; done) | (simp only [initOb]; rw [ih])
theorem evFn_cap {Γ : Ctx} {fi : Fi} {n : Nat} {ps : List PK} {rs : List RK} {fn : Func} {x : PDs ps} (h : noOwnc ps = true) (c : Nat) : evFn Γ tab { fi with cap := c } n ps rs fn x = evFn Γ tab fi n ps rs fn x := by
  unfold evFn
  cases fn.body with
  | none => rfl
  | some b =>
    simp only
    rw [initOb_cap c fi.cap 0 h]
theorem fn_goodC {Γ : Ctx} (hm : P.follows .mixedOrders = true) (hΓ : GoodΓ tab.ty P Γ) (hTab : TabOK P tab) {f : FuncId} {fn : Func} (hf : P.funcs[f]? = some fn) (hnm : (fn.name == "runtime.NumGoroutine") = false) (hnb : fn.body.isNone = false) {ps : List PK} {rs : List RK} {fi : Fi} {n : Nat}
    {G : PDs ps → Option (RDs rs × ODs ps)} (hG : ∀ c x r, c ≤ maxLen → G x = some r → evFn Γ tab { fi with cap := c } n ps rs fn x = some r) : Good tab.ty P f ⟨ps, rs, G⟩ :=
  fn_sound hΓ hTab (fun N => draw_sound hm hΓ hTab N) hf hnm hnb hG
theorem fn_good {Γ : Ctx} (hm : P.follows .mixedOrders = true) (hΓ : GoodΓ tab.ty P Γ) (hTab : TabOK P tab) {f : FuncId} {fn : Func} (hf : P.funcs[f]? = some fn) (hnm : (fn.name == "runtime.NumGoroutine") = false) (hnb : fn.body.isNone = false) {ps : List PK} {rs : List RK} {fi : Fi} {n : Nat}
    {G : PDs ps → Option (RDs rs × ODs ps)} (hG : ∀ x r, G x = some r → evFn Γ tab fi n ps rs fn x = some r) (hno : noOwnc ps = true := by rfl) : Good tab.ty P f ⟨ps, rs, G⟩ :=
  fn_goodC hm hΓ hTab hf hnm hnb (fun c x r _ h => by rw [evFn_cap hno]; exact hG x r h)
end
end Go.PE


set_option linter.unusedVariables false
set_option linter.unusedSimpArgs false
namespace Go.PE
def nats2 : List (Nat × Nat) → List (Nat × Nat) → Bool
  | [], [] => true
  | a :: r, b :: q => Nat.beq a.1 b.1 && Nat.beq a.2 b.2 && nats2 r q
  | _, _ => false
theorem nats2_eq : ∀ {a b : List (Nat × Nat)}, nats2 a b = true → a = b
  | [], [], _ => rfl
  | a :: r, b :: q, h => by
    simp only [nats2, Bool.and_eq_true] at h
    rw [nats2_eq h.2]
    obtain ⟨a1, a2⟩ := a
    obtain ⟨b1, b2⟩ := b
    have e1 : a1 = b1 := Nat.eq_of_beq_eq_true h.1.1
    have e2 : a2 = b2 := Nat.eq_of_beq_eq_true h.1.2
    rw [e1, e2]
  | [], _ :: _, h => by cases h
  | _ :: _, [], h => by cases h
def chkTD (P : Program) (T : TypeId) (d : TD) : Bool :=
  match d, P.underlying T with
  | .int k, some (.int k') => Nat.beq (ikCode k) (ikCode k')
  | .bool, some .bool => true
  | .str, some .string => true
  | .ifc, some (.interface _) => true
  | .slc e, some (.slice e') => Nat.beq e e'
  | .stc fs, some (.struct gs) => nats2 (gs.toList.map fun g => (g.type, g.offset)) fs
  | .ptr e, some (.pointer e') => Nat.beq e e'
  | .arr n e, some (.array n' e') => Nat.beq n n' && Nat.beq e e'
  | .fnc, _ => true
  | .ovl _, _ => true
  | .mth _ _ _, _ => true
  | _, _ => false
def zeroCell : Value → Value → Bool
  | .int k n, .int k' n' => Nat.beq (ikCode k) (ikCode k') && decide (n = n')
  | .bool b, .bool b' => b == b'
  | .string s, .string s' => decide (s.data.toList = s'.data.toList)
  | .nilIface, .nilIface => true
  | .slice none 0 0, .slice none 0 0 => true
  | _, _ => false
theorem zeroCell_eq {u v : Value} (h : zeroCell u v = true) : u = v := by
  unfold zeroCell at h
  split at h
  · simp only [Bool.and_eq_true, decide_eq_true_eq] at h; rw [ikCode_inj (Nat.eq_of_beq_eq_true h.1), h.2]
  · rw [eq_of_beq h]
  · rename_i s s'
    have := of_decide_eq_true h
    obtain ⟨⟨x⟩⟩ := s
    obtain ⟨⟨y⟩⟩ := s'
    have : x = y := this
    rw [this]
  · rfl
  · rfl
  · cases h
def zeroCells : List Value → List Value → Bool
  | [], [] => true
  | a :: r, b :: q => zeroCell a b && zeroCells r q
  | _, _ => false
theorem zeroCells_eq : ∀ {a b : List Value}, zeroCells a b = true → a = b
  | [], [], _ => rfl
  | a :: r, b :: q, h => by
    simp only [zeroCells, Bool.and_eq_true] at h
    rw [zeroCell_eq h.1, zeroCells_eq h.2]
  | [], _ :: _, h => by cases h
  | _ :: _, [], h => by cases h
def isAggV : Value → Bool
  | .agg _ => true
  | _ => false
def aggDesc : TypeDesc → Bool
  | .struct _ => true
  | .array _ _ => true
  | _ => false
def chkTY (P : Program) (T : TypeId) (t : Ty) : Bool :=
  match P.info? T, P.underlying T with
  | some i, some d => match i.zero with
    | some z => Nat.beq i.size t.cells && zeroCells z.cells.toList (zeroVals t) && (bif t.isAgg then isAggV z && aggDesc d else notAgg d) && Nat.ble i.bytes 131072
    | none => false
  | _, _ => false
def chkArr (P : Program) (τ : Tab) (T : TypeId) (d : TD) : Bool :=
  match d with
  | .arr n eT => match τ.ty eT with
    | some e => bif Nat.beq e.cells 1 then (match P.info? T with
      | some i => (match i.zero with
        | some (.agg z) => zeroCells z.toList (List.replicate n ((zeroVals e).getD 0 undef))
        | _ => false)
      | none => false) else true
    | none => true
  | _ => true
def chkFld (P : Program) (d : TD) : Bool :=
  match d with
  | .stc fs => fs.all fun f => (P.info? f.1).isSome
  | _ => true
def chkPos (τ : Tab) (d : TD) : Bool :=
  match d with
  | .slc eT => match τ.ty eT with
    | some e => Nat.blt 0 e.cells
    | none => true
  | _ => true
def isU8 : Ty → Bool
  | .int .u8 => true
  | _ => false
def isZeroU8 : Value → Bool
  | .int .u8 n => decide (n = 0)
  | _ => false
def chkU8 (P : Program) (T : TypeId) (t : Option Ty) : Bool :=
  match t with
  | some t => bif isU8 t then (match P.info? T with
    | some i => Nat.beq i.size 1 && Nat.beq i.bytes 1 && (match i.zero with | some z => isZeroU8 z | none => false)
    | none => false) else true
  | none => true
def chkEq (P : Program) (τ : Tab) (T : TypeId) (d : TD) : Bool :=
  match d with
  | .stc fs => bif eqFlat τ 0 fs then !(P.stoodInHeld T) && !(P.eqGuardType P.depth T) && (P.fieldsOf T).toList.all fun f => f.name != "_" else true
  | _ => true
def chkOvlF (P : Program) (fn : Func) : Bool :=
  !(fn.name == "runtime.NumGoroutine") && fn.body.isNone && (Extern.findNext fn).isNone && (extLook fn fn.name).isNone && decide (fn.origin = "slices.overlaps") &&
    (match fn.params.toList, fn.resultTypes.toList with
      | [t1, t2], [_] => Nat.beq t1 t2 && (match P.underlying t1 with | some (.slice e) => (P.info? e).isSome | _ => false)
      | _, _ => false)
def chkOvl (P : Program) (d : TD) : Bool :=
  match d with
  | .ovl g => (match P.funcs[g]? with | some fn => chkOvlF P fn | none => false)
  | _ => true
theorem chkOvlF_ok {P : Program} {g : Nat} {fn : Func} (hf : P.funcs[g]? = some fn) (h : chkOvlF P fn = true) : OvlOk P g := by
  unfold chkOvlF at h
  simp only [Bool.and_eq_true] at h
  obtain ⟨⟨⟨⟨⟨h1, h2⟩, h3⟩, h4⟩, h5⟩, h6⟩ := h
  split at h6
  case h_2 => cases h6
  case h_1 t1 t2 t3 e1 e2 =>
  simp only [Bool.and_eq_true] at h6
  obtain ⟨h6, h7⟩ := h6
  have e3 := Nat.eq_of_beq_eq_true h6
  subst e3
  split at h7
  case h_2 => cases h7
  case h_1 e hu =>
  obtain ⟨i, hi⟩ := Option.isSome_iff_exists.1 h7
  exact ⟨fn, t1, t3, e, i, hf, by simpa using h1, h2, Option.isNone_iff_eq_none.1 h3, h4, of_decide_eq_true h5, by apply Array.ext'; simpa using e1, by apply Array.ext'; simpa using e2, hu, hi⟩
def chkMth (P : Program) (d : TD) : Bool :=
  match d with
  | .mth T m g => (match P.info? T, P.underlying T with
    | some i, some (.struct _) => (match i.methods.find? (·.name == m) with
      | some mm => mm.path.toList.isEmpty && (match mm.func with | some (f, false) => Nat.beq f g | _ => false)
      | none => false)
    | _, _ => false)
  | _ => true
def tabChk (P : Program) (τ : Tab) : Bool := τ.all fun r =>
  chkTD P r.1 r.2.1 && (match r.2.2 with | some t => chkTY P r.1 t | none => true) && chkArr P τ r.1 r.2.1 && chkFld P r.2.1 && chkPos τ r.2.1 && chkU8 P r.1 r.2.2 && chkEq P τ r.1 r.2.1 && chkOvl P r.2.1 && chkMth P r.2.1
theorem tget_mem {τ : Tab} {T : Nat} {v : TD × Option Ty} (h : tget τ T = some v) : (T, v) ∈ τ := by
  induction τ with
  | nil => cases h
  | cons p r ih =>
    obtain ⟨u, x⟩ := p
    simp only [tget] at h
    cases hb : Nat.beq u T with
    | true =>
      rw [hb] at h
      have := Option.some.inj h
      subst this
      rw [Nat.eq_of_beq_eq_true hb]
      exact List.mem_cons_self ..
    | false => rw [hb] at h; exact List.mem_cons_of_mem _ (ih h)
theorem tabOK_of {P : Program} {τ : Tab} (h : tabChk P τ = true) : TabOK P τ := by
  have all : ∀ T d ty, tget τ T = some (d, ty) → chkTD P T d = true ∧ (∀ t, ty = some t → chkTY P T t = true) ∧ chkArr P τ T d = true ∧ chkFld P d = true ∧ chkPos τ d = true ∧ chkU8 P T ty = true ∧ chkEq P τ T d = true ∧ chkOvl P d = true ∧ chkMth P d = true := by
    intro T d ty hm
    have := List.all_eq_true.1 h _ (tget_mem hm)
    simp only [Bool.and_eq_true] at this
    obtain ⟨⟨⟨⟨⟨⟨⟨⟨h1, h2⟩, h3⟩, h4⟩, h5⟩, h6⟩, h7⟩, h8⟩, h9⟩ := this
    exact ⟨h1, fun t ht => by rw [ht] at h2; exact h2, h3, h4, h5, h6, h7, h8, h9⟩
  have atd : ∀ T d, τ.td T = some d → ∃ ty, tget τ T = some (d, ty) := by
    intro T d hd
    unfold Tab.td at hd
    cases hg : tget τ T with
    | none => rw [hg] at hd; cases hd
    | some v => obtain ⟨d', ty⟩ := v; rw [hg] at hd; have := Option.some.inj hd; subst this; exact ⟨ty, rfl⟩
  have aty : ∀ T t, τ.ty T = some t → ∃ d, tget τ T = some (d, some t) := by
    intro T t ht
    unfold Tab.ty at ht
    cases hg : tget τ T with
    | none => rw [hg] at ht; cases ht
    | some v => obtain ⟨d, ty⟩ := v; rw [hg] at ht; have ht : ty = some t := ht; subst ht; exact ⟨d, rfl⟩
  refine ⟨fun T d hd => ?_, fun T t ht => ?_, fun T n eT e hd hte h1 => ?_, fun T fs hd f hf => ?_, fun K g hd => ?_, fun K T m g hd => ?_, fun T eT e hd hte => ?_, fun eT ht => ?_, fun T fs hd he => ?_⟩
  · obtain ⟨ty, hg⟩ := atd T d hd
    have := (all T d ty hg).1
    unfold chkTD at this
    split at this <;> first | (cases this; done) | skip
    all_goals rename_i hu
    · have e := ikCode_inj (Nat.eq_of_beq_eq_true this); subst e; exact hu
    · exact hu
    · exact hu
    · exact ⟨_, hu⟩
    · have e := Nat.eq_of_beq_eq_true this; subst e; exact hu
    · exact ⟨_, hu, nats2_eq this⟩
    · have e := Nat.eq_of_beq_eq_true this; subst e; exact hu
    · simp only [Bool.and_eq_true] at this
      have e := Nat.eq_of_beq_eq_true this.1; have e' := Nat.eq_of_beq_eq_true this.2; subst e; subst e'; exact hu
    · trivial
    · trivial
    · trivial
  · obtain ⟨d, hg⟩ := aty T t ht
    have := (all T d _ hg).2.1 t rfl
    unfold chkTY at this
    split at this
    case h_2 => cases this
    case h_1 i dd hi hu =>
    split at this
    case h_2 => cases this
    case h_1 z hz =>
    simp only [Bool.and_eq_true] at this
    obtain ⟨⟨⟨c1, c2⟩, c3⟩, c4⟩ := this
    refine ⟨⟨i, z, hi, Nat.eq_of_beq_eq_true c1, hz, zeroCells_eq c2, fun ha => ?_, nble_iff.1 c4⟩, fun ha => ?_, fun ha => ?_⟩
    · rw [ha] at c3
      simp only [cond_true, Bool.and_eq_true] at c3
      cases z <;> first | exact ⟨_, rfl⟩ | (cases c3.1; done)
    · rw [ha] at c3
      simp only [cond_true, Bool.and_eq_true] at c3
      cases dd <;> first | exact .inl ⟨_, hu⟩ | exact .inr ⟨_, _, hu⟩ | (cases c3.2; done)
    · rw [ha] at c3
      exact ⟨dd, hu, c3⟩
  · obtain ⟨ty, hg⟩ := atd T _ hd
    have := (all T _ ty hg).2.2.1
    simp only [chkArr, hte] at this
    rw [nbeq_iff.2 h1] at this
    simp only [cond_true] at this
    split at this
    case h_2 => cases this
    case h_1 i hi =>
    split at this
    case h_2 => cases this
    case h_1 z hz => exact ⟨i, z, hi, hz, zeroCells_eq this⟩
  · obtain ⟨ty, hg⟩ := atd T _ hd
    have := (all T _ ty hg).2.2.2.1
    simp only [chkFld, List.all_eq_true] at this
    exact Option.isSome_iff_exists.1 (this f hf)
  · obtain ⟨ty, hg⟩ := atd _ _ hd
    have := (all _ _ ty hg).2.2.2.2.2.2.2.1
    have h2 := this
    unfold chkOvl at h2
    simp only at h2
    split at h2
    case h_2 => cases h2
    case h_1 fn hfn => exact chkOvlF_ok hfn h2
  · obtain ⟨ty, hg⟩ := atd _ _ hd
    have := (all _ _ ty hg).2.2.2.2.2.2.2.2
    have h2 := this
    unfold chkMth at h2
    simp only at h2
    split at h2
    case h_2 => cases h2
    case h_1 i fs hi hu =>
    split at h2
    case h_2 => cases h2
    case h_1 mm hm =>
    simp only [Bool.and_eq_true] at h2
    obtain ⟨h3, h4⟩ := h2
    split at h4
    case h_2 => cases h4
    case h_1 f hf =>
    have e := Nat.eq_of_beq_eq_true h4
    subst e
    exact ⟨i, mm, fs, hi, hm, List.isEmpty_iff.1 h3, hf, hu⟩
  · obtain ⟨ty, hg⟩ := atd T _ hd
    have := (all T _ ty hg).2.2.2.2.1
    simp only [chkPos, hte] at this
    exact nble_iff.1 this
  · obtain ⟨d, hg⟩ := aty eT _ ht
    have := (all eT d _ hg).2.2.2.2.2.1
    simp only [chkU8, isU8, cond_true] at this
    split at this
    case h_2 => cases this
    case h_1 i hi =>
    simp only [Bool.and_eq_true] at this
    refine ⟨i, hi, Nat.eq_of_beq_eq_true this.1.1, Nat.eq_of_beq_eq_true this.1.2, ?_⟩
    have h2 := this.2
    split at h2
    case h_2 => cases h2
    case h_1 z hz =>
    rw [hz]
    unfold isZeroU8 at h2
    split at h2
    · rw [of_decide_eq_true h2]
    · cases h2
  · obtain ⟨ty, hg⟩ := atd T _ hd
    have := (all T _ ty hg).2.2.2.2.2.2.1
    simp only [chkEq, he, cond_true, Bool.and_eq_true, Bool.not_eq_true', List.all_eq_true] at this
    exact ⟨this.1.1, this.1.2, fun f hf => by have := this.2 f hf; simpa using this⟩
end Go.PE


set_option linter.unusedVariables false
namespace Go.PE
noncomputable def bodyOf (f : Func) : Code := match f.body with | some c => c | none => .skip
def codeAt : List Nat → Code → Code
  | [], c => c
  | d :: p, .seq a b => bif Nat.beq d 0 then codeAt p a else codeAt p b
  | d :: p, .cond _ a b => bif Nat.beq d 0 then codeAt p a else codeAt p b
  | _ :: p, .block _ b => codeAt p b
  | _ :: p, .loop b => codeAt p b
  | _, _ => .skip
def loopBody : Code → Code
  | .loop b => b
  | _ => .skip
noncomputable def ctxK {R : Type} (Γ : Ctx) (τ : Tab) (fi : Fi) (n : Nat) : List Nat → Code → List (Nat × List Nat) → (EX → St → Option R) → EX → St → Option R
  | [], _, _, K => K
  | d :: p, .seq a b, ls, K => bif Nat.beq d 0 then ctxK Γ τ fi n p a ls (fun e s => match e with
      | .normal => evCode Γ τ fi n b s K
      | e => K e s) else ctxK Γ τ fi n p b ls K
  | d :: p, .cond _ a b, ls, K => bif Nat.beq d 0 then ctxK Γ τ fi n p a ls K else ctxK Γ τ fi n p b ls K
  | _ :: p, .block id b, ls, K => ctxK Γ τ fi n p b ls (fun e s => match e with
      | .exit j => bif Nat.beq j id then K .normal s else K (.exit j) s
      | e => K e s)
  | _ :: p, .loop b, (m, ks) :: ls, K => ctxK Γ τ fi n p b ls (fun e s => match e with
      | .normal => (norm τ fi ks s).bind fun s' => evLoop (evCode Γ τ fi n b) (norm τ fi ks) m s' K
      | e => K e s)
  | _, _, _, K => K
noncomputable def finK (τ : Tab) (ps : List PK) (rs : List RK) (fn : Func) : EX → St → Option (RDs rs × ODs ps) := fun e s => match e with
  | .normal => finFn τ ps rs fn s
  | .ret => finFn τ ps rs fn s
  | .exit _ => none
noncomputable def atLoop (Γ : Ctx) (τ : Tab) (fi : Fi) (n : Nat) (ps : List PK) (rs : List RK) (fn : Func) (p : List Nat) (ls : List (Nat × List Nat)) (ks : List Nat) (m : Nat) (s : St) : Option (RDs rs × ODs ps) :=
  evLoop (evCode Γ τ fi n (loopBody (codeAt p (bodyOf fn)))) (norm τ fi ks) m s (ctxK Γ τ fi n p (bodyOf fn) ls (finK τ ps rs fn))
def fiB (ps : List PK) (fi : Fi) : Fi := { fi with keep := boxIdx 0 ps ++ fi.keep }
def iter {A : Type} (z : A) (F : A → A) : Nat → A
  | 0 => z
  | m + 1 => F (iter z F m)
def iterN {A : Type} (z : A) (F : Nat → A → A) : Nat → A
  | 0 => z
  | m + 1 => F m (iterN z F m)
theorem iter_succ {A : Type} (z : A) (F : A → A) (m : Nat) : iter z F (m + 1) = F (iter z F m) := rfl
def bothDec {R : Type} [DecidableEq R] (a b : Option R) : Option R := if a = b then a else none
theorem bothEq_dec {R : Type} [DecidableEq R] : (bothEq : Option R → Option R → Option R) = bothDec := by
  funext a b
  unfold bothDec
  split
  · rename_i h; exact bothEq_of h
  · rename_i h
    unfold bothEq
    split
    · contradiction
    · rfl
theorem bothDec_same {R : Type} [DecidableEq R] (a : Option R) : bothDec a a = a := if_pos rfl
theorem gnil {τ : TypeId → Option Ty} {P : Program} : GoodΓ τ P [] := fun f e h => by cases h
theorem gmark {τ : TypeId → Option Ty} {P : Program} {f : FuncId} {fn : Func} (hf : P.funcs[f]? = some fn) (hnm : (fn.name == "runtime.NumGoroutine") = false) (hnb : fn.body.isNone = false) : Good τ P f markE :=
  ⟨⟨fn, hf, hnm, hnb⟩, fun _ _ _ _ _ _ _ _ _ _ h => by cases h⟩
theorem gcons {τ : TypeId → Option Ty} {P : Program} {n : Nat} {e : Ent} {Γ : Ctx} (h : Good τ P n e) (hΓ : GoodΓ τ P Γ) : GoodΓ τ P ((n, e) :: Γ) := by
  intro f e' hf
  simp only [eget] at hf
  cases hb : Nat.beq n f with
  | true =>
    rw [hb] at hf
    have h1 := Option.some.inj hf
    subst h1
    have h2 := Nat.eq_of_beq_eq_true hb
    subst h2
    exact h
  | false => rw [hb] at hf; exact hΓ f e' hf
end Go.PE


set_option linter.unusedVariables false
set_option linter.unusedSimpArgs false
namespace Go.PE
open Go.RowKit
def wfTy : (t : Ty) → t.den → Prop
  | .int k, n => (Lit.int k n).wf = true
  | .bool, _ => True
  | .str, (s : ByteArray) => s.size ≤ maxLen
  | .ifc, _ => True
  | .sl _ e, (xs : List e.den) => xs.length ≤ maxLen ∧ ∀ x ∈ xs, wfTy e x
  | .pair a b, x => wfTy a x.1 ∧ wfTy b x.2
  | .unit, _ => True
def wfPs : (ps : List PK) → PDs ps → Prop
  | [], _ => True
  | .val t :: r, x => wfTy t x.1 ∧ wfPs r x.2
  | _ :: r, x => wfPs r x.2
def tyIs (τ : Tab) (T : TypeId) (t : Ty) : Bool := match τ.ty T with | some t' => Ty.beq t' t | none => false
theorem tyIs_eq {τ : Tab} {T : TypeId} {t : Ty} (h : tyIs τ T t = true) : τ.ty T = some t := by
  unfold tyIs at h
  split at h
  · rename_i e; rw [e, Ty.eq_of_beq h]
  · cases h
def rfit (τ : Tab) : Nat → TypeId → Ty → Bool
  | 0, _, _ => false
  | n + 1, T, t =>
    match τ.td T, t with
    | some (.int k), .int k' => Nat.beq (ikCode k) (ikCode k')
    | some .bool, .bool => true
    | some .str, .str => true
    | some (.slc e), .sl e' te => Nat.beq e e' && tyIs τ e te && rfit τ n e te
    | some (.stc fs), t => t.isAgg && rfs (rfit τ n) (tyIs τ) fs t 0
    | _, _ => false
where rfs (g h : TypeId → Ty → Bool) : List (TypeId × Nat) → Ty → Nat → Bool
  | [], .unit, _ => true
  | [f], .pair a .unit, o => Nat.beq f.2 o && g f.1 a && h f.1 a
  | [f], t, o => Nat.beq f.2 o && g f.1 t && h f.1 t
  | f :: r, .pair a b, o => Nat.beq f.2 o && g f.1 a && h f.1 a && rfs g h r b (o + a.cells)
  | _, _, _ => false
section
variable {P : Program} {tab : Tab} {H : Type} {enc : TypeId × Value → H} {w : World} {base : Nat} {spare : Nat → Bool} {held : Bool}
theorem all_some {A B : Type} {f : A → Option B} : ∀ {l : List A} {r : List B}, l.mapM f = some r → ∀ x ∈ l, ∃ y, f x = some y := by
  intro l
  induction l with
  | nil => intro r _ x hx; cases hx
  | cons a q ih =>
    intro r h x hx
    simp only [List.mapM_cons, Option.bind_eq_bind, Option.pure_def, Option.bind_eq_some_iff] at h
    obtain ⟨y, hy, z, hz, _⟩ := h
    rcases List.mem_cons.1 hx with rfl | hx
    · exact ⟨y, hy⟩
    · exact ih hz x hx
theorem cellsOf_ty (hT : TabOK P tab) {T : TypeId} {t : Ty} (h : tab.ty T = some t) : P.cellsOf T = t.cells := by
  obtain ⟨i, z, h1, h2, _⟩ := (hT.ty T t h).info
  simp [Program.cellsOf, h1, h2]
theorem getD_list {α : Type} {xs : List α} {i : Nat} {d x : α} (h : xs[i]? = some x) : List.getD xs i d = x := by
  rw [List.getD_eq_getElem?_getD, h]; rfl
theorem choose_list {α : Type} {p : Nat → α → Prop} : ∀ (n : Nat), (∀ i, i < n → ∃ x, p i x) → ∃ l : List α, l.length = n ∧ ∀ i x, l[i]? = some x → p i x := by
  intro n
  induction n with
  | zero => intro _; exact ⟨[], rfl, fun i x h => by simp at h⟩
  | succ n ih =>
    intro h
    obtain ⟨l, hl, hp⟩ := ih fun i hi => h i (by omega)
    obtain ⟨x, hx⟩ := h n (by omega)
    refine ⟨l ++ [x], by simp [hl], fun i y hy => ?_⟩
    by_cases hi : i < l.length
    · rw [List.getElem?_append_left hi] at hy; exact hp i y hy
    · rw [List.getElem?_append_right (by omega)] at hy
      have : i - l.length = 0 := by
        have := (List.getElem?_eq_some_iff.1 hy).1
        simp at this; omega
      rw [this] at hy
      have e : i = n := by omega
      simp at hy
      subst hy; subst e; exact hx
theorem open_fs (hT : TabOK P tab) {n m : Nat} (ih : ∀ T t cs x, rfit tab n T t = true → tab.ty T = some t → DataW.trod enc P w base spare held m T cs = some x → ∃ y : t.den, Rep tab.ty (fun k => k < w.heap.size) w t y cs ∧ wfTy t y)
    (cs : List Value) : ∀ (fs : List (TypeId × Nat)) (t : Ty) (o : Nat), rfit.rfs (rfit tab n) (tyIs tab) fs t o = true →
    (∀ f ∈ fs, ∃ x, DataW.trod enc P w base spare held m f.1 ((cs.drop f.2).take (P.cellsOf f.1)) = some x) → cs.length = o + t.cells →
    ∃ y : t.den, Rep tab.ty (fun k => k < w.heap.size) w t y (cs.drop o) ∧ wfTy t y := by
  have one : ∀ (f : TypeId × Nat) (t : Ty) (o : Nat), (Nat.beq f.2 o && rfit tab n f.1 t && tyIs tab f.1 t) = true →
      (∃ x, DataW.trod enc P w base spare held m f.1 ((cs.drop f.2).take (P.cellsOf f.1)) = some x) → ∃ y : t.den, Rep tab.ty (fun k => k < w.heap.size) w t y ((cs.drop o).take t.cells) ∧ wfTy t y := by
    intro f t o h hx
    simp only [Bool.and_eq_true] at h
    obtain ⟨⟨h1, h2⟩, h3⟩ := h
    obtain ⟨x, hx⟩ := hx
    have ht := tyIs_eq h3
    rw [cellsOf_ty hT ht, Nat.eq_of_beq_eq_true h1] at hx
    exact ih _ _ _ _ h2 ht hx
  intro fs
  induction fs with
  | nil =>
    intro t o h _ hl
    cases t with
    | unit =>
      refine ⟨(), ?_, trivial⟩
      have : cs.drop o = [] := List.drop_eq_nil_of_le (by simp [hl, Ty.cells])
      rw [this]; rfl
    | _ => simp [rfit.rfs] at h
  | cons f r ihr =>
    intro t o h hx hl
    have last : ∀ t, r = [] → cs.length = o + t.cells → (Nat.beq f.2 o && rfit tab n f.1 t && tyIs tab f.1 t) = true → ∃ y : t.den, Rep tab.ty (fun k => k < w.heap.size) w t y (cs.drop o) ∧ wfTy t y := by
      intro t hr hl h
      obtain ⟨y, h1, h2⟩ := one f t o h (hx f (List.mem_cons_self ..))
      refine ⟨y, ?_, h2⟩
      rwa [List.take_of_length_le (by rw [List.length_drop]; omega)] at h1
    have more : ∀ a b, cs.length = o + (a.cells + b.cells) → (Nat.beq f.2 o && rfit tab n f.1 a && tyIs tab f.1 a && rfit.rfs (rfit tab n) (tyIs tab) r b (o + a.cells)) = true →
        ∃ y : (Ty.pair a b).den, Rep tab.ty (fun k => k < w.heap.size) w (.pair a b) y (cs.drop o) ∧ wfTy (.pair a b) y := by
      intro a b hl h
      rw [Bool.and_eq_true] at h
      obtain ⟨y, h1, h2⟩ := one f a o h.1 (hx f (List.mem_cons_self ..))
      obtain ⟨z, h3, h4⟩ := ihr b (o + a.cells) h.2 (fun g hg => hx g (List.mem_cons_of_mem _ hg)) (by omega)
      refine ⟨(y, z), ⟨_, _, ?_, h1, h3⟩, h2, h4⟩
      rw [← List.drop_drop]
      exact (List.take_append_drop _ _).symm
    cases r with
    | nil =>
      cases t with
      | pair a b =>
        cases b with
        | unit =>
          simp only [rfit.rfs] at h
          simp only [Ty.cells, Nat.add_zero] at hl
          obtain ⟨y, h1, h2⟩ := last a rfl hl h
          refine ⟨(y, ()), ⟨_, [], ?_, h1, rfl⟩, h2, trivial⟩
          simp
        | _ => exact last _ rfl hl (by simpa only [rfit.rfs] using h)
      | _ => exact last _ rfl hl (by simpa only [rfit.rfs] using h)
    | cons g r' =>
      cases t with
      | pair a b =>
        simp only [rfit.rfs] at h
        exact more a b (by simpa [Ty.cells] using hl) h
      | _ => simp [rfit.rfs] at h
theorem open_rep (hT : TabOK P tab) : ∀ (n : Nat) (T : TypeId) (t : Ty) (m : Nat) (cs : List Value) (x : DataW H × List MemPlace), rfit tab n T t = true → tab.ty T = some t →
    DataW.trod enc P w base spare held m T cs = some x → ∃ y : t.den, Rep tab.ty (fun k => k < w.heap.size) w t y cs ∧ wfTy t y := by
  intro n
  induction n with
  | zero => intro T t m cs x h; cases h
  | succ n ih =>
    intro T t m cs x h ht hx
    cases m with
    | zero => simp [DataW.trod] at hx
    | succ m =>
    unfold rfit at h
    split at h
    · rename_i k k' htd
      have hu : P.underlying T = some (.int k) := hT.td T _ htd
      obtain rfl := ikCode_inj (Nat.eq_of_beq_eq_true h)
      unfold DataW.trod at hx
      rw [hu] at hx
      split at hx <;> simp_all
      obtain ⟨⟨e, hw⟩, _⟩ := hx
      subst_vars
      exact ⟨_, rfl, hw⟩
    · rename_i htd
      have hu : P.underlying T = some .bool := hT.td T _ htd
      unfold DataW.trod at hx
      rw [hu] at hx
      split at hx <;> simp_all
      exact ⟨_, rfl, trivial⟩
    · rename_i htd
      have hu : P.underlying T = some .string := hT.td T _ htd
      unfold DataW.trod at hx
      rw [hu] at hx
      split at hx <;> simp_all
      exact ⟨_, rfl, hx.1⟩
    · rename_i e e' te htd
      have hu : P.underlying T = some (.slice e) := hT.td T _ htd
      simp only [Bool.and_eq_true] at h
      obtain ⟨⟨h1, h2⟩, h3⟩ := h
      obtain rfl := Nat.eq_of_beq_eq_true h1
      have hte := tyIs_eq h2
      · have hpos := hT.pos T e te htd hte
        have hc := cellsOf_ty hT hte
        rcases DataW.trod_slice hu hx with ⟨rfl, _⟩ | ⟨a, len, cap, elems, rest, q, _, rfl, _, hb, hl, hm, hlen, hel, _, _⟩
        · exact ⟨[], ⟨none, 0, rfl, Nat.le_refl _, by unfold maxLen; decide, fun h0 => absurd h0 (by simp)⟩, by simp [maxLen], fun x hx => by cases hx⟩
        · have each : ∀ i, i < len → ∃ y : te.den, (∃ ce, (w.cells? base (a.add (i * te.cells)) te.cells) = some ce ∧ Rep tab.ty (fun k => k < w.heap.size) w te y ce) ∧ wfTy te y := by
            intro i hi
            have := hel i hi
            rw [List.getElem?_eq_getElem (by omega), Option.bind_eq_some_iff] at this
            obtain ⟨ce, hce, hz⟩ := this
            obtain ⟨y, hy, hwf⟩ := ih e te q ce _ h3 hte hz
            exact ⟨y, ⟨ce, by rw [← hc]; exact hce, hy⟩, hwf⟩
          obtain ⟨xs, hxl, hxs⟩ := choose_list len each
          have cellsr : ∀ (b : Addr) (k : Nat) (ce : List Value), w.cells? base b k = some ce → ce.length = k ∧ ∀ j, j < k → w.cell? (b.add j) = some (ce.getD j undef) := by
            intro b k ce hce
            unfold World.cells? at hce
            split at hce
            · have hlen : ∀ (l : List Nat) (r : List Value), l.mapM (fun i => w.cell? (b.add i)) = some r → r.length = l.length ∧ ∀ j, j < l.length → w.cell? (b.add (l.getD j 0)) = some (r.getD j undef) := by
                intro l
                induction l with
                | nil => intro r hr; simp at hr; subst hr; exact ⟨rfl, fun j hj => by simp at hj⟩
                | cons p l ih2 =>
                  intro r hr
                  simp only [List.mapM_cons, Option.bind_eq_bind, Option.pure_def, Option.bind_eq_some_iff] at hr
                  obtain ⟨y, hy, z, hz, e⟩ := hr
                  have e := Option.some.inj e
                  subst e
                  obtain ⟨i1, i2⟩ := ih2 z hz
                  refine ⟨by simp [i1], fun j hj => ?_⟩
                  cases j with
                  | zero => simpa using hy
                  | succ j => simpa using i2 j (by simpa using hj)
              obtain ⟨l1, l2⟩ := hlen _ _ hce
              simp at l1
              refine ⟨l1, fun j hj => ?_⟩
              have := l2 j (by simpa using hj)
              rwa [getD_list (x := j) (by simp [hj])] at this
            · cases hce
          refine ⟨xs, ⟨some a, cap, by rw [hxl], by omega, hm, fun h0 => ?_⟩, by rw [hxl]; exact Nat.le_trans hl hm, fun x hx => ?_⟩
          · have h00 : 0 < len := by omega
            obtain ⟨y0, ⟨ce0, hce0, _⟩, _⟩ := each 0 h00
            have hz := (cellsr _ _ _ hce0).2 0 hpos
            have ea : (a.add (0 * te.cells)).add 0 = a := by simp [Addr.add]
            rw [ea] at hz
            obtain ⟨b, o, s⟩ := a
            have hs : s = none := by
              unfold World.cell? at hz
              split at hz
              · split at hz
                · cases hz
                · rename_i hsn; simpa using hsn
              · cases hz
            subst hs
            have hbl : b < w.heap.size := by
              unfold World.cell? at hz
              split at hz
              · rename_i hh; exact (Array.getElem?_eq_some_iff.1 hh).1
              · cases hz
            refine ⟨b, o, rfl, hbl, hbl, fun i hi => ?_⟩
            have hi' : i < len := by rw [← hxl]; exact hi
            have hgi : xs[i]? = some (xs[i]'hi) := List.getElem?_eq_getElem hi
            obtain ⟨⟨ce, hce, hr⟩, _⟩ := hxs i _ hgi
            obtain ⟨c1, c2⟩ := cellsr _ _ _ hce
            refine ⟨ce, c1, fun j hj => ?_, ?_⟩
            · have := c2 j (by omega)
              rwa [addr_add, addr_add] at this
            · rw [getD_list hgi]; exact hr
          · obtain ⟨i, hi⟩ := List.getElem?_of_mem hx
            exact (hxs i x hi).2
    · rename_i fs htd
      obtain ⟨gs, hu, hgs⟩ : ∃ gs : Array Field, P.underlying T = some (.struct gs) ∧ (gs.toList.map fun g => (g.type, g.offset)) = fs := hT.td T _ htd
      rw [Bool.and_eq_true] at h
      unfold DataW.trod at hx
      rw [hu] at hx
      simp only at hx
      split at hx
      · rename_i hlen
        rw [Option.map_eq_some_iff] at hx
        obtain ⟨r, hr, _⟩ := hx
        have hall := all_some hr
        rw [cellsOf_ty hT ht] at hlen
        have := open_fs hT (fun T t cs x h1 h2 h3 => ih T t m cs x h1 h2 h3) cs fs _ 0 h.2 (fun f hf => by
          rw [← hgs] at hf
          obtain ⟨g, hg, rfl⟩ := List.mem_map.1 hf
          exact hall g hg) (by rw [hlen]; omega)
        simpa using this
      · cases hx
    · cases h
theorem trod_vrep (hT : TabOK P tab) {n : Nat} {T : TypeId} {t : Ty} {v : Value} {d : DataW H} {ps : List MemPlace} {r : Reach} {b0 : Nat} (h : rfit tab n T t = true) (ht : tab.ty T = some t)
    (hok : Value.okWide P w r b0 T v) (hx : DataW.Trod enc P w base spare held T v d ps) : ∃ y : t.den, VRep tab.ty (fun k => k < w.heap.size) w t y v ∧ wfTy t y := by
  obtain ⟨m, hm⟩ := hx
  obtain ⟨y, hy, hwf⟩ := open_rep hT n T t m _ _ h ht hm
  refine ⟨y, ?_, hwf⟩
  cases ha : t.isAgg with
  | true =>
    refine .inl ⟨ha, ?_⟩
    have : ∃ cs, v = .agg cs := by
      unfold Value.okWide at hok
      rcases (hT.ty T t ht).agg ha with ⟨fs, hu⟩ | ⟨n, e, hu⟩
      · rw [hu] at hok; obtain ⟨cs, h, _⟩ := hok; exact ⟨cs, h⟩
      · rw [hu] at hok; obtain ⟨cs, h, _⟩ := hok; exact ⟨cs, h⟩
    obtain ⟨cs, rfl⟩ := this
    exact ⟨cs.toList, by simp, hy⟩
  | false =>
    refine .inr ⟨ha, ?_⟩
    have : ∀ cs, v ≠ .agg cs := by
      intro cs hv
      subst hv
      obtain ⟨d, hu, hd⟩ := (hT.ty T t ht).one ha
      unfold Value.okWide at hok
      rw [hu] at hok
      cases d <;> simp_all [Cell.okWide, Cell.ok, notAgg]
    have e : v.cells.toList = [v] := by
      cases v <;> first | rfl | exact absurd rfl (this _)
    rw [e] at hy
    exact hy
def fitPs (τ : Tab) : List TypeId → List PK → Bool
  | [], [] => true
  | T :: r, .val t :: q => rfit τ 9 T t && tyIs τ T t && fitPs τ r q
  | _, _ => false
theorem open_all (hT : TabOK P tab) {r : Reach} {b0 : Nat} : ∀ (ts : List TypeId) (ks : List PK) (vs : List Value) (ds : List (DataW H)) (ps : List MemPlace), fitPs tab ts ks = true →
    (∀ (j : Nat) T v, ts[j]? = some T → vs[j]? = some v → Value.okWide P w r b0 T v) → DataW.TrodAll enc P w base spare held ts vs ds ps →
    ∃ x : PDs ks, ArgsRel tab.ty P (fun k => k < w.heap.size) w ks x vs [] ∧ wfPs ks x := by
  intro ts
  induction ts with
  | nil =>
    intro ks vs ds ps hf _ h
    cases ks with
    | cons _ _ => simp [fitPs] at hf
    | nil =>
      cases vs with
      | nil => exact ⟨(), ⟨rfl, rfl⟩, trivial⟩
      | cons _ _ => cases ds <;> simp [DataW.TrodAll] at h
  | cons T r' ih =>
    intro ks vs ds ps hf hok h
    cases vs with
    | nil => cases ds <;> simp [DataW.TrodAll] at h
    | cons v vs =>
      cases ds with
      | nil => simp [DataW.TrodAll] at h
      | cons d ds =>
        obtain ⟨p, q, h1, h2, _⟩ := h
        cases ks with
        | nil => simp [fitPs] at hf
        | cons k ks =>
          cases k with
          | val t =>
            simp only [fitPs, Bool.and_eq_true] at hf
            obtain ⟨⟨f1, f2⟩, f3⟩ := hf
            have ht := tyIs_eq f2
            · obtain ⟨y, hy, hwf⟩ := trod_vrep hT f1 ht (hok 0 T v rfl rfl) h1
              obtain ⟨z, hz, hwz⟩ := ih ks vs ds q f3 (fun j T v a b => hok (j + 1) T v a b) h2
              exact ⟨(y, z), ⟨v, vs, [], [], rfl, rfl, ⟨hy, rfl⟩, hz⟩, hwf, hwz⟩
          | _ => simp [fitPs] at hf
theorem Fr.lower {w w' : World} {X : Nat → Prop} (h : Fr X w w') (hX : ∀ k, ¬ X k) : Below w.heap.size w w' :=
  ⟨h.1, h.2.1, h.2.2.1, h.2.2.2.1, fun k hk => h.2.2.2.2 k hk (hX k)⟩
def rdOk (P : Program) (ts : List TypeId) : Bool := ts.all fun T => P.readableRec T && decide (T < P.types.size)
theorem reread (hl : laidOutB P = true) {W W' : World} (hb : Below W.heap.size W W') : ∀ (ts : List TypeId) (vs : List Value) (ds : List (DataW H)) (ps : List MemPlace), rdOk P ts = true →
    (∀ p ∈ ps, p.block < W.heap.size) → DataW.TrodAll enc P W 0 (fun _ => true) true ts vs ds ps → DataW.TrodAll enc P W' 0 (fun b => decide (b < W.heap.size)) true ts vs ds ps := by
  intro ts
  induction ts with
  | nil => intro vs ds ps _ _ h; cases vs <;> cases ds <;> exact h
  | cons T r ih =>
    intro vs ds ps hr hlt h
    cases vs with
    | nil => cases ds <;> exact h
    | cons v vs =>
      cases ds with
      | nil => exact h
      | cons d ds =>
        obtain ⟨p, q, h1, h2, rfl⟩ := h
        simp only [rdOk, List.all_cons, Bool.and_eq_true, decide_eq_true_eq] at hr
        exact ⟨p, q, Below.trod hl hr.1.1 hr.1.2 h1 hb (fun x hx => hlt x (List.mem_append_left _ hx)),
          ih vs ds q (by simpa [rdOk] using hr.2) (fun x hx => hlt x (List.mem_append_right _ hx)) h2, rfl⟩
theorem kept_below {w w' : World} {may : MemPlace → Prop} (h : Below w.heap.size w w') : w.keptBut w' may := by
  refine ⟨h.os, h.output, fun i hi => ?_⟩
  rw [h.block i hi]
  split
  · rename_i e1 e2
    rw [e1] at e2
    cases e2
    exact ⟨rfl, rfl, rfl, fun _ _ => rfl⟩
  · rename_i e1 e2
    rw [e1] at e2
    cases e2
    exact Or.inr ⟨rfl, rfl⟩
  · rfl
theorem law_calls (hT : TabOK P tab) (hl : laidOutB P = true) {f : FuncId} {fn : Func} {ks : List PK} {TB : TypeId} {apart fresh handsOn : Bool} {s : ChangeSpec}
    {G : PDs ks → Option (RDs [⟨.bool, [false], none⟩] × ODs ks)} (good : Good tab.ty P f ⟨ks, [⟨.bool, [false], none⟩], G⟩) (hfit : fitPs tab fn.params.toList ks = true) (hrd : rdOk P fn.params.toList = true)
    (hsz : fn.resultTypes = #[TB]) (hTB : P.underlying TB = some .bool) (hvars : s.vars = [])
    (hs : ∀ ds : List (DataW H), ds.length = fn.params.toList.length → (s.fn H ds).results = [.lit (.bool true)] ∧ (s.fn H ds).args = ds ∧ (s.fn H ds).vars = [])
    (hG : ∀ x, wfPs ks x → ∃ o, G x = some ((true, ()), o))
    {W : World} {b0 : Nat} {args : Array Value} {ds gs : List (DataW H)} {before : List MemPlace}
    (hok : ∀ (j : Nat) t v, fn.params[j]? = some t → args[j]? = some v → Value.okWide P W .any b0 t v)
    (hW : DataW.Whole enc P fn.params.toList s.vars apart W args.toList ds gs before) :
    Calls P f args W fun e W' => ∃ v, e = .returned v ∧ s.post enc P fn apart fresh handsOn false W args v W' := by
  have hW' := hW
  obtain ⟨p, q, hA, hV, rfl, hfz, hnd⟩ := hW
  rw [hvars] at hV
  obtain ⟨rfl, rfl⟩ := Go.ChangeShapes.trodVars_none hV
  obtain ⟨x, hx, hwf⟩ := open_all hT fn.params.toList ks args.toList ds p hfit (fun j t v a b => hok j t v (by simpa using a) (by simpa using b)) hA
  obtain ⟨o, ho⟩ := hG x hwf
  have hc := good.2 W (fun k => k < W.heap.size) x args.toList [] ((true, ()), o) (fun _ h => h) hx List.nodup_nil (fun k hk => by cases hk) ho
  rw [show args.toList.toArray = args from by simp] at hc
  refine hc.mono fun e W' => ?_
  rintro ⟨vs, S', B1, B2, he, hres, _, _, _, _, _, hfr⟩
  have hb := hfr.lower (fun k hk => by cases hk)
  obtain ⟨v, vr, C1, C2, rfl, _, hr, hr2, _⟩ := hres
  subst hr2
  obtain ⟨cs, _, hcs, hown⟩ := hr
  have hcs := hcs rfl
  subst hcs
  obtain ⟨c, cr, D1, D2, e1, _, hleaf, e2, _⟩ := hown
  subst e2
  cases e1
  obtain ⟨hrep, _⟩ := hleaf
  have hv : v = .bool true := by
    have : ([v] : List Value) = [.bool true] := hrep
    exact List.head_eq_of_cons_eq this
  subst hv
  have hlen : ds.length = fn.params.toList.length := by
    have : ∀ (ts : List TypeId) (vs : List Value) (ds : List (DataW H)) (ps : List MemPlace), DataW.TrodAll enc P W 0 (fun _ => true) true ts vs ds ps → ds.length = ts.length := by
      intro ts
      induction ts with
      | nil => intro vs ds ps h; cases vs <;> cases ds <;> first | rfl | (simp [DataW.TrodAll] at h)
      | cons T r ih =>
        intro vs ds ps h
        cases vs with
        | nil => cases ds <;> simp [DataW.TrodAll] at h
        | cons v vs =>
          cases ds with
          | nil => simp [DataW.TrodAll] at h
          | cons d ds => obtain ⟨p, q, _, h2, _⟩ := h; simp [ih vs ds q h2]
    exact this _ _ _ _ hA
  obtain ⟨s1, s2, s3⟩ := hs ds hlen
  have hlt : ∀ y ∈ p, y.block < W.heap.size := fun y hy => hW'.lt y (by simpa using hy)
  refine ⟨_, he, ds, [], p ++ [], [], p, [], hW', ?_, ?_, ?_, kept_below hb, fun h => by cases h⟩
  · rw [hsz, List.append_nil, s1]
    show DataW.TrodAll _ _ _ _ _ _ [TB] [Value.bool true] _ _
    refine ⟨[], [], ⟨1, ?_⟩, rfl, rfl⟩
    show DataW.trod enc P W' _ _ _ 1 TB [Value.bool true] = _
    unfold DataW.trod
    rw [hTB]
  · rw [List.append_nil, s2]
    exact reread hl hb _ _ _ _ hrd hlt hA
  · rw [List.append_nil, s3, hvars]
    rfl
end
end Go.PE


set_option linter.unusedVariables false
set_option linter.unusedSimpArgs false
set_option maxRecDepth 100000
namespace Go.PE
def insertC {α : Type} (z : α) (c : Nat) (s_0 : List α) (i_1 : Int) (v_2 : List α) : Option (((List α) × Unit) × Unit) :=
 bif (decide (0 ≤ i_1) && decide (i_1 ≤ ((s_0.length : Nat) : Int))) && decide (((s_0.length : Nat) : Int) ≤ ((((List.map some s_0 ++ List.replicate c none).length) - 0 : Nat) : Int)) then
  bif (v_2.length : Int) == 0 then
   bif Nat.ble s_0.length ((List.map some s_0 ++ List.replicate c none).length) then
    Option.bind (allSome (List.take s_0.length (List.map some s_0 ++ List.replicate c none))) fun (z1 : List α) =>
    some ((z1, ()), ())
   else none
  else
  bif i_1 == ((s_0.length : Nat) : Int) then
   bif Nat.ble (0 + s_0.length) ((List.map some s_0 ++ List.replicate c none).length) then
    bif Nat.ble (s_0.length + v_2.length) ((List.map some s_0 ++ List.replicate c none).length) then
     bif Nat.ble (s_0.length + v_2.length) ((writeAt (List.map some s_0 ++ List.replicate c none) s_0.length v_2).length) then
      Option.bind (allSome (List.take (s_0.length + v_2.length) (writeAt (List.map some s_0 ++ List.replicate c none) s_0.length v_2))) fun (z2 : List α) =>
      some ((z2, ()), ())
     else none
    else
    bif Nat.ble (s_0.length + v_2.length) 1073741824 then
     Option.bind (allSome (List.take s_0.length (List.map some s_0 ++ List.replicate c none))) fun (z3 : List α) =>
     some ((z3 ++ v_2, ()), ())
    else none
   else none
  else
  bif Nat.ble (0 + s_0.length) ((List.map some s_0 ++ List.replicate c none).length) then
   bif decide (IntKind.wrap .i64 (((s_0.length : Nat) : Int) + (v_2.length : Int)) > ((((List.map some s_0 ++ List.replicate c none).length) - 0 : Nat) : Int)) then
    bif decide (0 ≤ i_1) && decide (i_1 ≤ ((((List.map some s_0 ++ List.replicate c none).length) - 0 : Nat) : Int)) then
     bif Nat.ble (0 + ((i_1 - 0).toNat)) ((List.map some s_0 ++ List.replicate c none).length) then
      bif decide (0 < IntKind.wrap .i64 ((IntKind.wrap .i64 (((s_0.length : Nat) : Int) + (v_2.length : Int))) - i_1)) && true && Nat.blt ((List.map some s_0 ++ List.replicate c none).length) (((i_1 - 0).toNat) + ((List.replicate ((IntKind.wrap .i64 ((IntKind.wrap .i64 (((s_0.length : Nat) : Int) + (v_2.length : Int))) - i_1)).toNat) z).length)) && Nat.ble (((List.map some s_0 ++ List.replicate c none).length) + ((List.replicate ((IntKind.wrap .i64 ((IntKind.wrap .i64 (((s_0.length : Nat) : Int) + (v_2.length : Int))) - i_1)).toNat) z).length)) 536870912 then
       bif (decide (0 ≤ i_1) && decide (i_1 ≤ ((((i_1 - 0).toNat) + ((List.replicate ((IntKind.wrap .i64 ((IntKind.wrap .i64 (((s_0.length : Nat) : Int) + (v_2.length : Int))) - i_1)).toNat) z).length) : Nat) : Int))) && decide (((((i_1 - 0).toNat) + ((List.replicate ((IntKind.wrap .i64 ((IntKind.wrap .i64 (((s_0.length : Nat) : Int) + (v_2.length : Int))) - i_1)).toNat) z).length) : Nat) : Int) ≤ ((((List.take ((i_1 - 0).toNat) (List.map some s_0 ++ List.replicate c none) ++ List.map some (List.replicate ((IntKind.wrap .i64 ((IntKind.wrap .i64 (((s_0.length : Nat) : Int) + (v_2.length : Int))) - i_1)).toNat) z)).length) - 0 : Nat) : Int)) then
        bif Nat.ble ((0 + i_1.toNat) + ((((((i_1 - 0).toNat) + ((List.replicate ((IntKind.wrap .i64 ((IntKind.wrap .i64 (((s_0.length : Nat) : Int) + (v_2.length : Int))) - i_1)).toNat) z).length) : Nat) : Int) - i_1).toNat)) ((List.take ((i_1 - 0).toNat) (List.map some s_0 ++ List.replicate c none) ++ List.map some (List.replicate ((IntKind.wrap .i64 ((IntKind.wrap .i64 (((s_0.length : Nat) : Int) + (v_2.length : Int))) - i_1)).toNat) z)).length) then
         bif (decide (0 ≤ IntKind.wrap .i64 (i_1 + (v_2.length : Int))) && decide (IntKind.wrap .i64 (i_1 + (v_2.length : Int)) ≤ ((((i_1 - 0).toNat) + ((List.replicate ((IntKind.wrap .i64 ((IntKind.wrap .i64 (((s_0.length : Nat) : Int) + (v_2.length : Int))) - i_1)).toNat) z).length) : Nat) : Int))) && decide (((((i_1 - 0).toNat) + ((List.replicate ((IntKind.wrap .i64 ((IntKind.wrap .i64 (((s_0.length : Nat) : Int) + (v_2.length : Int))) - i_1)).toNat) z).length) : Nat) : Int) ≤ ((((writeAt (List.take ((i_1 - 0).toNat) (List.map some s_0 ++ List.replicate c none) ++ List.map some (List.replicate ((IntKind.wrap .i64 ((IntKind.wrap .i64 (((s_0.length : Nat) : Int) + (v_2.length : Int))) - i_1)).toNat) z)) (0 + i_1.toNat) (List.take ((((((i_1 - 0).toNat) + ((List.replicate ((IntKind.wrap .i64 ((IntKind.wrap .i64 (((s_0.length : Nat) : Int) + (v_2.length : Int))) - i_1)).toNat) z).length) : Nat) : Int) - i_1).toNat) v_2)).length) - 0 : Nat) : Int)) then
          bif (decide (0 ≤ i_1) && decide (i_1 ≤ ((s_0.length : Nat) : Int))) && decide (((s_0.length : Nat) : Int) ≤ ((((List.map some s_0 ++ List.replicate c none).length) - 0 : Nat) : Int)) then
           bif Nat.ble ((0 + ((IntKind.wrap .i64 (i_1 + (v_2.length : Int))).toNat)) + ((((((i_1 - 0).toNat) + ((List.replicate ((IntKind.wrap .i64 ((IntKind.wrap .i64 (((s_0.length : Nat) : Int) + (v_2.length : Int))) - i_1)).toNat) z).length) : Nat) : Int) - (IntKind.wrap .i64 (i_1 + (v_2.length : Int)))).toNat)) ((writeAt (List.take ((i_1 - 0).toNat) (List.map some s_0 ++ List.replicate c none) ++ List.map some (List.replicate ((IntKind.wrap .i64 ((IntKind.wrap .i64 (((s_0.length : Nat) : Int) + (v_2.length : Int))) - i_1)).toNat) z)) (0 + i_1.toNat) (List.take ((((((i_1 - 0).toNat) + ((List.replicate ((IntKind.wrap .i64 ((IntKind.wrap .i64 (((s_0.length : Nat) : Int) + (v_2.length : Int))) - i_1)).toNat) z).length) : Nat) : Int) - i_1).toNat) v_2)).length) then
            bif Nat.ble ((0 + i_1.toNat) + ((((s_0.length : Nat) : Int) - i_1).toNat)) ((List.map some s_0 ++ List.replicate c none).length) then
            Option.bind (allSome (List.take (min ((((((i_1 - 0).toNat) + ((List.replicate ((IntKind.wrap .i64 ((IntKind.wrap .i64 (((s_0.length : Nat) : Int) + (v_2.length : Int))) - i_1)).toNat) z).length) : Nat) : Int) - (IntKind.wrap .i64 (i_1 + (v_2.length : Int)))).toNat) ((((s_0.length : Nat) : Int) - i_1).toNat)) (List.drop (0 + i_1.toNat) (List.map some s_0 ++ List.replicate c none)))) fun (z4 : List α) =>
            bif Nat.ble (((i_1 - 0).toNat) + ((List.replicate ((IntKind.wrap .i64 ((IntKind.wrap .i64 (((s_0.length : Nat) : Int) + (v_2.length : Int))) - i_1)).toNat) z).length)) ((writeAt (writeAt (List.take ((i_1 - 0).toNat) (List.map some s_0 ++ List.replicate c none) ++ List.map some (List.replicate ((IntKind.wrap .i64 ((IntKind.wrap .i64 (((s_0.length : Nat) : Int) + (v_2.length : Int))) - i_1)).toNat) z)) (0 + i_1.toNat) (List.take ((((((i_1 - 0).toNat) + ((List.replicate ((IntKind.wrap .i64 ((IntKind.wrap .i64 (((s_0.length : Nat) : Int) + (v_2.length : Int))) - i_1)).toNat) z).length) : Nat) : Int) - i_1).toNat) v_2)) (0 + ((IntKind.wrap .i64 (i_1 + (v_2.length : Int))).toNat)) z4).length) then
            Option.bind (allSome (List.take (((i_1 - 0).toNat) + ((List.replicate ((IntKind.wrap .i64 ((IntKind.wrap .i64 (((s_0.length : Nat) : Int) + (v_2.length : Int))) - i_1)).toNat) z).length)) (writeAt (writeAt (List.take ((i_1 - 0).toNat) (List.map some s_0 ++ List.replicate c none) ++ List.map some (List.replicate ((IntKind.wrap .i64 ((IntKind.wrap .i64 (((s_0.length : Nat) : Int) + (v_2.length : Int))) - i_1)).toNat) z)) (0 + i_1.toNat) (List.take ((((((i_1 - 0).toNat) + ((List.replicate ((IntKind.wrap .i64 ((IntKind.wrap .i64 (((s_0.length : Nat) : Int) + (v_2.length : Int))) - i_1)).toNat) z).length) : Nat) : Int) - i_1).toNat) v_2)) (0 + ((IntKind.wrap .i64 (i_1 + (v_2.length : Int))).toNat)) z4))) fun (z5 : List α) =>
            some ((z5, ()), ())
            else none
            else none
           else none
          else none
         else none
        else none
       else none
      else none
     else none
    else none
   else
   bif decide (0 ≤ IntKind.wrap .i64 (((s_0.length : Nat) : Int) + (v_2.length : Int))) && decide (IntKind.wrap .i64 (((s_0.length : Nat) : Int) + (v_2.length : Int)) ≤ ((((List.map some s_0 ++ List.replicate c none).length) - 0 : Nat) : Int)) then
    bif (decide (0 ≤ IntKind.wrap .i64 (i_1 + (v_2.length : Int))) && decide (IntKind.wrap .i64 (i_1 + (v_2.length : Int)) ≤ ((((IntKind.wrap .i64 (((s_0.length : Nat) : Int) + (v_2.length : Int))) - 0).toNat : Nat) : Int))) && decide (((((IntKind.wrap .i64 (((s_0.length : Nat) : Int) + (v_2.length : Int))) - 0).toNat : Nat) : Int) ≤ ((((List.map some s_0 ++ List.replicate c none).length) - 0 : Nat) : Int)) then
     bif (decide (0 ≤ IntKind.wrap .i64 (i_1 + (v_2.length : Int))) && decide (IntKind.wrap .i64 (i_1 + (v_2.length : Int)) ≤ ((((IntKind.wrap .i64 (((s_0.length : Nat) : Int) + (v_2.length : Int))) - 0).toNat : Nat) : Int))) && decide (((((IntKind.wrap .i64 (((s_0.length : Nat) : Int) + (v_2.length : Int))) - 0).toNat : Nat) : Int) ≤ ((((List.map some s_0 ++ List.replicate c none).length) - 0 : Nat) : Int)) then
      bif (decide (0 ≤ i_1) && decide (i_1 ≤ ((((IntKind.wrap .i64 (((s_0.length : Nat) : Int) + (v_2.length : Int))) - 0).toNat : Nat) : Int))) && decide (((((IntKind.wrap .i64 (((s_0.length : Nat) : Int) + (v_2.length : Int))) - 0).toNat : Nat) : Int) ≤ ((((List.map some s_0 ++ List.replicate c none).length) - 0 : Nat) : Int)) then
       bif Nat.ble ((0 + ((IntKind.wrap .i64 (i_1 + (v_2.length : Int))).toNat)) + ((((((IntKind.wrap .i64 (((s_0.length : Nat) : Int) + (v_2.length : Int))) - 0).toNat : Nat) : Int) - (IntKind.wrap .i64 (i_1 + (v_2.length : Int)))).toNat)) ((List.map some s_0 ++ List.replicate c none).length) then
        bif Nat.ble ((0 + i_1.toNat) + ((((((IntKind.wrap .i64 (((s_0.length : Nat) : Int) + (v_2.length : Int))) - 0).toNat : Nat) : Int) - i_1).toNat)) ((List.map some s_0 ++ List.replicate c none).length) then
         Option.bind (allSome (List.take (min ((((((IntKind.wrap .i64 (((s_0.length : Nat) : Int) + (v_2.length : Int))) - 0).toNat : Nat) : Int) - (IntKind.wrap .i64 (i_1 + (v_2.length : Int)))).toNat) ((((((IntKind.wrap .i64 (((s_0.length : Nat) : Int) + (v_2.length : Int))) - 0).toNat : Nat) : Int) - i_1).toNat)) (List.drop (0 + i_1.toNat) (List.map some s_0 ++ List.replicate c none)))) fun (z6 : List α) =>
         bif (decide (0 ≤ i_1) && decide (i_1 ≤ ((((IntKind.wrap .i64 (((s_0.length : Nat) : Int) + (v_2.length : Int))) - 0).toNat : Nat) : Int))) && decide (((((IntKind.wrap .i64 (((s_0.length : Nat) : Int) + (v_2.length : Int))) - 0).toNat : Nat) : Int) ≤ ((((writeAt (List.map some s_0 ++ List.replicate c none) (0 + ((IntKind.wrap .i64 (i_1 + (v_2.length : Int))).toNat)) z6).length) - 0 : Nat) : Int)) then
          bif Nat.ble ((0 + i_1.toNat) + ((((((IntKind.wrap .i64 (((s_0.length : Nat) : Int) + (v_2.length : Int))) - 0).toNat : Nat) : Int) - i_1).toNat)) ((writeAt (List.map some s_0 ++ List.replicate c none) (0 + ((IntKind.wrap .i64 (i_1 + (v_2.length : Int))).toNat)) z6).length) then
           bif Nat.ble (((IntKind.wrap .i64 (((s_0.length : Nat) : Int) + (v_2.length : Int))) - 0).toNat) ((writeAt (writeAt (List.map some s_0 ++ List.replicate c none) (0 + ((IntKind.wrap .i64 (i_1 + (v_2.length : Int))).toNat)) z6) (0 + i_1.toNat) (List.take ((((((IntKind.wrap .i64 (((s_0.length : Nat) : Int) + (v_2.length : Int))) - 0).toNat : Nat) : Int) - i_1).toNat) v_2)).length) then
            Option.bind (allSome (List.take (((IntKind.wrap .i64 (((s_0.length : Nat) : Int) + (v_2.length : Int))) - 0).toNat) (writeAt (writeAt (List.map some s_0 ++ List.replicate c none) (0 + ((IntKind.wrap .i64 (i_1 + (v_2.length : Int))).toNat)) z6) (0 + i_1.toNat) (List.take ((((((IntKind.wrap .i64 (((s_0.length : Nat) : Int) + (v_2.length : Int))) - 0).toNat : Nat) : Int) - i_1).toNat) v_2)))) fun (z7 : List α) =>
            some ((z7, ()), ())
           else none
          else none
         else none
        else none
       else none
      else none
     else none
    else none
   else none
  else none
 else none
theorem getElem?_writeAt {α : Type} {ys : List (Option α)} {p : Nat} {xs : List α} (hp : p ≤ ys.length) (j : Nat) :
    (writeAt ys p xs)[j]? = if j < p then ys[j]? else if j < p + xs.length then (xs[j - p]?).map some else ys[j]? := by
  unfold writeAt
  have e1 : (ys.take p).length = p := by rw [List.length_take]; omega
  by_cases h1 : j < p
  · rw [if_pos h1, List.append_assoc, List.getElem?_append_left (by omega), List.getElem?_take, if_pos h1]
  · rw [if_neg h1]
    by_cases h2 : j < p + xs.length
    · rw [if_pos h2, List.append_assoc, List.getElem?_append_right (by omega), List.getElem?_append_left (by rw [List.length_map]; omega), e1, List.getElem?_map]
    · rw [if_neg h2, List.getElem?_append_right (by rw [List.length_append, e1, List.length_map]; omega), List.length_append, e1, List.length_map, List.getElem?_drop]
      congr 1; omega
theorem length_writeAt {α : Type} {ys : List (Option α)} {p : Nat} {xs : List α} (hp : p + xs.length ≤ ys.length) : (writeAt ys p xs).length = ys.length := by
  unfold writeAt
  simp only [List.length_append, List.length_take, List.length_map, List.length_drop]; omega
theorem allSome_eq {α : Type} {l : List (Option α)} {r : List α} (h : l = r.map some) : allSome l = some r := by rw [h, allSome_map]
theorem wi64i {x : Int} (h1 : 0 ≤ x) (h2 : x ≤ 9223372036854775807) : IntKind.wrap .i64 x = x := by
  have e : x % 2 ^ 64 = x := by omega
  simp only [IntKind.wrap, IntKind.bits, IntKind.signed, e]
  rw [if_neg]
  simp; omega
def insertR {α : Type} (s : List α) (i : Int) (v : List α) : Option (((List α) × Unit) × Unit) :=
  bif decide (0 ≤ i) && decide (i ≤ (s.length : Int)) && Nat.ble (s.length + v.length) 134217728 then some ((s.take i.toNat ++ v ++ s.drop i.toNat, ()), ()) else none
theorem cond_eq_true {R : Type} {b : Bool} {x y : R} (h : b = true) : (bif b then x else y) = x := by rw [h]; rfl
theorem cond_eq_false {R : Type} {b : Bool} {x y : R} (h : b = false) : (bif b then x else y) = y := by rw [h]; rfl
theorem nblt_iff {a b : Nat} : Nat.blt a b = true ↔ a < b := by unfold Nat.blt; rw [nble_iff]; exact Iff.rfl
theorem insert_law {α : Type} (z : α) (c : Nat) (s : List α) (i : Int) (v : List α) (r) (_hc : c ≤ maxLen) (h : insertR s i v = some r) : insertC z c s i v = some r := by
  unfold insertR at h
  cases hq : (decide (0 ≤ i) && decide (i ≤ (s.length : Int)) && Nat.ble (s.length + v.length) 134217728) with
  | false => rw [hq] at h; cases h
  | true =>
  rw [hq] at h
  have h := Option.some.inj h
  subst h
  simp only [Bool.and_eq_true, decide_eq_true_eq] at hq
  obtain ⟨⟨h0, h1⟩, h2⟩ := hq
  have h2 := Nat.le_of_ble_eq_true h2
  obtain ⟨k, rfl⟩ : ∃ k : Nat, i = (k : Int) := ⟨i.toNat, by omega⟩
  have hk : k ≤ s.length := by omega
  have e1 : IntKind.wrap .i64 ((s.length : Int) + (v.length : Int)) = ((s.length + v.length : Nat) : Int) := by rw [wi64i (by omega) (by omega)]; omega
  have e2 : IntKind.wrap .i64 ((k : Int) + (v.length : Int)) = ((k + v.length : Nat) : Int) := by rw [wi64i (by omega) (by omega)]; omega
  have e3 : IntKind.wrap .i64 (((s.length + v.length : Nat) : Int) - (k : Int)) = ((s.length + v.length - k : Nat) : Int) := by rw [wi64i (by omega) (by omega)]; omega
  have hys : ∀ j, j < s.length → (List.map some s ++ List.replicate c none)[j]? = (s[j]?).map some := fun j hj => by
    rw [List.getElem?_append_left (by rw [List.length_map]; exact hj), List.getElem?_map]
  have hlen : (List.map some s ++ List.replicate c none).length = s.length + c := by simp
  unfold insertC
  simp only [e1, e2, e3, Int.toNat_natCast, Int.sub_zero, Nat.zero_add, Nat.sub_zero, List.length_replicate]
  generalize hY : List.map some s ++ List.replicate c none = Y at *
  have hbase : allSome (List.take s.length Y) = some s := allSome_eq (by
    refine List.ext_getElem? fun j => ?_
    rw [List.getElem?_take, List.getElem?_map]
    by_cases hj : j < s.length
    · rw [if_pos hj, hys j hj]
    · rw [if_neg hj, List.getElem?_eq_none (by omega)]; rfl)
  have hdrop : allSome (List.take (s.length - k) (List.drop k Y)) = some (s.drop k) := allSome_eq (by
    refine List.ext_getElem? fun j => ?_
    rw [List.getElem?_take, List.getElem?_map, List.getElem?_drop, List.getElem?_drop]
    by_cases hj : j < s.length - k
    · rw [if_pos hj, hys _ (by omega)]
    · rw [if_neg hj, List.getElem?_eq_none (by omega)]; rfl)
  have hdl : (s.drop k).length = s.length - k := List.length_drop ..
  rw [cond_eq_true (by simp only [Bool.and_eq_true, decide_eq_true_eq, nble_iff, nblt_iff, beq_iff_eq, and_true, true_and]; omega)]
  by_cases hm : v.length = 0
  · have hv : v = [] := List.eq_nil_of_length_eq_zero hm
    subst hv
    rw [cond_eq_true (by rfl)]
    repeat rw [cond_eq_true (by simp only [Bool.and_eq_true, decide_eq_true_eq, nble_iff, nblt_iff, beq_iff_eq, and_true, true_and]; omega)]
    rw [hbase]
    simp
  rw [cond_eq_false (beq_eq_false_iff_ne.2 (by omega))]
  by_cases hkn : k = s.length
  · subst hkn
    rw [cond_eq_true (by simp)]
    rw [cond_eq_true (by simp only [Bool.and_eq_true, decide_eq_true_eq, nble_iff, nblt_iff, beq_iff_eq, and_true, true_and]; omega)]
    by_cases hc : s.length + v.length ≤ s.length + c
    · have w1 : (writeAt Y s.length v).length = Y.length := length_writeAt (by omega)
      repeat rw [cond_eq_true (by simp only [Bool.and_eq_true, decide_eq_true_eq, nble_iff, nblt_iff, beq_iff_eq, and_true, true_and]; omega)]
      rw [allSome_eq (r := s ++ v) (by
        refine List.ext_getElem? fun j => ?_
        rw [List.getElem?_take, List.getElem?_map, getElem?_writeAt (by omega)]
        by_cases hj : j < s.length
        · rw [if_pos (by omega), if_pos hj, hys j hj, List.getElem?_append_left hj]
        · rw [List.getElem?_append_right (by omega), if_neg hj]
          by_cases hj2 : j < s.length + v.length
          · rw [if_pos hj2, if_pos hj2]
          · rw [if_neg hj2, List.getElem?_eq_none (by omega)]; rfl)]
      simp
    · rw [cond_eq_false (by rw [← Bool.not_eq_true, nble_iff]; omega)]
      repeat rw [cond_eq_true (by simp only [Bool.and_eq_true, decide_eq_true_eq, nble_iff, nblt_iff, beq_iff_eq, and_true, true_and]; omega)]
      rw [hbase]
      simp
  rw [cond_eq_false (by simp; omega)]
  have hres : ∀ j, (s.take k ++ v ++ s.drop k)[j]? = if j < k then s[j]? else if j < k + v.length then v[j - k]? else s[j - v.length]? := fun j => by
    have e : (s.take k).length = k := by rw [List.length_take]; omega
    by_cases h3 : j < k
    · rw [if_pos h3, List.append_assoc, List.getElem?_append_left (by omega), List.getElem?_take, if_pos h3]
    · rw [if_neg h3]
      by_cases h4 : j < k + v.length
      · rw [if_pos h4, List.append_assoc, List.getElem?_append_right (by omega), List.getElem?_append_left (by omega), e]
      · rw [if_neg h4, List.getElem?_append_right (by rw [List.length_append]; omega), List.length_append, e, List.getElem?_drop]
        congr 1; omega
  by_cases hg : s.length + c < s.length + v.length
  · rw [cond_eq_true (decide_eq_true (by omega))]
    have n0 : k + (s.length + v.length - k) = s.length + v.length := by omega
    have n1 : (((s.length + v.length : Nat) : Int) - (k : Int)).toNat = s.length + v.length - k := by omega
    have n2 : (((s.length + v.length : Nat) : Int) - ((k + v.length : Nat) : Int)).toNat = s.length - k := by omega
    have n3 : ((s.length : Int) - (k : Int)).toNat = s.length - k := by omega
    have n4 : List.take (s.length + v.length - k) v = v := List.take_of_length_le (by omega)
    simp only [n0, n1, n2, n3, n4, Nat.min_self]
    generalize hZ : List.take k Y ++ List.map some (List.replicate (s.length + v.length - k) z) = Z
    have hZl : Z.length = s.length + v.length := by rw [← hZ]; simp only [List.length_append, List.length_take, List.length_map, List.length_replicate]; omega
    have hZk : ∀ j, j < k → Z[j]? = (s[j]?).map some := fun j hj => by
      rw [← hZ, List.getElem?_append_left (by rw [List.length_take]; omega), List.getElem?_take, if_pos hj, hys j (by omega)]
    have w1 : (writeAt Z k v).length = Z.length := length_writeAt (by omega)
    have w2 : (writeAt (writeAt Z k v) (k + v.length) (s.drop k)).length = Z.length := by rw [length_writeAt (by omega), w1]
    repeat rw [cond_eq_true (by simp only [Bool.and_eq_true, decide_eq_true_eq, nble_iff, nblt_iff, beq_iff_eq, and_true, true_and]; omega)]
    rw [hdrop]
    show (bif _ then _ else none) = _
    repeat rw [cond_eq_true (by simp only [Bool.and_eq_true, decide_eq_true_eq, nble_iff, nblt_iff, beq_iff_eq, and_true, true_and]; omega)]
    rw [allSome_eq (r := s.take k ++ v ++ s.drop k) (by
      refine List.ext_getElem? fun j => ?_
      rw [List.getElem?_take, List.getElem?_map, hres]
      by_cases hj : j < s.length + v.length
      · rw [if_pos hj, getElem?_writeAt (by omega)]
        by_cases h3 : j < k
        · rw [if_pos (by omega), getElem?_writeAt (by omega), if_pos h3, if_pos h3, hZk j h3]
        · by_cases h4 : j < k + v.length
          · rw [if_pos h4, getElem?_writeAt (by omega), if_neg h3, if_pos h4, if_neg h3, if_pos h4]
          · rw [if_neg h4, if_pos (by omega), if_neg h3, if_neg h4, List.getElem?_drop, show k + (j - (k + v.length)) = j - v.length by omega]
      · rw [if_neg hj, if_neg (by omega), if_neg (by omega), List.getElem?_eq_none (by omega)]; rfl)]
    rfl
  · rw [cond_eq_false (decide_eq_false (by omega))]
    have n1 : (((s.length + v.length : Nat) : Int) - (k : Int)).toNat = s.length + v.length - k := by omega
    have n2 : (((s.length + v.length : Nat) : Int) - ((k + v.length : Nat) : Int)).toNat = s.length - k := by omega
    have n4 : List.take (s.length + v.length - k) v = v := List.take_of_length_le (by omega)
    have n5 : min (s.length - k) (s.length + v.length - k) = s.length - k := by omega
    simp only [n1, n2, n4, n5]
    have w1 : (writeAt Y (k + v.length) (s.drop k)).length = Y.length := length_writeAt (by omega)
    have w2 : (writeAt (writeAt Y (k + v.length) (s.drop k)) k v).length = Y.length := by rw [length_writeAt (by omega), w1]
    repeat rw [cond_eq_true (by simp only [Bool.and_eq_true, decide_eq_true_eq, nble_iff, nblt_iff, beq_iff_eq, and_true, true_and]; omega)]
    rw [hdrop]
    show (bif _ then _ else none) = _
    repeat rw [cond_eq_true (by simp only [Bool.and_eq_true, decide_eq_true_eq, nble_iff, nblt_iff, beq_iff_eq, and_true, true_and]; omega)]
    rw [allSome_eq (r := s.take k ++ v ++ s.drop k) (by
      refine List.ext_getElem? fun j => ?_
      rw [List.getElem?_take, List.getElem?_map, hres]
      by_cases hj : j < s.length + v.length
      · rw [if_pos hj, getElem?_writeAt (by omega)]
        by_cases h3 : j < k
        · rw [if_pos h3, if_pos h3, getElem?_writeAt (by omega), if_pos (by omega), hys j (by omega)]
        · by_cases h4 : j < k + v.length
          · rw [if_neg h3, if_pos h4, if_neg h3, if_pos h4]
          · rw [if_neg h3, if_neg h4, if_neg h3, if_neg h4, getElem?_writeAt (by omega), if_neg (by omega), if_pos (by omega), List.getElem?_drop, show k + (j - (k + v.length)) = j - v.length by omega]
      · rw [if_neg hj, if_neg (by omega), if_neg (by omega), List.getElem?_eq_none (by omega)]; rfl)]
    rfl
end Go.PE


set_option linter.unusedVariables false
set_option linter.unusedSimpArgs false
set_option maxRecDepth 100000
namespace Go.PE
def growC {α : Type} (z : α) (c : Nat) (s_0 : List α) (n_1 : Int) : Option (((List α) × Unit) × Unit) :=
 bif decide (n_1 < 0) then
  none
 else
 bif Nat.ble (0 + s_0.length) ((List.map some s_0 ++ List.replicate c none).length) then
  bif decide (IntKind.wrap .i64 (n_1 - (IntKind.wrap .i64 (((((List.map some s_0 ++ List.replicate c none).length) - 0 : Nat) : Int) - ((s_0.length : Nat) : Int)))) > 0) then
   bif Nat.ble (0 + s_0.length) ((List.map some s_0 ++ List.replicate c none).length) then
    bif decide (0 ≤ ((((List.map some s_0 ++ List.replicate c none).length) - 0 : Nat) : Int)) && decide (((((List.map some s_0 ++ List.replicate c none).length) - 0 : Nat) : Int) ≤ ((((List.map some s_0 ++ List.replicate c none).length) - 0 : Nat) : Int)) then
     bif Nat.ble (0 + ((((((List.map some s_0 ++ List.replicate c none).length) - 0 : Nat) : Int) - 0).toNat)) ((List.map some s_0 ++ List.replicate c none).length) then
      bif decide (0 < IntKind.wrap .i64 (n_1 - (IntKind.wrap .i64 (((((List.map some s_0 ++ List.replicate c none).length) - 0 : Nat) : Int) - ((s_0.length : Nat) : Int))))) && true && Nat.blt ((List.map some s_0 ++ List.replicate c none).length) (((((((List.map some s_0 ++ List.replicate c none).length) - 0 : Nat) : Int) - 0).toNat) + ((List.replicate ((IntKind.wrap .i64 (n_1 - (IntKind.wrap .i64 (((((List.map some s_0 ++ List.replicate c none).length) - 0 : Nat) : Int) - ((s_0.length : Nat) : Int))))).toNat) z).length)) && Nat.ble (((List.map some s_0 ++ List.replicate c none).length) + ((List.replicate ((IntKind.wrap .i64 (n_1 - (IntKind.wrap .i64 (((((List.map some s_0 ++ List.replicate c none).length) - 0 : Nat) : Int) - ((s_0.length : Nat) : Int))))).toNat) z).length)) 536870912 then
       bif decide (0 ≤ ((s_0.length : Nat) : Int)) && decide (((s_0.length : Nat) : Int) ≤ ((((List.take ((((((List.map some s_0 ++ List.replicate c none).length) - 0 : Nat) : Int) - 0).toNat) (List.map some s_0 ++ List.replicate c none) ++ List.map some (List.replicate ((IntKind.wrap .i64 (n_1 - (IntKind.wrap .i64 (((((List.map some s_0 ++ List.replicate c none).length) - 0 : Nat) : Int) - ((s_0.length : Nat) : Int))))).toNat) z)).length) - 0 : Nat) : Int)) then
        bif Nat.ble ((((s_0.length : Nat) : Int) - 0).toNat) ((List.take ((((((List.map some s_0 ++ List.replicate c none).length) - 0 : Nat) : Int) - 0).toNat) (List.map some s_0 ++ List.replicate c none) ++ List.map some (List.replicate ((IntKind.wrap .i64 (n_1 - (IntKind.wrap .i64 (((((List.map some s_0 ++ List.replicate c none).length) - 0 : Nat) : Int) - ((s_0.length : Nat) : Int))))).toNat) z)).length) then
         Option.bind (allSome (List.take ((((s_0.length : Nat) : Int) - 0).toNat) (List.take ((((((List.map some s_0 ++ List.replicate c none).length) - 0 : Nat) : Int) - 0).toNat) (List.map some s_0 ++ List.replicate c none) ++ List.map some (List.replicate ((IntKind.wrap .i64 (n_1 - (IntKind.wrap .i64 (((((List.map some s_0 ++ List.replicate c none).length) - 0 : Nat) : Int) - ((s_0.length : Nat) : Int))))).toNat) z)))) fun (z1 : List α) =>
         some ((z1, ()), ())
        else none
       else none
      else none
     else none
    else none
   else none
  else
  bif Nat.ble s_0.length ((List.map some s_0 ++ List.replicate c none).length) then
   Option.bind (allSome (List.take s_0.length (List.map some s_0 ++ List.replicate c none))) fun (z2 : List α) =>
   some ((z2, ()), ())
  else none
 else none
def growR {α : Type} (s : List α) (n : Int) : Option (((List α) × Unit) × Unit) :=
  bif decide (0 ≤ n) && decide (n ≤ 134217728) && Nat.ble s.length 134217728 then some ((s, ()), ()) else none
theorem open_base {α : Type} (s : List α) (c : Nat) (q : List (Option α)) : allSome (List.take s.length (List.map some s ++ q)) = some s := allSome_eq (by
  rw [List.take_append_of_le_length (by simp), List.take_of_length_le (by simp)])
theorem grow_law {α : Type} (z : α) (c : Nat) (s : List α) (n : Int) (r) (hc : c ≤ maxLen) (h : growR s n = some r) : growC z c s n = some r := by
  unfold growR at h
  cases hq : (decide (0 ≤ n) && decide (n ≤ 134217728) && Nat.ble s.length 134217728) with
  | false => rw [hq] at h; cases h
  | true =>
  rw [hq] at h
  have h := Option.some.inj h
  subst h
  simp only [Bool.and_eq_true, decide_eq_true_eq] at hq
  obtain ⟨⟨h0, h1⟩, h2⟩ := hq
  have h2 := Nat.le_of_ble_eq_true h2
  have hc : c ≤ 9223372036854775807 := hc
  have hlen : (List.map some s ++ List.replicate c none).length = s.length + c := by simp
  have hb0 := open_base s c (List.replicate c none)
  have e2 : IntKind.wrap .i64 (n - (c : Int)) = n - (c : Int) := by rw [IntKind.wrap_i64]; omega
  unfold growC
  rw [cond_eq_false (decide_eq_false (by omega))]
  generalize hY : List.map some s ++ List.replicate c none = Y at *
  have e1 : IntKind.wrap .i64 ((Y.length : Int) - (s.length : Int)) = (c : Int) := by rw [hlen, IntKind.wrap_i64]; omega
  simp only [Int.sub_zero, Nat.sub_zero, Nat.zero_add, Int.toNat_natCast, List.length_replicate]
  simp only [e1, e2]
  rw [cond_eq_true (nble_iff.2 (by omega))]
  by_cases hg : n - (c : Int) > 0
  · rw [cond_eq_true (decide_eq_true hg)]
    have w0 : (List.take Y.length Y ++ List.map some (List.replicate (n - (c : Int)).toNat z)).length = Y.length + (n - (c : Int)).toNat := by
      rw [List.length_append, List.length_take, Nat.min_self, List.length_map, List.length_replicate]
    repeat rw [cond_eq_true (by simp only [Bool.and_eq_true, decide_eq_true_eq, nble_iff, nblt_iff, beq_iff_eq, and_true, true_and]; omega)]
    have e3 : allSome (List.take s.length (List.take Y.length Y ++ List.map some (List.replicate (n - (c : Int)).toNat z))) = some s := by
      rw [List.take_append_of_le_length (by rw [List.length_take]; omega), List.take_take, Nat.min_eq_left (by omega), hb0]
    rw [e3]
    rfl
  · rw [cond_eq_false (decide_eq_false hg), cond_eq_true (nble_iff.2 (by omega)), hb0]
    rfl
def deleteC {α : Type} (z : α) (c : Nat) (s_0 : List α) (i_1 : Int) (j_2 : Int) : Option (((List α) × Unit) × Unit) :=
 bif ((decide (0 ≤ i_1) && decide (i_1 ≤ j_2)) && decide (j_2 ≤ ((s_0.length : Nat) : Int))) && decide (((s_0.length : Nat) : Int) ≤ ((((List.map some s_0 ++ List.replicate c none).length) - 0 : Nat) : Int)) then
  bif i_1 == j_2 then
   bif Nat.ble s_0.length ((List.map some s_0 ++ List.replicate c none).length) then
    Option.bind (allSome (List.take s_0.length (List.map some s_0 ++ List.replicate c none))) fun (z1 : List α) =>
    some ((z1, ()), ())
   else none
  else
  bif decide (0 ≤ i_1) && decide (i_1 ≤ ((((List.map some s_0 ++ List.replicate c none).length) - 0 : Nat) : Int)) then
   bif (decide (0 ≤ j_2) && decide (j_2 ≤ ((s_0.length : Nat) : Int))) && decide (((s_0.length : Nat) : Int) ≤ ((((List.map some s_0 ++ List.replicate c none).length) - 0 : Nat) : Int)) then
    bif Nat.ble (0 + ((i_1 - 0).toNat)) ((List.map some s_0 ++ List.replicate c none).length) then
     bif Nat.ble ((0 + j_2.toNat) + ((((s_0.length : Nat) : Int) - j_2).toNat)) ((List.map some s_0 ++ List.replicate c none).length) then
      Option.bind (allSome (List.take ((((s_0.length : Nat) : Int) - j_2).toNat) (List.drop (0 + j_2.toNat) (List.map some s_0 ++ List.replicate c none)))) fun (z2 : List α) =>
      bif Nat.ble (((i_1 - 0).toNat) + z2.length) ((List.map some s_0 ++ List.replicate c none).length) then
       bif (decide (0 ≤ ((((i_1 - 0).toNat) + z2.length : Nat) : Int)) && decide (((((i_1 - 0).toNat) + z2.length : Nat) : Int) ≤ ((s_0.length : Nat) : Int))) && decide (((s_0.length : Nat) : Int) ≤ ((((writeAt (List.map some s_0 ++ List.replicate c none) ((i_1 - 0).toNat) z2).length) - 0 : Nat) : Int)) then
        bif Nat.ble ((0 + (((((i_1 - 0).toNat) + z2.length : Nat) : Int).toNat)) + ((((s_0.length : Nat) : Int) - ((((i_1 - 0).toNat) + z2.length : Nat) : Int)).toNat)) ((writeAt (List.map some s_0 ++ List.replicate c none) ((i_1 - 0).toNat) z2).length) then
         bif Nat.ble (((i_1 - 0).toNat) + z2.length) ((writeAt (writeAt (List.map some s_0 ++ List.replicate c none) ((i_1 - 0).toNat) z2) (0 + (((((i_1 - 0).toNat) + z2.length : Nat) : Int).toNat)) (List.replicate ((((s_0.length : Nat) : Int) - ((((i_1 - 0).toNat) + z2.length : Nat) : Int)).toNat) z)).length) then
          Option.bind (allSome (List.take (((i_1 - 0).toNat) + z2.length) (writeAt (writeAt (List.map some s_0 ++ List.replicate c none) ((i_1 - 0).toNat) z2) (0 + (((((i_1 - 0).toNat) + z2.length : Nat) : Int).toNat)) (List.replicate ((((s_0.length : Nat) : Int) - ((((i_1 - 0).toNat) + z2.length : Nat) : Int)).toNat) z)))) fun (z3 : List α) =>
          some ((z3, ()), ())
         else none
        else none
       else none
      else
      bif Nat.ble (((i_1 - 0).toNat) + z2.length) 1073741824 then
       Option.bind (allSome (List.take ((i_1 - 0).toNat) (List.map some s_0 ++ List.replicate c none))) fun (z4 : List α) =>
       bif (decide (0 ≤ (((z4 ++ z2).length : Nat) : Int)) && decide ((((z4 ++ z2).length : Nat) : Int) ≤ ((s_0.length : Nat) : Int))) && decide (((s_0.length : Nat) : Int) ≤ (((List.map some (z4 ++ z2)).length : Nat) : Int)) then
        bif Nat.ble ((0 + ((((z4 ++ z2).length : Nat) : Int).toNat)) + ((((s_0.length : Nat) : Int) - (((z4 ++ z2).length : Nat) : Int)).toNat)) ((List.map some (z4 ++ z2)).length) then
         none
        else none
       else none
      else none
     else none
    else none
   else none
  else none
 else none
def deleteR {α : Type} (s : List α) (i j : Int) : Option (((List α) × Unit) × Unit) :=
  bif decide (0 ≤ i) && decide (i ≤ j) && decide (j ≤ (s.length : Int)) then some ((s.take i.toNat ++ s.drop j.toNat, ()), ()) else none
theorem delete_law {α : Type} (z : α) (c : Nat) (s : List α) (i j : Int) (r) (_hc : c ≤ maxLen) (h : deleteR s i j = some r) : deleteC z c s i j = some r := by
  unfold deleteR at h
  cases hq : (decide (0 ≤ i) && decide (i ≤ j) && decide (j ≤ (s.length : Int))) with
  | false => rw [hq] at h; cases h
  | true =>
  rw [hq] at h
  have h := Option.some.inj h
  subst h
  simp only [Bool.and_eq_true, decide_eq_true_eq] at hq
  obtain ⟨⟨h0, h1⟩, h2⟩ := hq
  obtain ⟨a, rfl⟩ : ∃ a : Nat, i = (a : Int) := ⟨i.toNat, by omega⟩
  obtain ⟨b, rfl⟩ : ∃ b : Nat, j = (b : Int) := ⟨j.toNat, by omega⟩
  have hys : ∀ j, j < s.length → (List.map some s ++ List.replicate c none)[j]? = (s[j]?).map some := fun j hj => by
    rw [List.getElem?_append_left (by rw [List.length_map]; exact hj), List.getElem?_map]
  have hlen : (List.map some s ++ List.replicate c none).length = s.length + c := by simp
  have hb0 := open_base s c (List.replicate c none)
  have m1 : ((s.length : Int) - (b : Int)).toNat = s.length - b := by omega
  unfold deleteC
  simp only [Int.toNat_natCast, Int.sub_zero, Nat.zero_add, Nat.sub_zero, m1]
  generalize hY : List.map some s ++ List.replicate c none = Y at *
  have hdrop : allSome (List.take (s.length - b) (List.drop b Y)) = some (s.drop b) := allSome_eq (by
    refine List.ext_getElem? fun j => ?_
    rw [List.getElem?_take, List.getElem?_map, List.getElem?_drop, List.getElem?_drop]
    by_cases hj : j < s.length - b
    · rw [if_pos hj, hys _ (by omega)]
    · rw [if_neg hj, List.getElem?_eq_none (by omega)]; rfl)
  have hdl : (s.drop b).length = s.length - b := List.length_drop ..
  rw [cond_eq_true (by simp only [Bool.and_eq_true, decide_eq_true_eq, nble_iff, nblt_iff, beq_iff_eq, and_true, true_and]; omega)]
  by_cases hab : a = b
  · subst hab
    rw [cond_eq_true (by simp)]
    rw [cond_eq_true (nble_iff.2 (by omega)), hb0]
    simp
  rw [cond_eq_false (beq_eq_false_iff_ne.2 (by omega))]
  repeat rw [cond_eq_true (by simp only [Bool.and_eq_true, decide_eq_true_eq, nble_iff, nblt_iff, beq_iff_eq, and_true, true_and]; omega)]
  rw [hdrop]
  show (bif _ then _ else _) = _
  have w1 : (writeAt Y a (s.drop b)).length = Y.length := length_writeAt (by omega)
  have n1 : ((s.length : Int) - ((a + (s.drop b).length : Nat) : Int)).toNat = b - a := by omega
  simp only [n1]
  have w2 : (writeAt (writeAt Y a (s.drop b)) (a + (s.drop b).length) (List.replicate (b - a) z)).length = Y.length := by rw [length_writeAt (by rw [List.length_replicate]; omega), w1]
  repeat rw [cond_eq_true (by simp only [Bool.and_eq_true, decide_eq_true_eq, nble_iff, nblt_iff, beq_iff_eq, and_true, true_and]; omega)]
  rw [allSome_eq (r := s.take a ++ s.drop b) (by
    have e : (s.take a).length = a := by rw [List.length_take]; omega
    refine List.ext_getElem? fun j => ?_
    rw [List.getElem?_take, List.getElem?_map]
    by_cases hj : j < a + (s.drop b).length
    · rw [if_pos hj, getElem?_writeAt (by omega), if_pos hj, getElem?_writeAt (by omega)]
      by_cases h3 : j < a
      · rw [if_pos h3, List.getElem?_append_left (by omega), List.getElem?_take, if_pos h3, hys j (by omega)]
      · rw [if_neg h3, if_pos hj, List.getElem?_append_right (by omega), e]
    · rw [if_neg hj, List.getElem?_eq_none (by rw [List.length_append]; omega)]; rfl)]
  rfl
end Go.PE
