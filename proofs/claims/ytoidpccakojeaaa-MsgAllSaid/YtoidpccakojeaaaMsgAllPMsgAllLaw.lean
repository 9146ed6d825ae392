/-
  Plain lemmas on the functions.
  Conditions: none.
-/
import Derived.Test.YtoidpccakojeaaaMsgAllPMsgRef
set_option linter.unusedVariables false
set_option linter.unusedSimpArgs false
set_option maxRecDepth 20000
namespace Go.PE
theorem tup_eq (x : MsgV) : ((x.1, x.2.1, x.2.2.1, x.2.2.2.1, x.2.2.2.2.1, x.2.2.2.2.2.1, x.2.2.2.2.2.2.1, x.2.2.2.2.2.2.2.1, x.2.2.2.2.2.2.2.2.1, x.2.2.2.2.2.2.2.2.2) : MsgV) = x := rfl
theorem all_inner (n : Nat) (L : List Int → Int → List MsgV → Option ((Bool × Unit) × Unit)) (m1 : Nat) (b : List Int) (l : List MsgV) (h3 : l.length = 3) (hl : ∀ x ∈ l, x.pa.length ≤ 1000000000) (i : Nat) (hi : i < 3)
    (v16 v17 v18 v19 v20 v21 v22 v23 : Int) (v24 : List Int) (v25 v26 : Int) (v27 v28 : ByteArray) (v29 v30 v31 v32 v33 v34 v35 v36 : Int) (v37 : List Int) (v38 v39 : Int) (v40 v41 : ByteArray) (v42 : Bool) (v43 v45 : List Int) : ∀ (k m j : Nat), j + k = 3 → k < m →
    pleachlaw12_MsgAll_L2 n m1 L m b (i : Int) (j : Int) v16 v17 v18 v19 v20 v21 v22 v23 v24 v25 v26 v27 v28 v29 v30 v31 v32 v33 v34 v35 v36 v37 v38 v39 v40 v41 v42 v43 l v45 = L b (IntKind.wrap .i64 ((i : Int) + 1)) l
  | k, 0, j, _, h => by omega
  | 0, m + 1, j, hk, h => by
    show pleachlaw12_MsgAll_B2 (pleachlaw12_MsgAll_L2 n m1 L m) L b (i : Int) (j : Int) v16 v17 v18 v19 v20 v21 v22 v23 v24 v25 v26 v27 v28 v29 v30 v31 v32 v33 v34 v35 v36 v37 v38 v39 v40 v41 v42 v43 l v45 = _
    unfold pleachlaw12_MsgAll_B2
    rw [cdn (by omega)]
  | k + 1, m + 1, j, hk, h => by
    show pleachlaw12_MsgAll_B2 (pleachlaw12_MsgAll_L2 n m1 L m) L b (i : Int) (j : Int) v16 v17 v18 v19 v20 v21 v22 v23 v24 v25 v26 v27 v28 v29 v30 v31 v32 v33 v34 v35 v36 v37 v38 v39 v40 v41 v42 v43 l v45 = _
    unfold pleachlaw12_MsgAll_B2
    have c1 : decide ((0 : Int) ≤ (i : Int)) = true := decide_eq_true (by omega)
    have c2 : decide ((i : Int) < (l.length : Int)) = true := decide_eq_true (by omega)
    have c3 : decide ((0 : Int) ≤ (j : Int)) = true := decide_eq_true (by omega)
    have c4 : decide ((j : Int) < (l.length : Int)) = true := decide_eq_true (by omega)
    rw [cdp (by omega)]
    simp only [c1, c2, c3, c4, Bool.and_self, cond_true, toNat_nat]
    rw [getD_at (show i < l.length by omega), getD_at (show j < l.length by omega)]
    have x1 := hl l[i] (List.getElem_mem _)
    have x2 := hl l[j] (List.getElem_mem _)
    generalize l[i] = x at *
    generalize l[j] = y at *
    rw [tup_eq x, tup_eq y, msg_Same_eq' x y x1 x2, ref_Same_eq x y x1 x2]
    dsimp only [Option.bind_some]
    rw [beq_self_eq_true]
    dsimp only [nt, cond_false]
    rw [inext (by omega), all_inner n L m1 b l h3 hl i hi v16 v17 v18 v19 v20 v21 v22 v23 v24 v25 v26 v27 v28 v29 v30 v31 v32 v33 v34 v35 v36 v37 v38 v39 v40 v41 v42 v43 v45 k m (j + 1) (by omega) (by omega)]
theorem all_outer (b : List Int) (hb : isBytes b) (hbl : b.length ≤ 100000) (l : List MsgV) (h3 : l.length = 3) (hl : ∀ x ∈ l, x.pa.length ≤ 1000000000) (hm : ∀ x, l[1]? = some x → mayP x = true) : ∀ (k m i : Nat), i + k = 3 → k < m →
    pleachlaw12_MsgAll_L1 1099511627776 m b (i : Int) l = some ((true, ()), ())
  | k, 0, i, _, h => by omega
  | 0, m + 1, i, hk, h => by
    show pleachlaw12_MsgAll_B1 (pleachlaw12_MsgAll_L2 1099511627776 m (pleachlaw12_MsgAll_L1 1099511627776 m) 1099511627776) b (i : Int) l = _
    unfold pleachlaw12_MsgAll_B1
    have c4 : decide (1 < (l.length : Int)) = true := decide_eq_true (by omega)
    rw [cdn (by omega), msg_Take_eq' b hb (by omega), ref_TakeMsg_eq' b hb (by omega)]
    dsimp only [Option.bind_some]
    simp only [c4, cond_true]
    rw [beq_self_eq_true, getD_at (show 1 < l.length by omega)]
    have hq : ∀ o : Option MsgV, (∀ x, o = some x → mayP x = true) → pleachref10_SameMsg (takeV o).1.1 (takeV o).1.1 = some ((true, ()), ()) := by
      intro o ho
      cases o with
      | none => rw [ref_Same_eq _ _ (by show ([] : List Int).length ≤ _; simp) (by show ([] : List Int).length ≤ _; simp), eqM_self]
      | some x =>
        have := (mayP_ok (ho x rfl)).pl
        have e : (takeV (some x)).1.1 = x := rfl
        rw [e, ref_Same_eq x x (by omega) (by omega), eqM_self]
    rw [hq _ (fun x hx => (takeM_some hx).1)]
    dsimp only [Option.bind_some, cond_true]
    have x1 := hl l[1] (List.getElem_mem _)
    have x2 := hm l[1] (List.getElem?_eq_getElem _)
    generalize l[1] = x at *
    rw [tup_eq x, msg_May_eq' x x1, x2]; rfl
  | k + 1, m + 1, i, hk, h => by
    show pleachlaw12_MsgAll_B1 (pleachlaw12_MsgAll_L2 1099511627776 m (pleachlaw12_MsgAll_L1 1099511627776 m) 1099511627776) b (i : Int) l = _
    unfold pleachlaw12_MsgAll_B1
    have c1 : decide ((0 : Int) ≤ (i : Int)) = true := decide_eq_true (by omega)
    have c2 : decide ((i : Int) < (l.length : Int)) = true := decide_eq_true (by omega)
    rw [cdp (by omega)]
    simp only [c1, c2, Bool.and_self, cond_true, toNat_nat]
    rw [getD_at (show i < l.length by omega)]
    have x1 := hl l[i] (List.getElem_mem _)
    generalize l[i] = x at *
    rw [tup_eq x, msg_May_eq' x x1, ref_MayMsg_eq' x x1, msg_Put_eq' x x1, ref_PutMsg_eq' x x1]
    dsimp only [Option.bind_some]
    rw [beq_self_eq_true, strEq_self]
    dsimp only [nt, cond_false]
    have := all_inner 1099511627776 (pleachlaw12_MsgAll_L1 1099511627776 m) m b l h3 hl i (by omega)
    have e0 : ((0 : Nat) : Int) = 0 := rfl
    have h2 := fun v16 v17 v18 v19 v20 v21 v22 v23 v24 v25 v26 v27 v28 v29 v30 v31 v32 v33 v34 v35 v36 v37 v38 v39 v40 v41 v42 v43 v45 => this v16 v17 v18 v19 v20 v21 v22 v23 v24 v25 v26 v27 v28 v29 v30 v31 v32 v33 v34 v35 v36 v37 v38 v39 v40 v41 v42 v43 v45 3 1099511627776 0 rfl (by omega)
    simp only [e0] at h2
    rw [h2, inext (by omega)]
    exact all_outer b hb hbl l h3 hl hm k m (i + 1) (by omega) (by omega)
theorem pleachlaw12_MsgAll_true {N K : Nat} (wild : MsgV) (picks b : List Int) (h : wfPs [.val (.pair (.int .i64) (.pair (.int .i64) (.pair (.int .i64) (.pair (.int .i64) (.pair (.int .i64) (.pair (.int .i64) (.pair (.sl K (.int .i64)) (.pair (.int .i64) (.pair (.int .i64) .str))))))))), .val (.sl N (.int .u8)), .val (.sl N (.int .u8))] (wild, picks, b, ())) : pleachlaw12_MsgAll wild picks b = some ((true, ()), ()) := by
  obtain ⟨_, h1, h2, _⟩ := h
  have hp : isBytes picks := wf_sl8 h1
  have hb : isBytes b := wf_sl8 h2
  show pleachlaw12_MsgAll_T (pleachlaw12_MsgAll_L1 1099511627776 1099511627776) wild picks b = _
  unfold pleachlaw12_MsgAll_T
  rw [begun12]
  dsimp only [Option.bind_some, nt, nf, cond_false, cond_true]
  unfold pleachlaw12_Light
  by_cases c0 : wild.2.2.2.2.2.2.1.length ≤ 12
  · rw [cdp (by omega)]
    dsimp only [Option.bind_some]
    by_cases ct : (wild.2.2.2.2.2.2.2.2.2.size : Int) ≤ 30
    · rw [decide_eq_true ct]
      dsimp only [nt, nf, cond_false, cond_true]
      by_cases c1 : picks.length > 30
      · rw [cdp (by omega)]
      rw [cdn (by omega)]
      by_cases c2 : b.length > 60
      · rw [cdp (by omega)]
      rw [cdn (by omega)]
      unfold pleachmade_Made
      dsimp only [Option.bind_some]
      obtain ⟨m, s', e, hm, _, _, hs'⟩ := pk_msg (pk_made hp (by omega)) 2 (by omega)
      rw [e]; dsimp only [Option.bind_some]
      obtain ⟨m', s'', e', hm', _, _, _⟩ := pk_msg hs' 3 (by omega)
      rw [e']; dsimp only [Option.bind_some]
      have l1 := (mayP_ok hm).pl; have l2 := (mayP_ok hm').pl
      refine all_outer b hb (by omega) [wild, m, m'] rfl ?_ ?_ 3 1099511627776 0 rfl (by omega)
      · intro x hx
        simp only [List.mem_cons, List.not_mem_nil, or_false] at hx
        rcases hx with rfl | rfl | rfl
        · show x.2.2.2.2.2.2.1.length ≤ _; omega
        · omega
        · omega
      · intro x hx
        have : m = x := Option.some.inj hx
        rw [← this]; exact hm
    · rw [decide_eq_false ct]; rfl
  · rw [cdn (by omega)]; rfl
end Go.PE
