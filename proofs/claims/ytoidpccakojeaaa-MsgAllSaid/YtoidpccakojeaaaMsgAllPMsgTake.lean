/-
  Plain lemmas on the functions.
  Conditions: none.
-/
import Derived.Test.YtoidpccakojeaaaMsgAllPMsgCode
set_option linter.unusedVariables false
set_option linter.unusedSimpArgs false
set_option maxRecDepth 20000
namespace Go.PE
theorem numP_enc (x : Int) (r : List Int) (h : 0 ≤ x ∧ x ≤ 1073741824) : numP (some (encI x ++ r)) = (x.toNat, some r) := by
  unfold numP encI
  simp only
  rw [enc_dec _ _ (by omega)]
  simp only [List.drop_left]
theorem stepsP_enc : ∀ (p acc r : List Int), (∀ x ∈ p, 0 ≤ x ∧ x ≤ 1073741824) → stepsP p.length (some (encs p ++ r)) acc = (acc ++ p, some r)
  | [], acc, r, _ => by simp [stepsP, encs]
  | x :: p, acc, r, h => by
    have hx := h x (List.mem_cons_self ..)
    show stepsP p.length (numP (some ((encI x ++ encs p) ++ r))).2 (acc ++ [((numP (some ((encI x ++ encs p) ++ r))).1 : Int)]) = _
    rw [List.append_assoc, numP_enc _ _ hx]
    simp only
    rw [stepsP_enc p _ r (fun y hy => h y (List.mem_cons_of_mem _ hy)), Int.toNat_of_nonneg hx.1, List.append_assoc]; rfl
theorem textP_enc (t : ByteArray) (r : List Int) (h : t.size ≤ 1000) : textP (some (encT (bytes t) ++ r)) = (t, some r) := by
  unfold textP
  simp only
  rw [decT_enc _ _ (by rw [bytes_length]; omega)]
  simp only [List.drop_left, bytesOf_bytes]
theorem msgP_body (m : MsgV) (h : OkM m) (r : List Int) : msgP (body m ++ r) = (m, some r) := by
  have h1 := h.kd; have h2 := h.fr; have h3 := h.to; have h4 := h.inc; have h5 := h.ep; have h6 := h.ag; have h7 := h.pl; have h8 := h.pa; have h9 := h.lo; have h10 := h.hi; have h11 := h.tx
  obtain ⟨kd, fr, to, inc, ep, ag, pa, lo, hi, tx⟩ := m
  simp only [MsgV.kd, MsgV.fr, MsgV.to, MsgV.inc, MsgV.ep, MsgV.ag, MsgV.pa, MsgV.lo, MsgV.hi, MsgV.tx] at h1 h2 h3 h4 h5 h6 h7 h8 h9 h10 h11
  have e : body (kd, fr, to, inc, ep, ag, pa, lo, hi, tx) ++ r =
      encI kd ++ (encI fr ++ (encI to ++ (encI inc ++ (encI ep ++ (encI ag ++ (encI (pa.length : Int) ++ (encs pa ++ (encI lo ++ (encI hi ++ (encT (bytes tx) ++ r)))))))))) := by
    unfold body numsM
    rw [encs_app, encs_app]
    simp only [encs, List.append_nil, List.append_assoc, MsgV.kd, MsgV.fr, MsgV.to, MsgV.inc, MsgV.ep, MsgV.ag, MsgV.pa, MsgV.lo, MsgV.hi, MsgV.tx]
  rw [e]
  unfold msgP
  dsimp only
  rw [numP_enc kd _ (by omega)]; dsimp only
  rw [numP_enc fr _ (by omega)]; dsimp only
  rw [numP_enc to _ (by omega)]; dsimp only
  rw [numP_enc inc _ (by omega)]; dsimp only
  rw [numP_enc ep _ (by omega)]; dsimp only
  rw [numP_enc ag _ (by omega)]; dsimp only
  rw [numP_enc (pa.length : Int) _ (by omega)]; dsimp only
  rw [toNat_nat, if_neg (by omega), stepsP_enc pa [] _ (fun x hx => by have := h8 x hx; omega)]
  unfold endP
  dsimp only
  rw [numP_enc lo _ (by omega)]; dsimp only
  rw [numP_enc hi _ (by omega)]; dsimp only
  rw [textP_enc tx r (by omega)]; dsimp only
  rw [Int.toNat_of_nonneg (by omega), Int.toNat_of_nonneg (by omega), Int.toNat_of_nonneg (by omega), Int.toNat_of_nonneg (by omega), Int.toNat_of_nonneg (by omega), Int.toNat_of_nonneg (by omega), Int.toNat_of_nonneg (by omega), Int.toNat_of_nonneg (by omega)]
  rfl
def takeM (b : List Int) : Option MsgV :=
  if b.length < 4 then none else
  match msgP (b.take (b.length - 4)) with
  | (m, some _) => if putM m = b then some m else none
  | (_, none) => none
theorem putM_len4 {m : MsgV} (h : 4 ≤ (putM m).length) : mayP m = true := by
  unfold putM at h
  split at h
  · assumption
  · simp at h
theorem takeM_put {m : MsgV} (h : mayP m = true) : takeM (putM m) = some m := by
  have e : putM m = body m ++ tail4 (crcV (body m)) := by unfold putM; rw [if_pos h]
  unfold takeM
  have el : (putM m).length = (body m).length + 4 := by rw [e, List.length_append, tail4_len]
  have e2 : (putM m).take ((putM m).length - 4) = body m ++ [] := by
    rw [el, e, show (body m).length + 4 - 4 = (body m).length by omega, List.take_left, List.append_nil]
  rw [e2, msgP_body m (mayP_ok h), if_neg (by omega)]
  simp only
  rw [if_pos trivial]
theorem takeM_some {b : List Int} {m : MsgV} (h : takeM b = some m) : mayP m = true ∧ b = putM m := by
  unfold takeM at h
  split at h
  · cases h
  · rename_i hl
    split at h
    · split at h
      · rename_i h2
        have h3 : _ = m := Option.some.inj h
        subst h3
        exact ⟨putM_len4 (by rw [h2]; omega), h2.symm⟩
      · cases h
    · cases h
theorem putM_inj {a b : MsgV} (ha : mayP a = true) (h : putM a = putM b) : a = b := by
  have h1 := takeM_put ha
  have hb : mayP b = true := putM_len4 (by
    rw [← h]; unfold putM; rw [if_pos ha, List.length_append, tail4_len]; omega)
  have h2 := takeM_put hb
  rw [h, h2] at h1
  exact (Option.some.inj h1).symm
theorem putM_two {a b : MsgV} {r : List Int} (ha : mayP a = true) (hb : mayP b = true) (h : putM a ++ r = putM b) : a = b ∧ r = [] := by
  have ea : putM a = body a ++ tail4 (crcV (body a)) := by unfold putM; rw [if_pos ha]
  have eb : putM b = body b ++ tail4 (crcV (body b)) := by unfold putM; rw [if_pos hb]
  have h1 := msgP_body a (mayP_ok ha) (tail4 (crcV (body a)) ++ r)
  have h2 := msgP_body b (mayP_ok hb) (tail4 (crcV (body b)))
  rw [← List.append_assoc, ← ea, h, eb, h2] at h1
  have e : b = a := congrArg Prod.fst h1
  subst e
  refine ⟨rfl, ?_⟩
  have := congrArg List.length h
  rw [List.length_append] at this
  exact List.eq_nil_of_length_eq_zero (by omega)
theorem takeM_cut {m : MsgV} (h : mayP m = true) (k : Nat) (hk : k < (putM m).length) : takeM ((putM m).take k) = none := by
  cases ht : takeM ((putM m).take k) with
  | none => rfl
  | some a =>
    obtain ⟨h1, h2⟩ := takeM_some ht
    have h3 : putM a ++ (putM m).drop k = putM m := by rw [← h2, List.take_append_drop]
    have h4 := (putM_two h1 h h3).2
    have := congrArg List.length h4
    rw [List.length_drop, List.length_nil] at this
    omega
theorem takeM_more {m : MsgV} (h : mayP m = true) (x : Int) : takeM (putM m ++ [x]) = none := by
  cases ht : takeM (putM m ++ [x]) with
  | none => rfl
  | some a =>
    obtain ⟨h1, h2⟩ := takeM_some ht
    have h4 := (putM_two h h1 h2).2
    cases h4
theorem takeM_turn {m : MsgV} (h : mayP m = true) (i : Nat) (hi : i < (putM m).length) (y : Int) (hy : 0 ≤ y ∧ y < 256) (hn : List.getD (putM m) i 0 ≠ y) : takeM ((putM m).set i y) = none := by
  cases ht : takeM ((putM m).set i y) with
  | none => rfl
  | some a =>
    exfalso
    obtain ⟨h1, h2⟩ := takeM_some ht
    have em : putM m = body m ++ tail4 (crcV (body m)) := by unfold putM; rw [if_pos h]
    have ea : putM a = body a ++ tail4 (crcV (body a)) := by unfold putM; rw [if_pos h1]
    have hne : putM a ≠ putM m := by
      intro e
      rw [← h2] at e
      apply hn
      have h5 : List.getD ((putM m).set i y) i 0 = y := by
        rw [List.getD_eq_getElem?_getD, List.getElem?_set_self hi]; rfl
      rw [e] at h5; exact h5
    by_cases hb : i < (body m).length
    · have h3 : body a ++ tail4 (crcV (body a)) = (body m).set i y ++ tail4 (crcV (body m)) := by
        rw [← ea, ← h2, em, List.set_append_left _ _ hb]
      have hlen : (body a).length = ((body m).set i y).length := by
        have := congrArg List.length h3
        rw [List.length_append, List.length_append, tail4_len, tail4_len] at this
        omega
      obtain ⟨h4, h5⟩ := List.append_inj h3 hlen
      have h6 := tail4_inj (crcV_lt (body_bytes a)) (crcV_lt (body_bytes m)) h5
      rw [h4] at h6
      have h7 := crcV_turn (body_bytes m) hb hy h6
      apply hn
      rw [em, ← h7]
      simp only [List.getD_eq_getElem?_getD, List.getElem?_append_left hb]
    · have h3 : body a ++ tail4 (crcV (body a)) = body m ++ (tail4 (crcV (body m))).set (i - (body m).length) y := by
        rw [← ea, ← h2, em, List.set_append_right _ _ (by omega)]
      have h4 := msgP_body a (mayP_ok h1) (tail4 (crcV (body a)))
      rw [h3, msgP_body m (mayP_ok h)] at h4
      have e : m = a := congrArg Prod.fst h4
      subst e
      exact hne rfl
theorem both_same {R : Type} (i : DecidableEq R) (a : Option R) : @bothDec R i a a = a := if_pos rfl
def zeroM : MsgV := (0, 0, 0, 0, 0, 0, [], 0, 0, (⟨#[]⟩ : ByteArray))
def takeV (o : Option MsgV) : (MsgV × Bool × Unit) × Unit :=
  match o with
  | some m => ((m, true, ()), ())
  | none => ((zeroM, false, ()), ())
theorem msg_Take_eq' (b : List Int) (hb : isBytes b) (hl : b.length ≤ 1000000000) : msg_Take b = some (takeV (takeM b)) := by
  unfold msg_Take msg_Take_raw takeM
  by_cases h4 : b.length < 4
  · rw [cdp (by omega), if_pos h4]; rfl
  rw [cdn (by omega), if_neg h4, wi64 (by omega) (by omega), cand, cdp (by omega), cdp (by omega)]
  have e1 : ((b.length : Int) - 4).toNat = b.length - 4 := by omega
  rw [e1, List.drop_zero]
  obtain ⟨s', h1, h2⟩ := reader_msg (b.take (b.length - 4)) (isBytes_take hb _) (by rw [List.length_take]; omega)
  rw [h1]
  have h3 := msgP_len (b.take (b.length - 4))
  generalize msgP (b.take (b.length - 4)) = q at *
  obtain ⟨m, o⟩ := q
  simp only at h2 h3
  dsimp only [Option.bind_some]
  rw [msg_Put_eq' m (by omega)]
  dsimp only [Option.bind_some]
  rw [equal_byte _ _ (by have := putM_len m; omega) hl]
  cases o with
  | none =>
    obtain ⟨a, ha⟩ := h2.is'
    rw [ha]
    simp only [IV.is, beq_self_eq_true, cond_true]
    rfl
  | some l =>
    obtain ⟨h5, h6⟩ := h2.is'
    rw [h6]
    simp only [IV.is, cond_false, Option.bind_some]
    have hd : (List.isEmpty (putM m)) = true → decide (putM m = b) = false := by
      intro he
      rw [List.isEmpty_iff] at he
      rw [decide_eq_false]
      intro e
      rw [he] at e
      rw [← e] at h4
      simp at h4
    cases hem : List.isEmpty (putM m) with
    | true =>
      rw [hd hem]
      have hd' := hd hem
      rw [decide_eq_false_iff_not] at hd'
      simp only [nt, nf, cond_true, cond_false]
      rw [both_same, if_neg hd']
      rfl
    | false =>
      simp only [nt, nf, cond_true, cond_false]
      by_cases he : putM m = b
      · rw [decide_eq_true he, if_pos he]; rfl
      · rw [decide_eq_false he, if_neg he]; rfl
end Go.PE
