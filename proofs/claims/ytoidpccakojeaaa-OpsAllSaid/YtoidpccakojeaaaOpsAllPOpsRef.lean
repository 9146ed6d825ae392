/-
  Plain lemmas on the functions.
  Conditions: none.
-/
import Derived.Test.YtoidpccakojeaaaOpsAllPOpsLaws
set_option linter.unusedVariables false
set_option linter.unusedSimpArgs false
set_option maxRecDepth 20000
namespace Go.PE
noncomputable def rsBody (Z : List Int → List StepV → Option ((List StepV × Unit) × Unit)) (C : List Int → Bool → List StepV → Option ((List StepV × Unit) × Unit)) (l : List Int) (v : Bool) (acc : List StepV) : Option ((List StepV × Unit) × Unit) :=
 bif decide ((l.length : Int) > 0) then
  bif decide (0 < (l.length : Int)) then
   bif decide (1 ≤ (l.length : Int)) && decide ((l.length : Int) ≤ (l.length : Int)) then
    bif (IntKind.wrap .i64 (Int.tmod (List.getD l 0 0) 10)) == 0 then
     Z (List.drop 1 (List.take ((l.length : Int).toNat) l)) acc
    else
    bif (IntKind.wrap .i64 (Int.tmod (List.getD l 0 0) 10)) == 1 then
     Option.bind (pleachref10_reader_num (List.drop 1 (List.take ((l.length : Int).toNat) l), v)) fun (r3 : (Int × Unit) × (((List Int) × Bool) × Unit)) =>
     Option.bind (pleachref10_reader_text r3.2.1) fun (r4 : (ByteArray × Unit) × (((List Int) × Bool) × Unit)) =>
     bif r4.2.1.2 then
      some ((acc, ()), ())
     else
     bif Nat.ble (acc.length + 1) 1073741824 then
      C r4.2.1.1 r4.2.1.2 (acc ++ [(IntKind.wrap .i64 (Int.tmod (List.getD l 0 0) 10), r3.1.1, 0, 0, r4.1.1)])
     else none
    else
    bif (IntKind.wrap .i64 (Int.tmod (List.getD l 0 0) 10)) == 2 then
     bif (IntKind.wrap .i64 (Int.tmod (List.getD l 0 0) 10)) == 2 then
      Option.bind (pleachref10_reader_num (List.drop 1 (List.take ((l.length : Int).toNat) l), v)) fun (r25 : (Int × Unit) × (((List Int) × Bool) × Unit)) =>
      bif r25.2.1.2 then
       some ((acc, ()), ())
      else
      bif Nat.ble (acc.length + 1) 1073741824 then
       C r25.2.1.1 r25.2.1.2 (acc ++ [(IntKind.wrap .i64 (Int.tmod (List.getD l 0 0) 10), r25.1.1, 0, 0, (⟨#[]⟩ : ByteArray))])
      else none
     else
     bif (IntKind.wrap .i64 (Int.tmod (List.getD l 0 0) 10)) == 4 then
      Option.bind (pleachref10_reader_text (List.drop 1 (List.take ((l.length : Int).toNat) l), v)) fun (r26 : (ByteArray × Unit) × (((List Int) × Bool) × Unit)) =>
      bif r26.2.1.2 then
       some ((acc, ()), ())
      else
      bif Nat.ble (acc.length + 1) 1073741824 then
       C r26.2.1.1 r26.2.1.2 (acc ++ [(IntKind.wrap .i64 (Int.tmod (List.getD l 0 0) 10), 0, 0, 0, r26.1.1)])
      else none
     else
     bif (IntKind.wrap .i64 (Int.tmod (List.getD l 0 0) 10)) == 9 then
      Option.bind (pleachref10_reader_num (List.drop 1 (List.take ((l.length : Int).toNat) l), v)) fun (r27 : (Int × Unit) × (((List Int) × Bool) × Unit)) =>
      Option.bind (pleachref10_reader_num r27.2.1) fun (r28 : (Int × Unit) × (((List Int) × Bool) × Unit)) =>
      bif r28.2.1.2 then
       some ((acc, ()), ())
      else
      bif Nat.ble (acc.length + 1) 1073741824 then
       C r28.2.1.1 r28.2.1.2 (acc ++ [(IntKind.wrap .i64 (Int.tmod (List.getD l 0 0) 10), 0, r27.1.1, r28.1.1, (⟨#[]⟩ : ByteArray))])
      else none
     else
      Option.bind (pleachref10_reader_num (List.drop 1 (List.take ((l.length : Int).toNat) l), v)) fun (r29 : (Int × Unit) × (((List Int) × Bool) × Unit)) =>
      bif r29.2.1.2 then
       some ((acc, ()), ())
      else
      bif Nat.ble (acc.length + 1) 1073741824 then
       C r29.2.1.1 r29.2.1.2 (acc ++ [(IntKind.wrap .i64 (Int.tmod (List.getD l 0 0) 10), 0, r29.1.1, 0, (⟨#[]⟩ : ByteArray))])
      else none
    else
    bif (IntKind.wrap .i64 (Int.tmod (List.getD l 0 0) 10)) == 3 then
     bif (IntKind.wrap .i64 (Int.tmod (List.getD l 0 0) 10)) == 3 then
      Option.bind (pleachref10_reader_num (List.drop 1 (List.take ((l.length : Int).toNat) l), v)) fun (r30 : (Int × Unit) × (((List Int) × Bool) × Unit)) =>
      bif r30.2.1.2 then
       some ((acc, ()), ())
      else
      bif Nat.ble (acc.length + 1) 1073741824 then
       C r30.2.1.1 r30.2.1.2 (acc ++ [(IntKind.wrap .i64 (Int.tmod (List.getD l 0 0) 10), r30.1.1, 0, 0, (⟨#[]⟩ : ByteArray))])
      else none
     else
     bif (IntKind.wrap .i64 (Int.tmod (List.getD l 0 0) 10)) == 4 then
      Option.bind (pleachref10_reader_text (List.drop 1 (List.take ((l.length : Int).toNat) l), v)) fun (r31 : (ByteArray × Unit) × (((List Int) × Bool) × Unit)) =>
      bif r31.2.1.2 then
       some ((acc, ()), ())
      else
      bif Nat.ble (acc.length + 1) 1073741824 then
       C r31.2.1.1 r31.2.1.2 (acc ++ [(IntKind.wrap .i64 (Int.tmod (List.getD l 0 0) 10), 0, 0, 0, r31.1.1)])
      else none
     else
     bif (IntKind.wrap .i64 (Int.tmod (List.getD l 0 0) 10)) == 9 then
      Option.bind (pleachref10_reader_num (List.drop 1 (List.take ((l.length : Int).toNat) l), v)) fun (r32 : (Int × Unit) × (((List Int) × Bool) × Unit)) =>
      Option.bind (pleachref10_reader_num r32.2.1) fun (r33 : (Int × Unit) × (((List Int) × Bool) × Unit)) =>
      bif r33.2.1.2 then
       some ((acc, ()), ())
      else
      bif Nat.ble (acc.length + 1) 1073741824 then
       C r33.2.1.1 r33.2.1.2 (acc ++ [(IntKind.wrap .i64 (Int.tmod (List.getD l 0 0) 10), 0, r32.1.1, r33.1.1, (⟨#[]⟩ : ByteArray))])
      else none
     else
      Option.bind (pleachref10_reader_num (List.drop 1 (List.take ((l.length : Int).toNat) l), v)) fun (r34 : (Int × Unit) × (((List Int) × Bool) × Unit)) =>
      bif r34.2.1.2 then
       some ((acc, ()), ())
      else
      bif Nat.ble (acc.length + 1) 1073741824 then
       C r34.2.1.1 r34.2.1.2 (acc ++ [(IntKind.wrap .i64 (Int.tmod (List.getD l 0 0) 10), 0, r34.1.1, 0, (⟨#[]⟩ : ByteArray))])
      else none
    else
    bif (IntKind.wrap .i64 (Int.tmod (List.getD l 0 0) 10)) == 5 then
     Option.bind (pleachref10_reader_num (List.drop 1 (List.take ((l.length : Int).toNat) l), v)) fun (r35 : (Int × Unit) × (((List Int) × Bool) × Unit)) =>
     bif r35.2.1.2 then
      some ((acc, ()), ())
     else
     bif Nat.ble (acc.length + 1) 1073741824 then
      C r35.2.1.1 r35.2.1.2 (acc ++ [(IntKind.wrap .i64 (Int.tmod (List.getD l 0 0) 10), r35.1.1, 0, 0, (⟨#[]⟩ : ByteArray))])
     else none
    else
    bif (IntKind.wrap .i64 (Int.tmod (List.getD l 0 0) 10)) == 4 then
     Option.bind (pleachref10_reader_text (List.drop 1 (List.take ((l.length : Int).toNat) l), v)) fun (r36 : (ByteArray × Unit) × (((List Int) × Bool) × Unit)) =>
     bif r36.2.1.2 then
      some ((acc, ()), ())
     else
     bif Nat.ble (acc.length + 1) 1073741824 then
      C r36.2.1.1 r36.2.1.2 (acc ++ [(IntKind.wrap .i64 (Int.tmod (List.getD l 0 0) 10), 0, 0, 0, r36.1.1)])
     else none
    else
    bif (IntKind.wrap .i64 (Int.tmod (List.getD l 0 0) 10)) == 9 then
     Option.bind (pleachref10_reader_num (List.drop 1 (List.take ((l.length : Int).toNat) l), v)) fun (r37 : (Int × Unit) × (((List Int) × Bool) × Unit)) =>
     Option.bind (pleachref10_reader_num r37.2.1) fun (r38 : (Int × Unit) × (((List Int) × Bool) × Unit)) =>
     bif r38.2.1.2 then
      some ((acc, ()), ())
     else
     bif Nat.ble (acc.length + 1) 1073741824 then
      C r38.2.1.1 r38.2.1.2 (acc ++ [(IntKind.wrap .i64 (Int.tmod (List.getD l 0 0) 10), 0, r37.1.1, r38.1.1, (⟨#[]⟩ : ByteArray))])
     else none
    else
     Option.bind (pleachref10_reader_num (List.drop 1 (List.take ((l.length : Int).toNat) l), v)) fun (r39 : (Int × Unit) × (((List Int) × Bool) × Unit)) =>
     bif r39.2.1.2 then
      some ((acc, ()), ())
     else
     bif Nat.ble (acc.length + 1) 1073741824 then
      C r39.2.1.1 r39.2.1.2 (acc ++ [(IntKind.wrap .i64 (Int.tmod (List.getD l 0 0) 10), 0, r39.1.1, 0, (⟨#[]⟩ : ByteArray))])
     else none
   else none
  else none
 else
  some ((acc, ()), ())
theorem rs_B1 (L1 : List Int → List StepV → Option ((List StepV × Unit) × Unit)) (L2 : List Int → Bool → List StepV → Option ((List StepV × Unit) × Unit)) (l : List Int) (acc : List StepV) :
    pleachref10_TakeSteps_B1 L1 L2 l acc = rsBody L1 L2 l false acc := rfl
theorem rs_B2 (L2 : List Int → Bool → List StepV → Option ((List StepV × Unit) × Unit)) (l : List Int) (v : Bool) (acc : List StepV) :
    pleachref10_TakeSteps_B2 L2 l v acc = rsBody (fun l acc => L2 l v acc) L2 l v acc := rfl
theorem rs_num (l : List Int) (hb : isBytes l) (hl : l.length ≤ 4611686018427387904) : pleachref10_reader_num (l, false) = match onum l with
    | some (v, q) => some (((v : Int), ()), ((q, false), ()))
    | none => some ((0, ()), ((l, true), ())) := by
  have eT := ref_TakeNum_eq' l hb hl
  have e1 : ((l.length : Int)).toNat = l.length := rfl
  unfold pleachref10_reader_num onum
  dsimp only
  cases hd : dec l with
  | none =>
    rw [hd, decI_none] at eT
    rw [eT]
    rfl
  | some p =>
    obtain ⟨v, n⟩ := p
    obtain ⟨h0, h1, h2, h3⟩ := dec_le hb hd
    rw [hd, decI_some] at eT
    rw [eT]
    dsimp only [Option.bind_some, nt, nf, cond_false, cond_true]
    rw [cand, cand, cdp (by omega), cdp (by omega), cdp (by omega), e1, List.take_length]; rfl
theorem rs_text (l : List Int) (hb : isBytes l) (hl : l.length ≤ 4611686018427387904) : pleachref10_reader_text (l, false) = match otxt l with
    | some (t, q) => some ((bytesOf t, ()), ((q, false), ()))
    | none => some ((emp, ()), ((l, true), ())) := by
  have eT := ref_TakeText_eq' l hb hl
  have e1 : ((l.length : Int)).toNat = l.length := rfl
  unfold pleachref10_reader_text otxt
  dsimp only
  cases hd : decT l with
  | none =>
    rw [hd, decTI_none] at eT
    rw [eT]
    rfl
  | some p =>
    obtain ⟨v, n⟩ := p
    obtain ⟨h0, h1, h2⟩ := decT_le hb hd
    rw [hd, decTI_some] at eT
    rw [eT]
    dsimp only [Option.bind_some, nt, nf, cond_false, cond_true]
    rw [cand, cand, cdp (by omega), cdp (by omega), cdp (by omega), e1, List.take_length]; rfl
theorem rs_num_bad (l : List Int) (hb : isBytes l) (hl : l.length ≤ 4611686018427387904) : pleachref10_reader_num (l, true) = some ((0, ()), ((l, true), ())) := by
  have eT := ref_TakeNum_eq' l hb hl
  unfold pleachref10_reader_num
  dsimp only
  rw [eT]
  cases dec l <;> rfl
theorem rs_text_bad (l : List Int) (hb : isBytes l) (hl : l.length ≤ 4611686018427387904) : pleachref10_reader_text (l, true) = some ((emp, ()), ((l, true), ())) := by
  have eT := ref_TakeText_eq' l hb hl
  unfold pleachref10_reader_text
  dsimp only
  rw [eT]
  cases decT l <;> rfl
theorem rs_body (Z : List Int → List StepV → Option ((List StepV × Unit) × Unit)) (C : List Int → Bool → List StepV → Option ((List StepV × Unit) × Unit)) (x : Int) (r : List Int) (acc : List StepV)
    (hb : isBytes (x :: r)) (hl : r.length ≤ 1000000) (ha : acc.length ≤ 1000000000) :
    rsBody Z C (x :: r) false acc = if x % 10 = 0 then Z r acc else match stepP (x % 10) r with
      | none => some ((acc, ()), ())
      | some (s, q) => C q false (acc ++ [s]) := by
  have hr : isBytes r := fun y hy => hb y (List.mem_cons_of_mem _ hy)
  have hx := hb x (List.mem_cons_self ..)
  unfold rsBody
  have g0 : List.getD (x :: r) 0 0 = x := rfl
  have gl : ((x :: r).length : Int) = (r.length : Int) + 1 := by simp
  have gt : List.drop 1 (List.take (((x :: r).length : Int).toNat) (x :: r)) = r := by
    have e1 : (((x :: r).length : Int)).toNat = (x :: r).length := rfl
    rw [e1, List.take_length]; rfl
  rw [gt, g0, cdp (by omega), cdp (by omega), cand, cdp (by omega), cdp (by omega), Int.tmod_eq_emod_of_nonneg hx.1, wi64 (x := x % 10) (by omega) (by omega)]
  have nk : 0 ≤ x % 10 ∧ x % 10 < 10 := by omega
  generalize x % 10 = k at *
  have hn := rs_num r hr (by omega)
  have ht := rs_text r hr (by omega)
  have cb : Nat.ble (acc.length + 1) 1073741824 = true := Nat.ble_eq_true_of_le (by omega)
  rw [ceq]
  by_cases k0 : k = 0
  · rw [if_pos k0, if_pos k0]
  rw [if_neg k0, if_neg k0]
  have one : ∀ f : Int → StepV, (Option.bind (pleachref10_reader_num (r, false)) fun (z : (Int × Unit) × ((List Int × Bool) × Unit)) => bif z.2.1.2 then some ((acc, ()), ()) else bif Nat.ble (acc.length + 1) 1073741824 then C z.2.1.1 z.2.1.2 (acc ++ [f z.1.1]) else none) =
      match (onum r).bind fun a => some (f a.1, a.2) with
      | none => some ((acc, ()), ())
      | some (s, q) => C q false (acc ++ [s]) := by
    intro f
    rw [hn]
    cases onum r with
    | none => rfl
    | some a => obtain ⟨v, q⟩ := a; dsimp only [Option.bind_some, cond_false]; rw [cb]; rfl
  have txt : ∀ f : ByteArray → StepV, (Option.bind (pleachref10_reader_text (r, false)) fun (z : (ByteArray × Unit) × ((List Int × Bool) × Unit)) => bif z.2.1.2 then some ((acc, ()), ()) else bif Nat.ble (acc.length + 1) 1073741824 then C z.2.1.1 z.2.1.2 (acc ++ [f z.1.1]) else none) =
      match (otxt r).bind fun a => some (f (bytesOf a.1), a.2) with
      | none => some ((acc, ()), ())
      | some (s, q) => C q false (acc ++ [s]) := by
    intro f
    rw [ht]
    cases otxt r with
    | none => rfl
    | some a => obtain ⟨v, q⟩ := a; dsimp only [Option.bind_some, cond_false]; rw [cb]; rfl
  unfold stepP
  rw [ceq]
  by_cases k1 : k = 1
  · rw [if_pos k1, if_pos k1, hn]
    cases h1 : onum r with
    | none => dsimp only [Option.bind_some]; rw [rs_text_bad r hr (by omega)]; rfl
    | some a =>
      obtain ⟨v, q⟩ := a
      obtain ⟨a1, a2, a3⟩ := onum_spec hr h1
      have hq : isBytes q := bytes_suffix hr a3
      dsimp only [Option.bind_some]
      rw [rs_text q hq (by omega)]
      cases otxt q with
      | none => rfl
      | some c => obtain ⟨t, q2⟩ := c; dsimp only [Option.bind_some, cond_false]; rw [cb]; rfl
  rw [if_neg k1, if_neg k1, ceq]
  by_cases k2 : k = 2
  · rw [if_pos k2, if_pos (.inl k2), ceq, if_pos k2]
    exact one (fun v => (k, v, 0, 0, emp))
  rw [if_neg k2, ceq]
  by_cases k3 : k = 3
  · rw [if_pos k3, if_pos (.inr (.inl k3)), ceq, if_pos k3]
    exact one (fun v => (k, v, 0, 0, emp))
  rw [if_neg k3, ceq]
  by_cases k5 : k = 5
  · rw [if_pos k5, if_pos (.inr (.inr k5))]
    exact one (fun v => (k, v, 0, 0, emp))
  rw [if_neg k5, if_neg (fun h => h.elim k2 (fun h => h.elim k3 k5)), ceq]
  by_cases k4 : k = 4
  · rw [if_pos k4, if_pos k4]
    exact txt (fun t => (k, 0, 0, 0, t))
  rw [if_neg k4, if_neg k4, ceq]
  by_cases k9 : k = 9
  · rw [if_pos k9, if_pos k9, hn]
    cases h1 : onum r with
    | none => dsimp only [Option.bind_some]; rw [rs_num_bad r hr (by omega)]; rfl
    | some a =>
      obtain ⟨v, q⟩ := a
      obtain ⟨a1, a2, a3⟩ := onum_spec hr h1
      have hq : isBytes q := bytes_suffix hr a3
      dsimp only [Option.bind_some]
      rw [rs_num q hq (by omega)]
      cases onum q with
      | none => rfl
      | some c => obtain ⟨t, q2⟩ := c; dsimp only [Option.bind_some, cond_false]; rw [cb]; rfl
  rw [if_neg k9, if_neg k9]
  exact one (fun v => (k, 0, v, 0, emp))
theorem rs_L2 (n : Nat) : ∀ (k m : Nat) (acc : List StepV) (l : List Int), isBytes l → l.length ≤ k → k < m → k ≤ 1000000 → acc.length + l.length ≤ 1000000000 →
    pleachref10_TakeSteps_L2 n m l false acc = some ((acc ++ takeF k l, ()), ())
  | k, 0, acc, l, _, _, h, _, _ => by omega
  | k, m + 1, acc, [], hb, hk, h, h6, ha => by
    show pleachref10_TakeSteps_B2 (pleachref10_TakeSteps_L2 n m) [] false acc = _
    unfold pleachref10_TakeSteps_B2
    rw [cdn (by simp)]
    cases k <;> simp [takeF]
  | 0, m + 1, acc, x :: r, hb, hk, h, h6, ha => by simp at hk
  | k + 1, m + 1, acc, x :: r, hb, hk, h, h6, ha => by
    show pleachref10_TakeSteps_B2 (pleachref10_TakeSteps_L2 n m) (x :: r) false acc = _
    have hr : isBytes r := fun y hy => hb y (List.mem_cons_of_mem _ hy)
    rw [List.length_cons] at hk ha
    rw [rs_B2, rs_body _ _ x r acc hb (by omega) (by omega)]
    unfold takeF
    by_cases h0 : x % 10 = 0
    · rw [if_pos h0, if_pos h0, rs_L2 n k m acc r hr (by omega) (by omega) (by omega) (by omega)]
    · rw [if_neg h0, if_neg h0]
      cases hs : stepP (x % 10) r with
      | none => simp
      | some a =>
        obtain ⟨s, q⟩ := a
        obtain ⟨g1, g2⟩ := stepP_short hr hs
        dsimp only
        rw [rs_L2 n k m (acc ++ [s]) q g2 (by omega) (by omega) (by omega) (by rw [List.length_append, List.length_singleton]; omega), List.append_assoc]; rfl
theorem rs_L1 (n : Nat) : ∀ (k m : Nat) (acc : List StepV) (l : List Int), isBytes l → l.length ≤ k → k < m → k ≤ 1000000 → acc.length + l.length ≤ 1000000000 →
    pleachref10_TakeSteps_L1 n m l acc = some ((acc ++ takeF k l, ()), ())
  | k, 0, acc, l, _, _, h, _, _ => by omega
  | k, m + 1, acc, [], hb, hk, h, h6, ha => by
    show pleachref10_TakeSteps_B1 (pleachref10_TakeSteps_L1 n m) (pleachref10_TakeSteps_L2 n m) [] acc = _
    unfold pleachref10_TakeSteps_B1
    rw [cdn (by simp)]
    cases k <;> simp [takeF]
  | 0, m + 1, acc, x :: r, hb, hk, h, h6, ha => by simp at hk
  | k + 1, m + 1, acc, x :: r, hb, hk, h, h6, ha => by
    show pleachref10_TakeSteps_B1 (pleachref10_TakeSteps_L1 n m) (pleachref10_TakeSteps_L2 n m) (x :: r) acc = _
    have hr : isBytes r := fun y hy => hb y (List.mem_cons_of_mem _ hy)
    rw [List.length_cons] at hk ha
    rw [rs_B1, rs_body _ _ x r acc hb (by omega) (by omega)]
    unfold takeF
    by_cases h0 : x % 10 = 0
    · rw [if_pos h0, if_pos h0, rs_L1 n k m acc r hr (by omega) (by omega) (by omega) (by omega)]
    · rw [if_neg h0, if_neg h0]
      cases hs : stepP (x % 10) r with
      | none => simp
      | some a =>
        obtain ⟨s, q⟩ := a
        obtain ⟨g1, g2⟩ := stepP_short hr hs
        dsimp only
        rw [rs_L2 n k m (acc ++ [s]) q g2 (by omega) (by omega) (by omega) (by rw [List.length_append, List.length_singleton]; omega), List.append_assoc]; rfl
theorem ref_TakeSteps_eq' (l : List Int) (hb : isBytes l) (hl : l.length ≤ 1000000) : pleachref10_TakeSteps l = some ((takeS l, ()), ()) :=
  rs_L1 1099511627776 l.length 1099511627776 [] l hb (Nat.le_refl _) (by omega) hl (by simp; omega)
def rput (s : StepV) : List Int := if s.2.1 < 0 ∨ s.2.2.1 < 0 ∨ s.2.2.2.1 < 0 then [] else put1 s
theorem ref_putStep_eq' (s : StepV) (h : wfStep s) : pleachref10_putStep s = some ((rput s, ()), ()) := by
  obtain ⟨k, r, i, t, x⟩ := s
  obtain ⟨hk, hr, hi, ht, hx⟩ := h
  dsimp only at hk hr hi ht hx
  unfold pleachref10_putStep rput
  dsimp only
  by_cases n1 : r < 0
  · rw [cdp n1, if_pos (.inl n1)]
  rw [cdn n1]
  by_cases n2 : i < 0
  · rw [cdp n2, if_pos (.inr (.inl n2))]
  rw [cdn n2]
  by_cases n3 : t < 0
  · rw [cdp n3, if_pos (.inr (.inr n3))]
  rw [cdn n3, if_neg (by omega)]
  have m1 : mx r < 9223372036854775808 := by unfold mx; omega
  have m2 : mx i < 9223372036854775808 := by unfold mx; omega
  have m3 : mx t < 9223372036854775808 := by unfold mx; omega
  have l1 := enc_length (mx r)
  have l2 := enc_length (mx i)
  have eT : enc x.size ++ bytes x = encT (bytes x) := by unfold encT; rw [bytes_length]
  have pn : ∀ v : Int, ¬ v < 0 → mx v < 9223372036854775808 → pleachref10_PutNum [IntKind.wrap .u8 k] v = some ((u8 k :: enc (mx v), ()), ()) := fun v hv hv2 => by
    have e1 : v = ((mx v : Nat) : Int) := by unfold mx; omega
    have := ref_PutNum_eq' [IntKind.wrap .u8 k] (mx v) hv2 (by simp)
    rw [← e1] at this
    rw [this, wu8_mod]; rfl
  have pt : ((mx t : Nat) : Int) = t := by unfold mx; omega
  unfold put1
  dsimp only
  by_cases h1 : k = 1
  · rw [if_pos h1, ceqp h1, pn r n1 m1]
    dsimp only [Option.bind_some]
    rw [ref_PutText_eq' _ _ (by omega) (by simp only [List.length_cons]; omega), eT]; rfl
  rw [if_neg h1, ceqn h1]
  by_cases h2 : k = 2
  · rw [if_pos (.inl h2), ceqp h2, ceqp h2, pn r n1 m1]; rfl
  rw [ceqn h2]
  by_cases h3 : k = 3
  · rw [if_pos (.inr (.inl h3)), ceqp h3, ceqp h3, pn r n1 m1]; rfl
  rw [ceqn h3]
  by_cases h5 : k = 5
  · rw [if_pos (.inr (.inr h5)), ceqp h5, pn r n1 m1]; rfl
  rw [ceqn h5, if_neg (by omega)]
  by_cases h4 : k = 4
  · rw [if_pos h4, ceqp h4, ref_PutText_eq' _ _ (by omega) (by simp), eT, wu8_mod]; rfl
  rw [ceqn h4, if_neg h4]
  by_cases h9 : k = 9
  · rw [if_pos h9, ceqp h9, pn i n2 m2]
    dsimp only [Option.bind_some]
    rw [← pt, ref_PutNum_eq' _ (mx t) m3 (by simp only [List.length_cons]; omega)]; rfl
  rw [ceqn h9, if_neg h9, pn i n2 m2]; rfl
theorem stepP_pos {k : Int} {l q : List Int} {s : StepV} (h : stepP k l = some (s, q)) : 0 ≤ s.2.1 ∧ 0 ≤ s.2.2.1 ∧ 0 ≤ s.2.2.2.1 := by
  unfold stepP at h
  split at h
  · obtain ⟨a, _, h⟩ := Option.bind_eq_some_iff.1 h
    obtain ⟨c, _, h⟩ := Option.bind_eq_some_iff.1 h
    have h := (Prod.mk.inj (Option.some.inj h)).1
    subst h; dsimp only; omega
  split at h
  · obtain ⟨a, _, h⟩ := Option.bind_eq_some_iff.1 h
    have h := (Prod.mk.inj (Option.some.inj h)).1
    subst h; dsimp only; omega
  split at h
  · obtain ⟨a, _, h⟩ := Option.bind_eq_some_iff.1 h
    have h := (Prod.mk.inj (Option.some.inj h)).1
    subst h; dsimp only; omega
  split at h
  · obtain ⟨a, _, h⟩ := Option.bind_eq_some_iff.1 h
    obtain ⟨c, _, h⟩ := Option.bind_eq_some_iff.1 h
    have h := (Prod.mk.inj (Option.some.inj h)).1
    subst h; dsimp only; omega
  · obtain ⟨a, _, h⟩ := Option.bind_eq_some_iff.1 h
    have h := (Prod.mk.inj (Option.some.inj h)).1
    subst h; dsimp only; omega
theorem rput_one (s : StepV) (hx : s.2.2.2.2.size ≤ 1000) : (if takeS (rput s) = [s] then rput s else []) = put1? s := by
  unfold rput put1?
  split
  · rename_i hneg
    rw [if_neg (by rw [takeS_nil]; simp)]
    rw [if_neg]
    intro he
    have hok := takeS_ok (put1_bytes s) (by have := put1_length s; omega) s (by rw [he]; exact List.mem_singleton.2 rfl)
    have := stepP_pos (hok.comes [])
    omega
  · rfl
theorem rput_bytes (s : StepV) : isBytes (rput s) := by
  unfold rput; split
  · intro x hx; cases hx
  · exact put1_bytes s
theorem rput_length (s : StepV) : (rput s).length ≤ s.2.2.2.2.size + 30 := by
  unfold rput; split
  · simp
  · exact put1_length s
theorem ref_PutSteps_loop (n : Nat) (l : List StepV) (hw : ∀ s ∈ l, wfStep s ∧ s.2.2.2.2.size ≤ 1000) (hl : l.length ≤ 1000) : ∀ (k m i : Nat) (acc : List Int), i + k = l.length → k < m → acc.length + k * 1030 ≤ 100000000 →
    pleachref10_PutSteps_L1 n m l (i : Int) acc = some ((acc ++ putAll (l.drop i), ()), ())
  | k, 0, i, acc, _, h, _ => by omega
  | 0, m + 1, i, acc, hk, h, ha => by
    show pleachref10_PutSteps_B1 (pleachref10_PutSteps_L1 n m) l (i : Int) acc = _
    unfold pleachref10_PutSteps_B1
    rw [cdn (by omega), List.drop_eq_nil_of_le (by omega)]; simp [putAll]
  | k + 1, m + 1, i, acc, hk, h, ha => by
    show pleachref10_PutSteps_B1 (pleachref10_PutSteps_L1 n m) l (i : Int) acc = _
    unfold pleachref10_PutSteps_B1
    have hi : i < l.length := by omega
    have q1 : i + 1 + k = l.length := by omega
    have q2 : k < m := by omega
    have c1 : decide ((0 : Int) ≤ (i : Int)) = true := decide_eq_true (by omega)
    have c2 : decide ((i : Int) < (l.length : Int)) = true := decide_eq_true (by omega)
    simp only [c1, c2, Bool.and_self, cond_true, toNat_nat]
    rw [getD_at hi, inext (by omega)]
    generalize hs : l[i] = s at *
    obtain ⟨hws, hsz⟩ : wfStep s ∧ s.2.2.2.2.size ≤ 1000 := hw s (hs ▸ List.getElem_mem hi)
    have hd : l.drop i = s :: l.drop (i + 1) := by rw [List.drop_eq_getElem_cons hi, hs]
    have hpa : putAll (s :: l.drop (i + 1)) = put1? s ++ putAll (l.drop (i + 1)) := rfl
    have ep : pleachref10_putStep (s.1, s.2.1, s.2.2.1, s.2.2.2) = some ((rput s, ()), ()) := ref_putStep_eq' s hws
    have hp1 := rput_length s
    have hone1 := rput_one s hsz
    rw [ep]
    dsimp only [Option.bind_some]
    rw [ref_TakeSteps_eq' _ (rput_bytes s) (by omega)]
    dsimp only [Option.bind_some]
    rw [hd, hpa]
    have no : takeS (rput s) ≠ [s] → pleachref10_PutSteps_L1 n m l ((i + 1 : Nat) : Int) acc = some ((acc ++ (put1? s ++ putAll (l.drop (i + 1))), ()), ()) := fun hne => by
      rw [ref_PutSteps_loop n l hw hl k m (i + 1) acc q1 q2 (by omega)]
      rw [if_neg hne] at hone1
      rw [← hone1]; rfl
    by_cases hone : (takeS (rput s)).length = 1
    · obtain ⟨x, hx⟩ := List.length_eq_one_iff.1 hone
      rw [ceqp (by omega), cdp (by omega), cdp (by omega), hx]
      have hgx : List.getD [x] 0 (0, 0, 0, 0, (⟨#[]⟩ : ByteArray)) = x := rfl
      rw [hgx]
      show (bif eqStep x s then _ else _) = _
      by_cases hxs : x = s
      · rw [if_pos (by rw [hx, hxs])] at hone1
        rw [eqStep_iff.2 hxs, cond_true, cbp (by omega)]
        rw [ref_PutSteps_loop n l hw hl k m (i + 1) _ q1 q2 (by rw [List.length_append]; omega), List.append_assoc, hone1]
      · have hf : eqStep x s = false := by
          cases hq : eqStep x s with
          | false => rfl
          | true => exact absurd (eqStep_iff.1 hq) hxs
        rw [hf, cond_false]
        exact no (by rw [hx]; simpa using hxs)
    · rw [ceqn (by omega)]
      exact no (fun hq => hone (by rw [hq]; rfl))
theorem ref_PutSteps_eq' (l : List StepV) (hw : ∀ s ∈ l, wfStep s ∧ s.2.2.2.2.size ≤ 1000) (hl : l.length ≤ 1000) : pleachref10_PutSteps l = some ((putAll l, ()), ()) :=
  ref_PutSteps_loop 1099511627776 l hw hl l.length 1099511627776 0 [] (by omega) (by omega) (by simp; omega)
end Go.PE
