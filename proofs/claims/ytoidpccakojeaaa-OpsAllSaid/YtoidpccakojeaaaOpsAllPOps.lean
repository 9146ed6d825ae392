/-
  Plain lemmas on the functions.
  Conditions: none.
-/
import Derived.Test.YtoidpccakojeaaaOpsAllPLoops
set_option linter.unusedVariables false
set_option linter.unusedSimpArgs false
set_option maxRecDepth 20000
namespace Go.PE
abbrev StepV := Int × Int × Int × Int × ByteArray
def onum (l : List Int) : Option (Nat × List Int) := match dec l with | some (v, n) => some (v, l.drop n) | none => none
def otxt (l : List Int) : Option (List Int × List Int) := match decT l with | some (t, n) => some (t, l.drop n) | none => none
def emp : ByteArray := ⟨#[]⟩
def stepP (k : Int) (l : List Int) : Option (StepV × List Int) :=
  if k = 1 then (onum l).bind fun a => (otxt a.2).bind fun c => some ((k, (a.1 : Int), 0, 0, bytesOf c.1), c.2)
  else if k = 2 ∨ k = 3 ∨ k = 5 then (onum l).bind fun a => some ((k, (a.1 : Int), 0, 0, emp), a.2)
  else if k = 4 then (otxt l).bind fun c => some ((k, 0, 0, 0, bytesOf c.1), c.2)
  else if k = 9 then (onum l).bind fun a => (onum a.2).bind fun c => some ((k, 0, (a.1 : Int), (c.1 : Int), emp), c.2)
  else (onum l).bind fun a => some ((k, 0, (a.1 : Int), 0, emp), a.2)
def takeF : Nat → List Int → List StepV
  | 0, _ => []
  | _ + 1, [] => []
  | k + 1, x :: r => if x % 10 = 0 then takeF k r else match stepP (x % 10) r with
    | none => []
    | some (s, q) => s :: takeF k q
def takeS (l : List Int) : List StepV := takeF l.length l
theorem onum_spec {l : List Int} {v : Nat} {q : List Int} (hl : isBytes l) (h : onum l = some (v, q)) : v ≤ 1073741824 ∧ q.length < l.length ∧ l = enc v ++ q := by
  unfold onum at h
  cases hd : dec l with
  | none => rw [hd] at h; cases h
  | some p =>
    obtain ⟨w, n⟩ := p
    rw [hd] at h
    simp only [Option.some.injEq, Prod.mk.injEq] at h
    obtain ⟨rfl, rfl⟩ := h
    obtain ⟨h0, h1, h2, h3⟩ := dec_le hl hd
    refine ⟨h3, by rw [List.length_drop]; omega, ?_⟩
    rw [← dec_enc hl hd]
    exact (List.take_append_drop n l).symm
theorem otxt_spec {l t q : List Int} (hl : isBytes l) (h : otxt l = some (t, q)) : t.length ≤ 1073741824 ∧ isBytes t ∧ q.length < l.length ∧ l = encT t ++ q := by
  unfold otxt at h
  cases hd : decT l with
  | none => rw [hd] at h; cases h
  | some p =>
    obtain ⟨w, n⟩ := p
    rw [hd] at h
    simp only [Option.some.injEq, Prod.mk.injEq] at h
    obtain ⟨rfl, rfl⟩ := h
    obtain ⟨h0, h1, h2, h3, h4⟩ := decT_le hl hd
    refine ⟨h2, h3, by rw [List.length_drop]; omega, ?_⟩
    rw [← h4]
    exact (List.take_append_drop n l).symm
theorem onum_enc (v : Nat) (r : List Int) (h : v ≤ 1073741824) : onum (enc v ++ r) = some (v, r) := by
  unfold onum; rw [enc_dec v r h]; simp
theorem otxt_enc (t r : List Int) (h : t.length ≤ 1073741824) : otxt (encT t ++ r) = some (t, r) := by
  unfold otxt; rw [decT_enc t r h]; simp
theorem onum_cut (v n : Nat) (h : n < (enc v).length) : onum ((enc v).take n) = none := by unfold onum; rw [dec_cut v n h]
theorem otxt_cut (t : List Int) (n : Nat) (ht : isBytes t) (hl : t.length ≤ 1073741824) (h : n < (encT t).length) : otxt ((encT t).take n) = none := by unfold otxt; rw [decT_cut t n ht hl h]
theorem bytes_suffix {l a q : List Int} (hl : isBytes l) (h : l = a ++ q) : isBytes q := by subst h; exact (isBytes_append.1 hl).2
theorem stepP_short {k : Int} {l q : List Int} {s : StepV} (hl : isBytes l) (h : stepP k l = some (s, q)) : q.length < l.length ∧ isBytes q := by
  unfold stepP at h
  split at h
  · obtain ⟨⟨v, a⟩, h1, h⟩ := Option.bind_eq_some_iff.1 h
    obtain ⟨⟨t, c⟩, h2, h⟩ := Option.bind_eq_some_iff.1 h
    obtain ⟨_, e1, e2⟩ := onum_spec hl h1
    have ha := bytes_suffix hl e2
    obtain ⟨_, _, e3, e4⟩ := otxt_spec ha h2
    simp only [Option.some.injEq, Prod.mk.injEq] at h
    obtain ⟨_, rfl⟩ := h
    exact ⟨by omega, bytes_suffix ha e4⟩
  split at h
  · obtain ⟨⟨v, a⟩, h1, h⟩ := Option.bind_eq_some_iff.1 h
    obtain ⟨_, e1, e2⟩ := onum_spec hl h1
    simp only [Option.some.injEq, Prod.mk.injEq] at h
    obtain ⟨_, rfl⟩ := h
    exact ⟨e1, bytes_suffix hl e2⟩
  split at h
  · obtain ⟨⟨v, a⟩, h1, h⟩ := Option.bind_eq_some_iff.1 h
    obtain ⟨_, _, e1, e2⟩ := otxt_spec hl h1
    simp only [Option.some.injEq, Prod.mk.injEq] at h
    obtain ⟨_, rfl⟩ := h
    exact ⟨e1, bytes_suffix hl e2⟩
  split at h
  · obtain ⟨⟨v, a⟩, h1, h⟩ := Option.bind_eq_some_iff.1 h
    obtain ⟨⟨t, c⟩, h2, h⟩ := Option.bind_eq_some_iff.1 h
    obtain ⟨_, e1, e2⟩ := onum_spec hl h1
    have ha := bytes_suffix hl e2
    obtain ⟨_, e3, e4⟩ := onum_spec ha h2
    simp only [Option.some.injEq, Prod.mk.injEq] at h
    obtain ⟨_, rfl⟩ := h
    exact ⟨by omega, bytes_suffix ha e4⟩
  · obtain ⟨⟨v, a⟩, h1, h⟩ := Option.bind_eq_some_iff.1 h
    obtain ⟨_, e1, e2⟩ := onum_spec hl h1
    simp only [Option.some.injEq, Prod.mk.injEq] at h
    obtain ⟨_, rfl⟩ := h
    exact ⟨e1, bytes_suffix hl e2⟩
theorem takeF_more : ∀ (k j : Nat) (l : List Int), isBytes l → l.length ≤ k → l.length ≤ j → takeF k l = takeF j l
  | 0, 0, l, _, _, _ => rfl
  | 0, j + 1, l, _, h, _ => by have : l = [] := List.eq_nil_of_length_eq_zero (by omega); subst this; rfl
  | k + 1, 0, l, _, _, h => by have : l = [] := List.eq_nil_of_length_eq_zero (by omega); subst this; rfl
  | k + 1, j + 1, [], _, _, _ => rfl
  | k + 1, j + 1, x :: r, hb, h, h' => by
    have hr : isBytes r := fun y hy => hb y (List.mem_cons_of_mem _ hy)
    simp only [List.length_cons] at h h'
    unfold takeF
    split
    · exact takeF_more k j r hr (by omega) (by omega)
    · cases hs : stepP (x % 10) r with
      | none => rfl
      | some p =>
        obtain ⟨s, q⟩ := p
        obtain ⟨h1, h2⟩ := stepP_short hr hs
        simp only
        rw [takeF_more k j q h2 (by omega) (by omega)]
theorem takeS_nil : takeS [] = [] := rfl
theorem takeS_cons (x : Int) (r : List Int) (hb : isBytes r) : takeS (x :: r) = if x % 10 = 0 then takeS r else match stepP (x % 10) r with
    | none => []
    | some (s, q) => s :: takeS q := by
  show takeF (r.length + 1) (x :: r) = _
  rw [takeF]
  split
  · rfl
  · cases hs : stepP (x % 10) r with
    | none => rfl
    | some p =>
      obtain ⟨s, q⟩ := p
      obtain ⟨h1, h2⟩ := stepP_short hb hs
      simp only
      rw [takeF_more r.length q.length q h2 (by omega) (Nat.le_refl _)]
      rfl
theorem past_ok (l : List Int) (e : IV) (n : Nat) (h : n ≤ l.length) (hl : l.length ≤ 4611686018427387904) : ops_reader_past (l, e) (n : Int) true = some ((), ((l.drop n, e), ())) := by
  unfold ops_reader_past
  simp only [cand]
  rw [cdp (by omega), cdp (by show (n : Int) ≤ (l.length : Int); omega), cdp (by omega)]
  simp
theorem past_bad (l : List Int) (e : IV) : ops_reader_past (l, e) 0 false = some ((), ((l, IV.mk 91 []), ())) := by
  unfold ops_reader_past
  simp only [cand]
  rw [cdp (by omega), cdp (by show (0 : Int) ≤ (l.length : Int); omega), cdp (by omega)]
  simp
theorem rd_num (l : List Int) (hb : isBytes l) (hl : l.length ≤ 4611686018427387904) : ops_reader_num (l, IV.nil) = match onum l with
    | some (v, q) => some (((v : Int), ()), ((q, IV.nil), ()))
    | none => some ((0, ()), ((l, IV.mk 91 []), ())) := by
  unfold ops_reader_num onum
  simp only [IV.isNil, nt, cond_false]
  rw [bits_Take_eq' l hb hl]
  cases hd : dec l with
  | none => dsimp only [decI_none, Option.bind_some]; rw [past_bad]; rfl
  | some p =>
    obtain ⟨v, n⟩ := p
    obtain ⟨h0, h1, h2, h3⟩ := dec_le hb hd
    dsimp only [decI_some, Option.bind_some]; rw [past_ok _ _ _ h2 hl]; rfl
theorem rd_text (l : List Int) (hb : isBytes l) (hl : l.length ≤ 4611686018427387904) : ops_reader_text (l, IV.nil) = match otxt l with
    | some (t, q) => some ((bytesOf t, ()), ((q, IV.nil), ()))
    | none => some ((emp, ()), ((l, IV.mk 91 []), ())) := by
  unfold ops_reader_text otxt
  simp only [IV.isNil, nt, cond_false]
  rw [bits_TakeText_eq' l hb hl]
  cases hd : decT l with
  | none => dsimp only [decTI_none, Option.bind_some]; rw [past_bad]; rfl
  | some p =>
    obtain ⟨v, n⟩ := p
    obtain ⟨h0, h1, h2, h3⟩ := decT_le hb hd
    dsimp only [decTI_some, Option.bind_some]; rw [past_ok _ _ _ h1 hl]; rfl
theorem rd_num_err (l : List Int) (T : Nat) (c : List AT) : ops_reader_num (l, IV.mk T c) = some ((0, ()), ((l, IV.mk T c), ())) := rfl
theorem rd_text_err (l : List Int) (T : Nat) (c : List AT) : ops_reader_text (l, IV.mk T c) = some ((emp, ()), ((l, IV.mk T c), ())) := rfl
def stepRes (r : Option (StepV × List Int)) (x : Option ((StepV × Unit) × ((List Int × IV) × Unit))) : Prop :=
  match r with
  | some (s, q) => x = some ((s, ()), ((q, IV.nil), ()))
  | none => ∃ s q, x = some ((s, ()), ((q, IV.mk 91 []), ()))
theorem num1 {l : List Int} (hb : isBytes l) (hl : l.length ≤ 4611686018427387904) (f : Int → StepV) : stepRes ((onum l).bind fun a => some (f a.1, a.2))
    (Option.bind (ops_reader_num (l, IV.nil)) fun (r : (Int × Unit) × (((List Int) × IV) × Unit)) => some ((f r.1.1, ()), (r.2.1, ()))) := by
  rw [rd_num l hb hl]
  cases onum l with
  | none => exact ⟨_, _, rfl⟩
  | some p => obtain ⟨v, q⟩ := p; exact rfl
theorem text1 {l : List Int} (hb : isBytes l) (hl : l.length ≤ 4611686018427387904) (f : ByteArray → StepV) : stepRes ((otxt l).bind fun a => some (f (bytesOf a.1), a.2))
    (Option.bind (ops_reader_text (l, IV.nil)) fun (r : (ByteArray × Unit) × (((List Int) × IV) × Unit)) => some ((f r.1.1, ()), (r.2.1, ()))) := by
  rw [rd_text l hb hl]
  cases otxt l with
  | none => exact ⟨_, _, rfl⟩
  | some p => obtain ⟨v, q⟩ := p; exact rfl
theorem ops_step_eq (k : Int) (l : List Int) (hb : isBytes l) (hl : l.length ≤ 4611686018427387904) : stepRes (stepP k l) (ops_reader_step (l, IV.nil) k) := by
  unfold ops_reader_step stepP
  by_cases h1 : k = 1
  · rw [if_pos h1, ceqp h1, rd_num l hb hl]
    cases hn : onum l with
    | none => exact ⟨_, _, rfl⟩
    | some p =>
      obtain ⟨v, q⟩ := p
      obtain ⟨_, e1, e2⟩ := onum_spec hb hn
      dsimp only [Option.bind_some]
      rw [rd_text q (bytes_suffix hb e2) (by omega)]
      cases otxt q with
      | none => exact ⟨_, _, rfl⟩
      | some p => obtain ⟨t, c⟩ := p; exact rfl
  rw [if_neg h1, ceqn h1]
  by_cases h2 : k = 2
  · rw [if_pos (.inl h2), ceqp h2, ceqp h2]; exact num1 hb hl (fun v => (k, v, 0, 0, emp))
  rw [ceqn h2]
  by_cases h3 : k = 3
  · rw [if_pos (.inr (.inl h3)), ceqp h3, ceqp h3]; exact num1 hb hl (fun v => (k, v, 0, 0, emp))
  rw [ceqn h3]
  by_cases h5 : k = 5
  · rw [if_pos (.inr (.inr h5)), ceqp h5]; exact num1 hb hl (fun v => (k, v, 0, 0, emp))
  rw [ceqn h5, if_neg (by omega)]
  by_cases h4 : k = 4
  · rw [if_pos h4, ceqp h4]; exact text1 hb hl (fun t => (k, 0, 0, 0, t))
  rw [ceqn h4, if_neg h4]
  by_cases h9 : k = 9
  · rw [if_pos h9, ceqp h9, rd_num l hb hl]
    cases hn : onum l with
    | none => exact ⟨_, _, rfl⟩
    | some p =>
      obtain ⟨v, q⟩ := p
      obtain ⟨_, e1, e2⟩ := onum_spec hb hn
      dsimp only [Option.bind_some]
      rw [rd_num q (bytes_suffix hb e2) (by omega)]
      cases onum q with
      | none => exact ⟨_, _, rfl⟩
      | some p => obtain ⟨t, c⟩ := p; exact rfl
  rw [ceqn h9, if_neg h9]
  exact num1 hb hl (fun v => (k, 0, v, 0, emp))
theorem ops_Take_loop (n : Nat) : ∀ (k m : Nat) (acc : List StepV) (l : List Int), isBytes l → l.length ≤ k → k < m → k ≤ 1000000 → acc.length + l.length ≤ 1000000000 →
    ops_Take_L1 n m acc l IV.nil = some ((acc ++ takeF k l, ()), ())
  | k, 0, acc, l, _, _, h, _, _ => by omega
  | k, m + 1, acc, [], _, _, h, _, _ => by
    show ops_Take_B1 (ops_Take_L1 n m) acc [] IV.nil = _
    cases k <;> simp [ops_Take_B1, takeF]
  | 0, m + 1, acc, x :: r, _, h0, h, _, _ => by simp at h0
  | k + 1, m + 1, acc, x :: r, hb, h0, h, h6, hl => by
    show ops_Take_B1 (ops_Take_L1 n m) acc (x :: r) IV.nil = _
    have hr : isBytes r := fun y hy => hb y (List.mem_cons_of_mem _ hy)
    have hx := hb x (List.mem_cons_self ..)
    simp only [List.length_cons] at h0 hl
    unfold ops_Take_B1
    have e1 : List.drop 1 (List.take (((x :: r).length : Int).toNat) (x :: r)) = r := by simp
    have e2 : List.getD (x :: r) 0 0 = x := rfl
    have hlen : ((x :: r).length : Int) = (r.length : Int) + 1 := by simp
    simp only [cand]
    rw [e1, e2, hlen, cdp (by omega), cdp (by omega), cdp (by omega), cdp (by omega), wi64 (by omega) (by omega), Int.tmod_eq_emod_of_nonneg (by omega)]
    rw [takeF]
    by_cases hz : x % 10 = 0
    · rw [ceqp hz, if_pos hz]
      exact ops_Take_loop n k m acc r hr (by omega) (by omega) (by omega) (by omega)
    · rw [ceqn hz, if_neg hz]
      have hst := ops_step_eq (x % 10) r hr (by omega)
      cases hs : stepP (x % 10) r with
      | none =>
        rw [hs] at hst
        obtain ⟨s, q, hst⟩ := hst
        rw [hst]
        simp [IV.is]
      | some p =>
        obtain ⟨s, q⟩ := p
        rw [hs] at hst
        have hst : ops_reader_step (r, IV.nil) (x % 10) = some ((s, ()), ((q, IV.nil), ())) := hst
        rw [hst]
        obtain ⟨h1, h2⟩ := stepP_short hr hs
        dsimp only [Option.bind_some, IV.is, cond_false]
        rw [cbp (by omega), ops_Take_loop n k m (acc ++ [s]) q h2 (by omega) (by omega) (by omega) (by rw [List.length_append, List.length_singleton]; omega), List.append_assoc]
        rfl
theorem ops_Take_eq' (l : List Int) (hb : isBytes l) (hl : l.length ≤ 1000000) : ops_Take l = some ((takeS l, ()), ()) :=
  ops_Take_loop 1099511627776 l.length 1099511627776 [] l hb (Nat.le_refl _) (by omega) hl (by simp; omega)
def mx (v : Int) : Nat := v.toNat
def u8 (v : Int) : Int := v % 256
def put1 (s : StepV) : List Int :=
  if s.1 = 1 then u8 s.1 :: (enc (mx s.2.1) ++ encT (bytes s.2.2.2.2))
  else if s.1 = 2 ∨ s.1 = 3 ∨ s.1 = 5 then u8 s.1 :: enc (mx s.2.1)
  else if s.1 = 4 then u8 s.1 :: encT (bytes s.2.2.2.2)
  else if s.1 = 9 then u8 s.1 :: (enc (mx s.2.2.1) ++ enc (mx s.2.2.2.1))
  else u8 s.1 :: enc (mx s.2.2.1)
theorem u8_byte (v : Int) : 0 ≤ u8 v ∧ u8 v < 256 := by unfold u8; omega
theorem isBytes_cons {x : Int} {l : List Int} (hx : 0 ≤ x ∧ x < 256) (hl : isBytes l) : isBytes (x :: l) := by
  intro y hy
  rcases List.mem_cons.1 hy with rfl | hy
  · exact hx
  · exact hl y hy
theorem isBytes_encT (s : ByteArray) : isBytes (encT (bytes s)) := isBytes_append.2 ⟨enc_bytes _, isBytes_bytes s⟩
theorem put1_bytes (s : StepV) : isBytes (put1 s) := by
  unfold put1
  repeat' split
  all_goals refine isBytes_cons (u8_byte _) ?_
  · exact isBytes_append.2 ⟨enc_bytes _, isBytes_encT _⟩
  · exact enc_bytes _
  · exact isBytes_encT _
  · exact isBytes_append.2 ⟨enc_bytes _, enc_bytes _⟩
  · exact enc_bytes _
theorem encT_length (s : ByteArray) : (encT (bytes s)).length ≤ s.size + 10 := by
  unfold encT; rw [List.length_append, bytes_length]; have := enc_length s.size; omega
theorem put1_length (s : StepV) : (put1 s).length ≤ s.2.2.2.2.size + 30 := by
  have h1 := enc_length (mx s.2.1)
  have h2 := enc_length (mx s.2.2.1)
  have h3 := enc_length (mx s.2.2.2.1)
  have h4 := encT_length s.2.2.2.2
  unfold put1
  repeat' split
  all_goals (simp only [List.length_cons, List.length_append]; omega)
def wfStep (s : StepV) : Prop := (-9223372036854775808 ≤ s.1 ∧ s.1 ≤ 9223372036854775807) ∧ (-9223372036854775808 ≤ s.2.1 ∧ s.2.1 ≤ 9223372036854775807) ∧ (-9223372036854775808 ≤ s.2.2.1 ∧ s.2.2.1 ≤ 9223372036854775807) ∧ (-9223372036854775808 ≤ s.2.2.2.1 ∧ s.2.2.2.1 ≤ 9223372036854775807) ∧ s.2.2.2.2.size ≤ 100000
theorem max0 (v : Int) : (if 0 > v then 0 else v) = ((mx v : Nat) : Int) := by unfold mx; split <;> omega
theorem ops_put_eq' (s : StepV) (h : wfStep s) : ops_put s = some ((put1 s, ()), ()) := by
  obtain ⟨k, r, i, t, x⟩ := s
  obtain ⟨hk, hr, hi, ht, hx⟩ := h
  dsimp only at hk hr hi ht hx
  have n1 : mx r < 9223372036854775808 := by unfold mx; omega
  have n2 : mx i < 9223372036854775808 := by unfold mx; omega
  have n3 : mx t < 9223372036854775808 := by unfold mx; omega
  have l1 := enc_length (mx r)
  have l2 := enc_length (mx i)
  have eT : enc x.size ++ bytes x = encT (bytes x) := by unfold encT; rw [bytes_length]
  have pn : ∀ v : Int, mx v < 9223372036854775808 → bits_Put [IntKind.wrap .u8 k] ((mx v : Nat) : Int) = some ((u8 k :: enc (mx v), ()), ()) := fun v hv => by
    rw [bits_Put_eq' _ _ hv (by simp), wu8_mod]; rfl
  unfold ops_put put1
  dsimp only
  simp only [max0]
  by_cases h1 : k = 1
  · rw [if_pos h1, ceqp h1, pn r n1]
    dsimp only [Option.bind_some]
    rw [bits_PutText_eq' _ _ (by omega) (by simp only [List.length_cons]; omega), eT]; rfl
  rw [if_neg h1, ceqn h1]
  by_cases h2 : k = 2
  · rw [if_pos (.inl h2), ceqp h2, ceqp h2, pn r n1]; rfl
  rw [ceqn h2]
  by_cases h3 : k = 3
  · rw [if_pos (.inr (.inl h3)), ceqp h3, ceqp h3, pn r n1]; rfl
  rw [ceqn h3]
  by_cases h5 : k = 5
  · rw [if_pos (.inr (.inr h5)), ceqp h5, pn r n1]; rfl
  rw [ceqn h5, if_neg (by omega)]
  by_cases h4 : k = 4
  · rw [if_pos h4, ceqp h4, bits_PutText_eq' _ _ (by omega) (by simp), eT, wu8_mod]; rfl
  rw [ceqn h4, if_neg h4]
  by_cases h9 : k = 9
  · rw [if_pos h9, ceqp h9, pn i n2]
    dsimp only [Option.bind_some]
    rw [bits_Put_eq' _ _ n3 (by simp only [List.length_cons]; omega)]; rfl
  rw [ceqn h9, if_neg h9, pn i n2]; rfl
def eqStep (a b : StepV) : Bool := (a.1 == b.1) && ((a.2.1 == b.2.1) && ((a.2.2.1 == b.2.2.1) && ((a.2.2.2.1 == b.2.2.2.1) && (strEq a.2.2.2.2 b.2.2.2.2 && true))))
theorem eqStep_iff {a b : StepV} : eqStep a b = true ↔ a = b := by
  obtain ⟨a1, a2, a3, a4, a5⟩ := a
  obtain ⟨b1, b2, b3, b4, b5⟩ := b
  simp only [eqStep, Bool.and_eq_true, beq_iff_eq, strEq_iff, Prod.mk.injEq, and_true]
def put1? (s : StepV) : List Int := if takeS (put1 s) = [s] then put1 s else []
def putAll (l : List StepV) : List Int := l.flatMap put1?
theorem put1?_length (s : StepV) : (put1? s).length ≤ s.2.2.2.2.size + 30 := by
  unfold put1?; split
  · exact put1_length s
  · simp
theorem put1?_bytes (s : StepV) : isBytes (put1? s) := by
  unfold put1?; split
  · exact put1_bytes s
  · intro x hx; cases hx
theorem putAll_bytes (l : List StepV) : isBytes (putAll l) := by
  intro x hx
  obtain ⟨s, _, h⟩ := List.mem_flatMap.1 hx
  exact put1?_bytes s x h
theorem putAll_length : ∀ (l : List StepV), (∀ s ∈ l, wfStep s) → (putAll l).length ≤ l.length * 100030
  | [], _ => by simp [putAll]
  | s :: r, h => by
    have h1 := put1?_length s
    have h2 := (h s (List.mem_cons_self ..)).2.2.2.2
    have h3 := putAll_length r (fun t ht => h t (List.mem_cons_of_mem _ ht))
    have e : putAll (s :: r) = put1? s ++ putAll r := rfl
    rw [e, List.length_append, List.length_cons]; omega
theorem ops_Put_loop (n : Nat) (l : List StepV) (hw : ∀ s ∈ l, wfStep s) (hl : l.length ≤ 1000) : ∀ (k m i : Nat) (acc : List Int), i + k = l.length → k < m → acc.length + (putAll (l.drop i)).length ≤ 1000000000 →
    ops_Put_L1 n m l (l.length : Int) (i : Int) acc = some ((acc ++ putAll (l.drop i), ()), ())
  | k, 0, i, acc, _, h, _ => by omega
  | 0, m + 1, i, acc, hk, h, ha => by
    show ops_Put_B1 (ops_Put_L1 n m) l (l.length : Int) (i : Int) acc = _
    unfold ops_Put_B1
    rw [cdn (by omega), List.drop_eq_nil_of_le (by omega)]; simp [putAll]
  | k + 1, m + 1, i, acc, hk, h, ha => by
    show ops_Put_B1 (ops_Put_L1 n m) l (l.length : Int) (i : Int) acc = _
    unfold ops_Put_B1
    have hi : i < l.length := by omega
    have q1 : i + 1 + k = l.length := by omega
    have q2 : k < m := by omega
    have q4 : IntKind.wrap .i64 ((i : Int) + 1) = ((i + 1 : Nat) : Int) := by rw [wi64 (by omega) (by omega)]; omega
    have ei : (i : Int).toNat = i := rfl
    rw [cdp (by omega), cand, cdp (by omega), cdp (by omega), ei]
    have hg : List.getD l i (0, 0, 0, 0, (⟨#[]⟩ : ByteArray)) = l[i] := by rw [List.getD_eq_getElem?_getD, List.getElem?_eq_getElem hi]; rfl
    rw [hg]
    generalize hs : l[i] = s at *
    have hws : wfStep s := hw s (hs ▸ List.getElem_mem hi)
    have hd : l.drop i = s :: l.drop (i + 1) := by rw [List.drop_eq_getElem_cons hi, hs]
    have hpa : putAll (s :: l.drop (i + 1)) = put1? s ++ putAll (l.drop (i + 1)) := rfl
    rw [hd, hpa, List.length_append] at ha
    have ep : ops_put (s.1, s.2.1, s.2.2.1, s.2.2.2) = some ((put1 s, ()), ()) := ops_put_eq' s hws
    have hp1 := put1_length s
    have hsz := hws.2.2.2.2
    rw [ep]
    dsimp only [Option.bind_some]
    rw [ops_Take_eq' _ (put1_bytes s) (by omega)]
    dsimp only [Option.bind_some]
    have no : takeS (put1 s) ≠ [s] → ops_Put_L1 n m l (l.length : Int) ((i + 1 : Nat) : Int) acc = some ((acc ++ putAll (s :: l.drop (i + 1)), ()), ()) := fun hne => by
      rw [ops_Put_loop n l hw hl k m (i + 1) acc q1 q2 (by omega)]
      show _ = some ((acc ++ (put1? s ++ putAll (l.drop (i + 1))), ()), ())
      unfold put1?
      rw [if_neg hne]; rfl
    rw [hd, q4]
    by_cases hone : (takeS (put1 s)).length = 1
    · obtain ⟨x, hx⟩ := List.length_eq_one_iff.1 hone
      rw [ceqp (by omega), cdp (by omega), cdp (by omega), hx]
      have hgx : List.getD [x] 0 (0, 0, 0, 0, (⟨#[]⟩ : ByteArray)) = x := rfl
      rw [hgx]
      show (bif eqStep x s then _ else _) = _
      by_cases hxs : x = s
      · have hq : put1? s = put1 s := if_pos (by rw [hx, hxs])
        rw [hq] at ha hpa
        rw [eqStep_iff.2 hxs, cond_true, cbp (by omega)]
        rw [ops_Put_loop n l hw hl k m (i + 1) _ q1 q2 (by rw [List.length_append]; omega), List.append_assoc, hpa]
      · have hf : eqStep x s = false := by
          cases hq : eqStep x s with
          | false => rfl
          | true => exact absurd (eqStep_iff.1 hq) hxs
        rw [hf, cond_false]
        exact no (by rw [hx]; simpa using hxs)
    · rw [ceqn (by omega)]
      exact no (fun hq => hone (by rw [hq]; rfl))
theorem ops_Put_eq' (l : List StepV) (hw : ∀ s ∈ l, wfStep s) (hl : l.length ≤ 1000) : ops_Put l = some ((putAll l, ()), ()) :=
  ops_Put_loop 1099511627776 l hw hl l.length 1099511627776 0 [] (by omega) (by omega) (by
    have := putAll_length l hw
    rw [List.drop_zero, List.length_nil]
    omega)
theorem same_loop (n : Nat) (a b : List StepV) (hl : a.length = b.length) (h6 : a.length ≤ 1000000000) : ∀ (k m i : Nat), i + k = a.length → k < m →
    pleachref10_SameSteps_L1 n m a b (i : Int) = some ((decide (a.drop i = b.drop i), ()), ())
  | k, 0, i, _, h => by omega
  | 0, m + 1, i, hk, h => by
    show pleachref10_SameSteps_B1 (pleachref10_SameSteps_L1 n m) a b (i : Int) = _
    unfold pleachref10_SameSteps_B1
    rw [cdn (by omega), List.drop_eq_nil_of_le (by omega), List.drop_eq_nil_of_le (by omega)]; simp
  | k + 1, m + 1, i, hk, h => by
    show pleachref10_SameSteps_B1 (pleachref10_SameSteps_L1 n m) a b (i : Int) = _
    unfold pleachref10_SameSteps_B1
    have hi : i < a.length := by omega
    have hi' : i < b.length := by omega
    have ei : (i : Int).toNat = i := rfl
    rw [cdp (by omega)]
    simp only [cand, cnot]
    rw [cdp (by omega), cdp (by omega), cdp (by omega), cdp (by omega), ei]
    have hg : List.getD a i (0, 0, 0, 0, (⟨#[]⟩ : ByteArray)) = a[i] := by rw [List.getD_eq_getElem?_getD, List.getElem?_eq_getElem hi]; rfl
    have hg' : List.getD b i (0, 0, 0, 0, (⟨#[]⟩ : ByteArray)) = b[i] := by rw [List.getD_eq_getElem?_getD, List.getElem?_eq_getElem hi']; rfl
    rw [hg, hg', List.drop_eq_getElem_cons hi, List.drop_eq_getElem_cons hi']
    generalize a[i] = x
    generalize b[i] = y
    simp only [← cand]
    show (bif eqStep x y then _ else _) = _
    have e8 : IntKind.wrap .i64 ((i : Int) + 1) = ((i + 1 : Nat) : Int) := by rw [wi64 (by omega) (by omega)]; omega
    by_cases hxy : x = y
    · rw [eqStep_iff.2 hxy, cond_true, e8, same_loop n a b hl h6 k m (i + 1) (by omega) (by omega), hxy]
      simp
    · have hf : eqStep x y = false := by
        cases hq : eqStep x y with
        | false => rfl
        | true => exact absurd (eqStep_iff.1 hq) hxy
      rw [hf, cond_false]
      simp [hxy]
theorem same_eq' (a b : List StepV) (h6 : a.length ≤ 1000000000) (h7 : b.length ≤ 1000000000) : pleachref10_SameSteps a b = some ((decide (a = b), ()), ()) := by
  show pleachref10_SameSteps_T (pleachref10_SameSteps_L1 1099511627776 1099511627776) a b = _
  unfold pleachref10_SameSteps_T
  by_cases hl : a.length = b.length
  · rw [cnen (by omega)]
    have := same_loop 1099511627776 a b hl h6 a.length 1099511627776 0 (by omega) (by omega)
    simpa using this
  · rw [cnep (by omega), decide_eq_false (fun h => hl (by rw [h]))]
end Go.PE
