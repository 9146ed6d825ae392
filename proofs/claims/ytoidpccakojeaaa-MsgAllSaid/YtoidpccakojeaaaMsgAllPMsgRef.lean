/-
  Plain lemmas on the functions.
  Conditions: none.
-/
import Derived.Test.YtoidpccakojeaaaMsgAllPMsgLaws
set_option linter.unusedVariables false
set_option linter.unusedSimpArgs false
set_option maxRecDepth 20000
namespace Go.PE
theorem seq_eq (x : Int) : pleachref10_seq x = some ((inR 0 1000000 x, ()), ()) := by
  unfold pleachref10_seq inR
  by_cases h : 0 ≤ x
  · rw [cdp (by omega), decide_eq_true h]; rfl
  · rw [cdn (by omega), decide_eq_false h]; rfl
theorem maySpan_eq (a b : Int) : pleachref1_MaySpan (a, b) = some ((decide (1 ≤ a ∧ a ≤ b ∧ b ≤ 1000000), ()), ()) := by
  unfold pleachref1_MaySpan
  dsimp only
  by_cases h : 1 ≤ a
  · rw [cdp (by omega)]
    by_cases h2 : a ≤ b
    · rw [cdp (by omega)]; congr 3; exact decide_eq_decide.2 (by omega)
    · rw [cdn (by omega), decide_eq_false (by omega)]
  · rw [cdn (by omega), decide_eq_false (by omega)]
theorem eqM_comm (a b : MsgV) : eqM a b = eqM b a := by
  rw [Bool.eq_iff_iff, eqM_iff, eqM_iff]; exact ⟨Eq.symm, Eq.symm⟩
theorem mayP_guard (m : MsgV) : mayP m = (decide (1 ≤ m.1 ∧ m.1 ≤ 9 ∧ 1 ≤ m.2.1 ∧ m.2.1 ≤ 8 ∧ 1 ≤ m.2.2.1 ∧ m.2.2.1 ≤ 8 ∧ m.2.1 ≠ m.2.2.1 ∧ 1 ≤ m.2.2.2.1 ∧ m.2.2.2.1 ≤ 1073741824) && fieldsP m) := by
  rw [Bool.eq_iff_iff]
  unfold mayP
  simp only [Bool.and_eq_true, decide_eq_true_eq, all1, all2, inR_iff, bne_iff_ne]
  grind
theorem ref_MayMsg_eq' (m : MsgV) (h6 : m.pa.length ≤ 1000000000) : pleachref10_MayMsg m = some ((mayP m, ()), ()) := by
  have hs : ∀ x : MsgV, x.pa.length ≤ 1000000000 → pleachref10_SameMsg x m = some ((eqM m x, ()), ()) := fun x hx => by rw [ref_Same_eq x m hx h6, eqM_comm]
  have hp : pleachref1_MayPath m.2.2.2.2.2.2.1 = some ((mayPath m.pa, ()), ()) := ref_MayPath_eq' m.pa h6
  have h6' : m.2.2.2.2.2.2.1.length ≤ 1000000000 := h6
  rw [mayP_guard]
  unfold pleachref10_MayMsg
  by_cases g1 : m.1 < 1
  · rw [cdp g1, decide_eq_false (by omega)]; rfl
  rw [cdn g1]
  by_cases g2 : m.1 > 9
  · rw [cdp g2, decide_eq_false (by omega)]; rfl
  rw [cdn g2]
  by_cases g3 : m.2.1 < 1
  · rw [cdp g3, decide_eq_false (by omega)]; rfl
  rw [cdn g3]
  by_cases g4 : m.2.1 > 8
  · rw [cdp g4, decide_eq_false (by omega)]; rfl
  rw [cdn g4]
  by_cases g5 : m.2.2.1 < 1
  · rw [cdp g5, decide_eq_false (by omega)]; rfl
  rw [cdn g5]
  by_cases g6 : m.2.2.1 > 8
  · rw [cdp g6, decide_eq_false (by omega)]; rfl
  rw [cdn g6]
  by_cases g7 : m.2.1 = m.2.2.1
  · rw [ceqp g7, decide_eq_false (by omega)]; rfl
  rw [ceqn g7]
  by_cases g8 : m.2.2.2.1 < 1
  · rw [cdp g8, decide_eq_false (by omega)]; rfl
  rw [cdn g8]
  by_cases g9 : m.2.2.2.1 > 1073741824
  · rw [cdp g9, decide_eq_false (by omega)]; rfl
  rw [cdn g9, decide_eq_true (show 1 ≤ m.1 ∧ m.1 ≤ 9 ∧ 1 ≤ m.2.1 ∧ m.2.1 ≤ 8 ∧ 1 ≤ m.2.2.1 ∧ m.2.2.1 ≤ 8 ∧ m.2.1 ≠ m.2.2.1 ∧ 1 ≤ m.2.2.2.1 ∧ m.2.2.2.1 ≤ 1073741824 by omega), Bool.true_and]
  unfold fieldsP
  simp only [ceq]
  by_cases k2 : m.1 = 2
  · simp only [if_pos k2]
    rw [hp, seq_eq, hs _ (by simpa [MsgV.pa] using h6')]
    simp only [Option.bind_some, bifand]
    congr 3
    rw [Bool.eq_iff_iff]
    simp only [Bool.and_eq_true, decide_eq_true_eq, inR_iff, MsgV.ep, MsgV.ag, MsgV.pa, MsgV.lo, MsgV.hi, eb]
    grind
  by_cases k5 : m.1 = 5
  · simp only [if_pos k5, if_neg k2]
    rw [hp, seq_eq, hs _ (by simpa [MsgV.pa] using h6')]
    simp only [Option.bind_some, bifand]
    congr 3
    rw [Bool.eq_iff_iff]
    simp only [Bool.and_eq_true, decide_eq_true_eq, inR_iff, MsgV.ep, MsgV.ag, MsgV.pa, MsgV.lo, MsgV.hi, eb]
    grind
  by_cases k7 : m.1 = 7
  · simp only [if_pos k7, if_neg k2, if_neg k5]
    rw [seq_eq, hs _ (by simp [MsgV.pa])]
    simp only [Option.bind_some, bifand]
    congr 3
    rw [Bool.eq_iff_iff]
    simp only [Bool.and_eq_true, decide_eq_true_eq, inR_iff, MsgV.ep, MsgV.ag, MsgV.pa, MsgV.lo, MsgV.hi, MsgV.tx, eb]
    grind
  by_cases k8 : m.1 = 8
  · simp only [if_pos k8, if_neg k2, if_neg k5, if_neg k7, if_pos (show m.1 = 8 ∨ m.1 = 9 from Or.inl k8)]
    rw [maySpan_eq, hs _ (by simp [MsgV.pa])]
    simp only [Option.bind_some, bifand]
    congr 3
    rw [Bool.eq_iff_iff]
    simp only [Bool.and_eq_true, decide_eq_true_eq, inR_iff, MsgV.ep, MsgV.ag, MsgV.pa, MsgV.lo, MsgV.hi, MsgV.tx, eb]
    grind
  by_cases k9 : m.1 = 9
  · simp only [if_pos k9, if_neg k2, if_neg k5, if_neg k7, if_neg k8, if_pos (show m.1 = 8 ∨ m.1 = 9 from Or.inr k9)]
    rw [maySpan_eq, hs _ (by simp [MsgV.pa])]
    simp only [Option.bind_some, bifand]
    congr 3
    rw [Bool.eq_iff_iff]
    simp only [Bool.and_eq_true, decide_eq_true_eq, inR_iff, MsgV.ep, MsgV.ag, MsgV.pa, MsgV.lo, MsgV.hi, MsgV.tx, eb]
    grind
  · simp only [if_neg k2, if_neg k5, if_neg k7, if_neg k8, if_neg k9, if_neg (show ¬ (m.1 = 8 ∨ m.1 = 9) from fun h => h.elim k8 k9)]
    rw [hs _ (by simp [MsgV.pa])]
    rfl
theorem ref_sum_inner (n : Nat) (L : List Int → Int → Int → Option ((Int × Unit) × Unit)) (m1 : Nat) (l : List Int) (i : Int) : ∀ (k m c j : Nat), j + k = 8 → k < m → c < 4294967296 →
    pleachref10_Sum_L2 n m1 L m l (c : Int) i (j : Int) = L l ((crcN k c : Nat) : Int) (IntKind.wrap .i64 (i + 1))
  | k, 0, c, j, _, h, _ => by omega
  | 0, m + 1, c, j, hk, h, hc => by
    show pleachref10_Sum_B2 (pleachref10_Sum_L2 n m1 L m) L l (c : Int) i (j : Int) = _
    unfold pleachref10_Sum_B2
    rw [cdn (by omega)]; rfl
  | k + 1, m + 1, c, j, hk, h, hc => by
    show pleachref10_Sum_B2 (pleachref10_Sum_L2 n m1 L m) L l (c : Int) i (j : Int) = _
    unfold pleachref10_Sum_B2
    have e1 : IntKind.wrap .u32 (Int.tdiv (c : Int) 2) = ((c / 2 : Nat) : Int) := by
      rw [Int.tdiv_eq_ediv_of_nonneg (by omega), wu32 (by omega) (by omega)]; rfl
    have e3 : Int.tmod (c : Int) 2 = ((c % 2 : Nat) : Int) := by rw [Int.tmod_eq_emod_of_nonneg (by omega)]; rfl
    have e2 : IntKind.wrap .u32 ((BitVec.ofInt 32 ((c / 2 : Nat) : Int) ^^^ BitVec.ofInt 32 3988292384).toNat) = ((c / 2 ^^^ 3988292384 : Nat) : Int) := xorI (b := 3988292384) (by omega) (by omega)
    rw [cdp (by omega), e1, e3, e2, inext (by omega), ceq]
    have ec : crcN (k + 1) c = crcN k (crcStep c) := rfl
    rw [ec]
    by_cases hp : c % 2 = 1
    · have es : crcStep c = c / 2 ^^^ 3988292384 := if_pos hp
      rw [if_pos (by omega), es]
      exact ref_sum_inner n L m1 l i k m _ (j + 1) (by omega) (by omega) (es ▸ crcStep_lt hc)
    · have es : crcStep c = c / 2 := if_neg hp
      rw [if_neg (by omega), es]
      exact ref_sum_inner n L m1 l i k m _ (j + 1) (by omega) (by omega) (by omega)
theorem ref_sum_outer (l : List Int) (hb : isBytes l) (h6 : l.length ≤ 1000000000) : ∀ (k m i c : Nat), i + k = l.length → k < m → c < 4294967296 →
    pleachref10_Sum_L1 1099511627776 m l (c : Int) (i : Int) = some ((((crcL c (l.drop i) ^^^ 4294967295 : Nat) : Int), ()), ())
  | k, 0, i, c, _, h, _ => by omega
  | 0, m + 1, i, c, hk, h, hc => by
    show pleachref10_Sum_B1 (pleachref10_Sum_L2 1099511627776 m (pleachref10_Sum_L1 1099511627776 m) 1099511627776) l (c : Int) (i : Int) = _
    unfold pleachref10_Sum_B1
    have e2 : IntKind.wrap .u32 ((BitVec.ofInt 32 4294967295 ^^^ BitVec.ofInt 32 (c : Int)).toNat) = ((c ^^^ 4294967295 : Nat) : Int) := by
      have := xorI (a := 4294967295) (b := c) (by omega) hc
      rw [Nat.xor_comm] at this
      exact this
    rw [cdn (by omega), e2, List.drop_eq_nil_of_le (by omega)]; rfl
  | k + 1, m + 1, i, c, hk, h, hc => by
    show pleachref10_Sum_B1 (pleachref10_Sum_L2 1099511627776 m (pleachref10_Sum_L1 1099511627776 m) 1099511627776) l (c : Int) (i : Int) = _
    unfold pleachref10_Sum_B1
    have hi : i < l.length := by omega
    have hx := hb l[i] (List.getElem_mem hi)
    rw [cdp (by omega), cand, cdp (by omega), cdp (by omega), toNat_nat, getD_at hi, List.drop_eq_getElem_cons hi]
    generalize l[i] = x at *
    obtain ⟨x, rfl⟩ : ∃ y : Nat, x = (y : Int) := ⟨x.toNat, by omega⟩
    rw [wu32 (x := (x : Int)) (by omega) (by omega), xorI hc (by omega)]
    have hlt : c ^^^ x < 4294967296 := xor32 hc (by omega)
    have := ref_sum_inner 1099511627776 (pleachref10_Sum_L1 1099511627776 m) m l (i : Int) 8 1099511627776 (c ^^^ x) 0 rfl (by omega) hlt
    have e0 : ((0 : Nat) : Int) = 0 := rfl
    rw [e0] at this
    rw [this, inext (by omega), ref_sum_outer l hb h6 k m (i + 1) _ (by omega) (by omega) (crcN_lt 8 hlt)]
    rfl
theorem ref_Sum_eq' (l : List Int) (hb : isBytes l) (h6 : l.length ≤ 1000000000) : pleachref10_Sum l = some ((((crcV l : Nat) : Int), ()), ()) := by
  have := ref_sum_outer l hb h6 l.length 1099511627776 0 4294967295 (by omega) (by omega) (by omega)
  rw [List.drop_zero] at this
  exact this
theorem ref_Put_loop (n : Nat) (tx : ByteArray) (ht : tx.size ≤ 100) (l : List Int) (hl : ∀ x ∈ l, 0 ≤ x ∧ x ≤ 1073741824) (h6 : l.length ≤ 1000) (a b c d e f : Int) (p : List Int) (g j : Int) : ∀ (k m i : Nat) (xs : List Int), isBytes xs → i + k = l.length → k < m → xs.length + 10 * k ≤ 100000 →
    pleachref10_PutMsg_L1 n m (i : Int) a b c d e f p g j tx l xs = some ((xs ++ encs (l.drop i) ++ encT (bytes tx) ++ tail4 (crcV (xs ++ encs (l.drop i) ++ encT (bytes tx))), ()), ())
  | k, 0, i, xs, _, _, h, _ => by omega
  | 0, m + 1, i, xs, hb, hk, h, hx => by
    show pleachref10_PutMsg_B1 (pleachref10_PutMsg_L1 n m) (i : Int) a b c d e f p g j tx l xs = _
    unfold pleachref10_PutMsg_B1
    have hlen : (xs ++ encT (bytes tx)).length ≤ 200000 := by
      unfold encT
      rw [List.length_append, List.length_append]; have := enc_length (bytes tx).length; have := bytes_length tx; omega
    have hby : isBytes (xs ++ encT (bytes tx)) := isBytes_append.2 ⟨hb, encT_bytes (isBytes_bytes _)⟩
    have e0 : xs ++ (enc tx.size ++ bytes tx) = xs ++ encT (bytes tx) := by unfold encT; rw [bytes_length]
    rw [cdn (by omega), ref_PutText_eq' xs tx (by omega) (by omega), List.drop_eq_nil_of_le (by omega), e0]
    dsimp only [Option.bind_some]
    rw [ref_Sum_eq' _ hby (by omega)]
    dsimp only [Option.bind_some]
    rw [cbp (by omega), tail4_eq (crcV_lt hby)]
    simp only [encs, List.append_nil]
  | k + 1, m + 1, i, xs, hb, hk, h, hx => by
    show pleachref10_PutMsg_B1 (pleachref10_PutMsg_L1 n m) (i : Int) a b c d e f p g j tx l xs = _
    unfold pleachref10_PutMsg_B1
    have hi : i < l.length := by omega
    have hv := hl l[i] (List.getElem_mem hi)
    rw [cdp (by omega), cand, cdp (by omega), cdp (by omega), cand, cdp (by omega), cdp (by omega), toNat_nat, getD_at hi, List.drop_eq_getElem_cons hi]
    generalize l[i] = x at *
    obtain ⟨x, rfl⟩ : ∃ y : Nat, x = (y : Int) := ⟨x.toNat, by omega⟩
    rw [ref_PutNum_eq' xs x (by omega) (by omega)]
    dsimp only [Option.bind_some]
    have := enc_length x
    rw [inext (by omega), ref_Put_loop n tx ht l hl h6 a b c d e f p g j k m (i + 1) (xs ++ enc x) (isBytes_append.2 ⟨hb, enc_bytes x⟩) (by omega) (by omega) (by rw [List.length_append]; omega)]
    have e1 : xs ++ enc x ++ encs (l.drop (i + 1)) = xs ++ encs ((x : Int) :: l.drop (i + 1)) := by rw [List.append_assoc]; rfl
    rw [e1]
theorem ref_PutMsg_eq' (m : MsgV) (h6 : m.pa.length ≤ 1000000000) : pleachref10_PutMsg m = some ((putM m, ()), ()) := by
  show pleachref10_PutMsg_T (pleachref10_PutMsg_L1 1099511627776 1099511627776) m = _
  unfold pleachref10_PutMsg_T
  rw [ref_MayMsg_eq' m h6]
  dsimp only [Option.bind_some]
  unfold putM
  cases hm : mayP m with
  | false => rfl
  | true =>
    have ho := mayP_ok hm
    have hp : m.2.2.2.2.2.2.1.length ≤ 10 := ho.pl
    have h1 := ref_Put_loop 1099511627776 m.tx (by have := ho.tx; omega) (numsM m) ho.nums.2 (by have := ho.nums.1; have := ho.pl; omega) m.1 m.2.1 m.2.2.1 m.2.2.2.1 m.2.2.2.2.1 m.2.2.2.2.2.1 m.2.2.2.2.2.2.1 m.2.2.2.2.2.2.2.1 m.2.2.2.2.2.2.2.2.1 (numsM m).length 1099511627776 0 [] (by intro x hx; cases hx) (by omega) (by have := ho.nums.1; have := ho.pl; omega) (by have := ho.nums.1; have := ho.pl; simp; omega)
    rw [nt, if_pos rfl]
    simp only [cond_false]
    rw [cbp (by omega), cbp (by rw [List.length_append]; simp; omega)]
    rw [List.drop_zero] at h1
    exact h1
structure RB (s : List Int × Bool) (o : Option (List Int)) : Prop where
  by' : isBytes s.1
  len : s.1.length ≤ 1000000000
  is' : match o with | some l => s.1 = l ∧ s.2 = false | none => s.2 = true
theorem rref_num {s : List Int × Bool} {o : Option (List Int)} (h : RB s o) :
    ∃ s', pleachref10_reader_num s = some ((((numP o).1 : Int), ()), (s', ())) ∧ RB s' (numP o).2 := by
  obtain ⟨hb, hl, hs⟩ := h
  obtain ⟨l, e⟩ := s
  simp only at hb hl
  have eT := ref_TakeNum_eq' l hb (by omega)
  have e1 : ((l.length : Int)).toNat = l.length := rfl
  unfold pleachref10_reader_num numP
  dsimp only
  cases hd : dec l with
  | none =>
    rw [hd, decI_none] at eT
    rw [eT]
    dsimp only [Option.bind_some, nt, nf, cond_false, cond_true]
    cases o with
    | none => exact ⟨_, rfl, hb, hl, rfl⟩
    | some l' =>
      obtain ⟨h1, h2⟩ := hs
      simp only at h1
      subst h1
      simp only [hd]
      exact ⟨_, rfl, hb, hl, rfl⟩
  | some p =>
    obtain ⟨v, n⟩ := p
    obtain ⟨h0, h1, h2, h3⟩ := dec_le hb hd
    rw [hd, decI_some] at eT
    rw [eT]
    dsimp only [Option.bind_some, nt, nf, cond_false, cond_true]
    cases o with
    | none =>
      have hs : e = true := hs
      subst hs
      exact ⟨_, rfl, hb, hl, rfl⟩
    | some l' =>
      obtain ⟨h1', h2'⟩ := hs
      simp only at h1' h2'
      subst h1' h2'
      simp only [hd, cond_false]
      rw [cand, cand, cdp (by omega), cdp (by omega), cdp (by omega), e1, List.take_length, toNat_nat]
      exact ⟨_, rfl, isBytes_drop hb n, by simp only [List.length_drop]; omega, rfl, rfl⟩
theorem rref_text {s : List Int × Bool} {o : Option (List Int)} (h : RB s o) :
    ∃ s', pleachref10_reader_text s = some (((textP o).1, ()), (s', ())) ∧ RB s' (textP o).2 := by
  obtain ⟨hb, hl, hs⟩ := h
  obtain ⟨l, e⟩ := s
  simp only at hb hl
  have eT := ref_TakeText_eq' l hb (by omega)
  have e1 : ((l.length : Int)).toNat = l.length := rfl
  unfold pleachref10_reader_text textP
  dsimp only
  cases hd : decT l with
  | none =>
    rw [hd, decTI_none] at eT
    rw [eT]
    dsimp only [Option.bind_some, nt, nf, cond_false, cond_true]
    cases o with
    | none => exact ⟨_, rfl, hb, hl, rfl⟩
    | some l' =>
      obtain ⟨h1, h2⟩ := hs
      simp only at h1
      subst h1
      simp only [hd]
      exact ⟨_, rfl, hb, hl, rfl⟩
  | some p =>
    obtain ⟨t, n⟩ := p
    obtain ⟨h0, h1, h2⟩ := decT_le hb hd
    rw [hd, decTI_some] at eT
    rw [eT]
    dsimp only [Option.bind_some, nt, nf, cond_false, cond_true]
    cases o with
    | none =>
      have hs : e = true := hs
      subst hs
      exact ⟨_, rfl, hb, hl, rfl⟩
    | some l' =>
      obtain ⟨h1', h2'⟩ := hs
      simp only at h1' h2'
      subst h1' h2'
      simp only [hd, cond_false]
      rw [cand, cand, cdp (by omega), cdp (by omega), cdp (by omega), e1, List.take_length, toNat_nat]
      exact ⟨_, rfl, isBytes_drop hb n, by simp only [List.length_drop]; omega, rfl, rfl⟩
def fin (b : List Int) (m : MsgV) (o : Option (List Int)) : Option MsgV :=
  match o with
  | none => none
  | some _ => if putM m = b then some m else none
theorem rref_end {s : List Int × Bool} {o : Option (List Int)} (h : RB s o) (b : List Int) (hb : isBytes b) (a1 a2 a3 a4 a5 a6 : Int) (p : List Int) (hp : p.length ≤ 1000000000) :
    (Option.bind (pleachref10_reader_num s) fun (r37 : (Int × Unit) × (((List Int) × Bool) × Unit)) =>
  Option.bind (pleachref10_reader_num r37.2.1) fun (r38 : (Int × Unit) × (((List Int) × Bool) × Unit)) =>
  Option.bind (pleachref10_reader_text r38.2.1) fun (r39 : (ByteArray × Unit) × (((List Int) × Bool) × Unit)) =>
  bif r39.2.1.2 then
   some ((zeroM, false, ()), ())
  else
   Option.bind (pleachref10_PutMsg (a1, a2, a3, a4, a5, a6, p, r37.1.1, r38.1.1, r39.1.1)) fun (r40 : ((List Int) × Unit) × Unit) =>
   bif !(strEq (bytesOf r40.1.1) (bytesOf b)) then
    some ((zeroM, false, ()), ())
   else
    some (((a1, a2, a3, a4, a5, a6, p, r37.1.1, r38.1.1, r39.1.1), true, ()), ())) = some (takeV (fin b (a1, a2, a3, a4, a5, a6, p, (endP o).1.1, (endP o).1.2.1, (endP o).1.2.2) (endP o).2)) := by
  obtain ⟨s1, e1, h1⟩ := rref_num h
  obtain ⟨s2, e2, h2⟩ := rref_num h1
  obtain ⟨s3, e3, h3⟩ := rref_text h2
  rw [e1]; dsimp only [Option.bind_some]
  rw [e2]; dsimp only [Option.bind_some]
  rw [e3]; dsimp only [Option.bind_some]
  unfold endP
  dsimp only
  generalize textP (numP (numP o).2).2 = q at *
  obtain ⟨tx, o'⟩ := q
  cases o' with
  | none =>
    rw [show s3.2 = true from h3.is']
    rfl
  | some l =>
    rw [show s3.2 = false from h3.is'.2]
    simp only [cond_false]
    rw [ref_PutMsg_eq' (a1, a2, a3, a4, a5, a6, p, ((numP o).1 : Int), ((numP (numP o).2).1 : Int), tx) hp]
    dsimp only [Option.bind_some]
    unfold fin
    generalize (a1, a2, a3, a4, a5, a6, p, ((numP o).1 : Int), ((numP (numP o).2).1 : Int), tx) = m
    by_cases he : putM m = b
    · have : strEq (bytesOf (putM m)) (bytesOf b) = true := strEq_iff.2 (by rw [he])
      rw [this]; simp only [he, if_true]; rfl
    · have : strEq (bytesOf (putM m)) (bytesOf b) = false := by
        rw [← Bool.not_eq_true]; intro h; exact he (bytesOf_inj (putM_bytes _) hb (strEq_iff.1 h))
      rw [this]; simp only [he, if_false]; rfl
theorem rref_steps (n : Nat) (b : List Int) (hb : isBytes b) (j1 j2 j3 j4 j5 j6 j7 j8 : Int) (jt : ByteArray) (jl : List Int) (a1 a2 a3 a4 a5 a6 g j : Int) (tx : ByteArray) : ∀ (k m : Nat) (s : List Int × Bool) (o : Option (List Int)) (acc : List Int), RB s o → k < m → acc.length + k ≤ 1073741824 → (stepsP k o acc).1.length ≤ 1000000000 →
    pleachref10_TakeMsg_L1 n m b (k : Int) j1 j2 j3 j4 j5 j6 j7 j8 jt jl s.1 s.2 a1 a2 a3 a4 a5 a6 g j tx acc =
      some (takeV (fin b (a1, a2, a3, a4, a5, a6, (stepsP k o acc).1, (endP (stepsP k o acc).2).1.1, (endP (stepsP k o acc).2).1.2.1, (endP (stepsP k o acc).2).1.2.2) (endP (stepsP k o acc).2).2))
  | k, 0, s, o, acc, _, h, _, _ => by omega
  | 0, m + 1, s, o, acc, hs, h, hl, hq => by
    show pleachref10_TakeMsg_B1 (pleachref10_TakeMsg_L1 n m) b ((0 : Nat) : Int) j1 j2 j3 j4 j5 j6 j7 j8 jt jl s.1 s.2 a1 a2 a3 a4 a5 a6 g j tx acc = _
    unfold pleachref10_TakeMsg_B1
    rw [cdn (by omega)]
    exact rref_end hs b hb a1 a2 a3 a4 a5 a6 acc hq
  | k + 1, m + 1, s, o, acc, hs, h, hl, hq => by
    show pleachref10_TakeMsg_B1 (pleachref10_TakeMsg_L1 n m) b ((k + 1 : Nat) : Int) j1 j2 j3 j4 j5 j6 j7 j8 jt jl s.1 s.2 a1 a2 a3 a4 a5 a6 g j tx acc = _
    unfold pleachref10_TakeMsg_B1
    rw [cdp (by omega)]
    cases o with
    | none =>
      have hx : s.2 = true := hs.is'
      have e1 : s = (s.1, true) := by rw [← hx]
      have := rref_end hs b hb a1 a2 a3 a4 a5 a6 acc hq
      rw [e1] at this
      rw [hx]
      simp only [nt, cond_false]
      exact this
    | some l =>
      obtain ⟨h1, h2⟩ := hs.is'
      obtain ⟨s1, e1, r1⟩ := rref_num hs
      have e0 : s = (s.1, s.2) := rfl
      rw [e0] at e1
      rw [e1, h2]
      simp only [nf, cond_true, Option.bind_some]
      rw [cbp (by omega), wi64 (by omega) (by omega)]
      have ek : ((k + 1 : Nat) : Int) - 1 = (k : Int) := by omega
      rw [ek]
      exact rref_steps n b hb j1 j2 j3 j4 j5 j6 j7 j8 jt jl a1 a2 a3 a4 a5 a6 g j tx k m s1 _ _ r1 (by omega) (by rw [List.length_append, List.length_singleton]; omega) hq
def rmsgP (l : List Int) : MsgV × Option (List Int) :=
  let a1 := numP (some l); let a2 := numP a1.2; let a3 := numP a2.2; let a4 := numP a3.2; let a5 := numP a4.2; let a6 := numP a5.2; let a7 := numP a6.2
  let p := stepsP a7.1 a7.2 []
  let e := endP p.2
  (((a1.1 : Int), (a2.1 : Int), (a3.1 : Int), (a4.1 : Int), (a5.1 : Int), (a6.1 : Int), p.1, e.1.1, e.1.2.1, e.1.2.2), e.2)
def oLen (o : Option (List Int)) : Nat := match o with | some l => l.length + 1 | none => 0
theorem numP_len (o : Option (List Int)) (h : ∀ l, o = some l → isBytes l) : oLen (numP o).2 ≤ oLen o ∧ (∀ l, o = some l → oLen (numP o).2 < oLen o) ∧ (∀ l, (numP o).2 = some l → isBytes l) := by
  unfold numP
  cases o with
  | none => exact ⟨by simp [oLen], by intro l e; (cases e), by intro l e; (cases e)⟩
  | some l =>
    simp only
    cases hd : dec l with
    | none => simp [oLen]
    | some q =>
      obtain ⟨v, n⟩ := q
      have := dec_le (h l rfl) hd
      simp only [oLen, List.length_drop]
      refine ⟨by omega, fun _ _ => by omega, ?_⟩
      intro l' e
      cases e
      exact isBytes_drop (h l rfl) n
theorem stepsP_len2 : ∀ (k : Nat) (o : Option (List Int)) (acc : List Int), (∀ l, o = some l → isBytes l) → (stepsP k o acc).1.length ≤ acc.length + oLen o
  | 0, o, acc, _ => by simp [stepsP]
  | k + 1, none, acc, _ => by simp [stepsP]
  | k + 1, some l, acc, h => by
    obtain ⟨_, h2, h3⟩ := numP_len (some l) h
    have h2 := h2 l rfl
    have := stepsP_len2 k (numP (some l)).2 (acc ++ [((numP (some l)).1 : Int)]) h3
    rw [List.length_append, List.length_singleton] at this
    show (stepsP k (numP (some l)).2 (acc ++ [((numP (some l)).1 : Int)])).1.length ≤ _
    omega
theorem RB.byo {s : List Int × Bool} {o : Option (List Int)} (h : RB s o) : ∀ l, o = some l → isBytes l := by
  intro l e; subst e
  obtain ⟨h1, h2⟩ := h.is'
  rw [← h1]; exact h.by'
theorem rmsgP_body (m : MsgV) (h : OkM m) (r : List Int) : rmsgP (body m ++ r) = (m, some r) := by
  have h1 := h.kd; have h2 := h.fr; have h3 := h.to; have h4 := h.inc; have h5 := h.ep; have h6 := h.ag; have h7 := h.pl; have h8 := h.pa; have h9 := h.lo; have h10 := h.hi; have h11 := h.tx
  obtain ⟨kd, fr, to, inc, ep, ag, pa, lo, hi, tx⟩ := m
  simp only [MsgV.kd, MsgV.fr, MsgV.to, MsgV.inc, MsgV.ep, MsgV.ag, MsgV.pa, MsgV.lo, MsgV.hi, MsgV.tx] at h1 h2 h3 h4 h5 h6 h7 h8 h9 h10 h11
  have e : body (kd, fr, to, inc, ep, ag, pa, lo, hi, tx) ++ r =
      encI kd ++ (encI fr ++ (encI to ++ (encI inc ++ (encI ep ++ (encI ag ++ (encI (pa.length : Int) ++ (encs pa ++ (encI lo ++ (encI hi ++ (encT (bytes tx) ++ r)))))))))) := by
    unfold body numsM
    rw [encs_app, encs_app]
    simp only [encs, List.append_nil, List.append_assoc, MsgV.kd, MsgV.fr, MsgV.to, MsgV.inc, MsgV.ep, MsgV.ag, MsgV.pa, MsgV.lo, MsgV.hi, MsgV.tx]
  rw [e]
  unfold rmsgP
  dsimp only
  rw [numP_enc kd _ (by omega)]; dsimp only
  rw [numP_enc fr _ (by omega)]; dsimp only
  rw [numP_enc to _ (by omega)]; dsimp only
  rw [numP_enc inc _ (by omega)]; dsimp only
  rw [numP_enc ep _ (by omega)]; dsimp only
  rw [numP_enc ag _ (by omega)]; dsimp only
  rw [numP_enc (pa.length : Int) _ (by omega)]; dsimp only
  rw [toNat_nat, stepsP_enc pa [] _ (fun x hx => by have := h8 x hx; omega)]
  unfold endP
  dsimp only
  rw [numP_enc lo _ (by omega)]; dsimp only
  rw [numP_enc hi _ (by omega)]; dsimp only
  rw [textP_enc tx r (by omega)]; dsimp only
  rw [Int.toNat_of_nonneg (by omega), Int.toNat_of_nonneg (by omega), Int.toNat_of_nonneg (by omega), Int.toNat_of_nonneg (by omega), Int.toNat_of_nonneg (by omega), Int.toNat_of_nonneg (by omega), Int.toNat_of_nonneg (by omega), Int.toNat_of_nonneg (by omega)]
  rfl
def rTake (b : List Int) : Option MsgV :=
  if b.length < 4 then none else fin b (rmsgP (b.take (b.length - 4))).1 (rmsgP (b.take (b.length - 4))).2
theorem rTake_eq (b : List Int) : rTake b = takeM b := by
  cases ht : takeM b with
  | some m =>
    obtain ⟨hm, hb⟩ := takeM_some ht
    have e : putM m = body m ++ tail4 (crcV (body m)) := by unfold putM; rw [if_pos hm]
    have el : b.length = (body m).length + 4 := by rw [hb, e, List.length_append, tail4_len]
    have e2 : b.take (b.length - 4) = body m ++ [] := by
      rw [el, hb, e, show (body m).length + 4 - 4 = (body m).length by omega, List.take_left, List.append_nil]
    unfold rTake
    rw [e2, rmsgP_body m (mayP_ok hm), if_neg (by omega)]
    unfold fin
    simp only
    rw [if_pos hb.symm]
  | none =>
    cases hr : rTake b with
    | none => rfl
    | some m =>
      exfalso
      unfold rTake at hr
      split at hr
      · cases hr
      · unfold fin at hr
        split at hr
        · cases hr
        · split at hr
          · rename_i h2
            have h3 := Option.some.inj hr
            rw [h3] at h2
            have hm := putM_len4 (m := m) (by rw [h2]; omega)
            have := takeM_put hm
            rw [h2, ht] at this
            cases this
          · cases hr
theorem ref_TakeMsg_eq' (b : List Int) (hb : isBytes b) (hl : b.length ≤ 100000000) : pleachref10_TakeMsg b = some (takeV (takeM b)) := by
  rw [← rTake_eq]
  show pleachref10_TakeMsg_T (pleachref10_TakeMsg_L1 1099511627776 1099511627776) b = _
  unfold pleachref10_TakeMsg_T rTake
  by_cases h4 : b.length < 4
  · rw [cdp (by omega), if_pos h4]; rfl
  rw [cdn (by omega), if_neg h4, wi64 (by omega) (by omega), cand, cdp (by omega), cdp (by omega)]
  have e1 : ((b.length : Int) - 4).toNat = b.length - 4 := by omega
  rw [e1, List.drop_zero]
  have hb0 : isBytes (b.take (b.length - 4)) := isBytes_take hb _
  have hl0 : (b.take (b.length - 4)).length ≤ 100000000 := by rw [List.length_take]; omega
  generalize b.take (b.length - 4) = l at *
  have h0 : RB (l, false) (some l) := ⟨hb0, by show l.length ≤ _; omega, rfl, rfl⟩
  unfold rmsgP
  dsimp only
  obtain ⟨s1, e1, h1⟩ := rref_num h0
  rw [e1]; dsimp only [Option.bind_some]
  obtain ⟨s2, e2, h2⟩ := rref_num h1
  rw [e2]; dsimp only [Option.bind_some]
  obtain ⟨s3, e3, h3⟩ := rref_num h2
  rw [e3]; dsimp only [Option.bind_some]
  obtain ⟨s4, e4, h4⟩ := rref_num h3
  rw [e4]; dsimp only [Option.bind_some]
  obtain ⟨s5, e5, h5⟩ := rref_num h4
  rw [e5]; dsimp only [Option.bind_some]
  obtain ⟨s6, e6, h6⟩ := rref_num h5
  rw [e6]; dsimp only [Option.bind_some]
  obtain ⟨s7, e7, h7⟩ := rref_num h6
  rw [e7]; dsimp only [Option.bind_some]
  have l1 := (numP_len _ h0.byo).1
  have l2 := (numP_len _ h1.byo).1
  have l3 := (numP_len _ h2.byo).1
  have l4 := (numP_len _ h3.byo).1
  have l5 := (numP_len _ h4.byo).1
  have l6 := (numP_len _ h5.byo).1
  have l7 := (numP_len _ h6.byo).1
  have hv := numP_le _ h6.byo
  have ls := stepsP_len2 (numP (numP (numP (numP (numP (numP (numP (some l)).2).2).2).2).2).2).1 (numP (numP (numP (numP (numP (numP (numP (some l)).2).2).2).2).2).2).2 [] h7.byo
  have l0 : oLen (some l) ≤ 100000001 := by unfold oLen; simp only; omega
  simp only [List.length_nil] at ls
  exact rref_steps 1099511627776 b hb 0 0 0 0 0 0 0 0 (⟨#[]⟩ : ByteArray) [] _ _ _ _ _ _ 0 0 (⟨#[]⟩ : ByteArray) _ 1099511627776 s7 _ [] h7 (by omega) (by simp; omega) (by omega)
end Go.PE
