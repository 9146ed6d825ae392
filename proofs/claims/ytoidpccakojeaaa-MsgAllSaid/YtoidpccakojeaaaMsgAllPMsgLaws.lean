/-
  Plain lemmas on the functions.
  Conditions: none.
-/
import Derived.Test.YtoidpccakojeaaaMsgAllPPicks
set_option linter.unusedVariables false
set_option linter.unusedSimpArgs false
set_option maxRecDepth 20000
namespace Go.PE
theorem begun12 : pleachlaw12_begun = some ((true, ()), ()) := by kernel_rfl
theorem wf_sl8 {N : Nat} {l : List Int} (h : wfTy (.sl N (.int .u8)) l) : isBytes l := fun x hx => wf_u8.1 (h.2 x hx)
theorem enc_small {x : Int} (h : 0 ≤ x ∧ x < 128) : (encI x).length = 1 := by
  unfold encI enc encF
  rw [if_pos (by omega)]; rfl
theorem encs_small : ∀ {l : List Int}, (∀ x ∈ l, 0 ≤ x ∧ x < 128) → (encs l).length = l.length
  | [], _ => rfl
  | x :: r, h => by
    show (encI x ++ encs r).length = _
    rw [List.length_append, enc_small (h x (List.mem_cons_self ..)), encs_small (fun y hy => h y (List.mem_cons_of_mem _ hy)), List.length_cons]; omega
theorem putM_small {m : MsgV} (hm : mayP m = true) (h : smallM m) : (putM m).length = 14 + m.pa.length + m.tx.size := by
  have ho := mayP_ok hm
  unfold putM
  rw [if_pos hm, List.length_append, tail4_len]
  unfold body encT
  have ht := ho.tx
  have h1 : (enc (bytes m.tx).length).length = 1 := by
    have := enc_small (x := ((bytes m.tx).length : Int)) (by rw [bytes_length]; omega)
    exact this
  rw [List.length_append, List.length_append, encs_small h, ho.nums.1, h1, bytes_length]; omega
theorem pleachlaw12_MsgSmall_true {N : Nat} (picks : List Int) (h : wfPs [.val (.sl N (.int .u8))] (picks, ())) : pleachlaw12_MsgSmall picks = some ((true, ()), ()) := by
  obtain ⟨hp, _⟩ := h
  have hb : isBytes picks := wf_sl8 hp
  unfold pleachlaw12_MsgSmall
  rw [begun12]
  dsimp only [Option.bind_some, nt, nf, cond_false, cond_true]
  by_cases h1 : picks.length > 15
  · rw [cdp (by omega)]
  rw [cdn (by omega)]
  unfold pleachmade_Made
  dsimp only [Option.bind_some]
  obtain ⟨m, s', e, hm, _, hs, _⟩ := pk_msg (pk_made hb (by omega)) 5 (by omega)
  have ho := mayP_ok hm
  have hpl : m.2.2.2.2.2.2.1.length ≤ 10 := ho.pl
  have htx : m.2.2.2.2.2.2.2.2.2.size ≤ 12 := ho.tx
  rw [e]; dsimp only [Option.bind_some]
  rw [msg_Put_eq' m (by have := ho.pl; omega)]; dsimp only [Option.bind_some]
  have hl := putM_small hm hs
  simp only [MsgV.pa, MsgV.tx] at hl
  rw [wi64 (x := 14 + (m.2.2.2.2.2.2.1.length : Int)) (by omega) (by omega), wi64 (by omega) (by omega), ceqp (by omega), decide_eq_true (by omega)]
theorem pleachlaw12_MsgApart_true {N : Nat} (a b : List Int) (h : wfPs [.val (.sl N (.int .u8)), .val (.sl N (.int .u8))] (a, b, ())) : pleachlaw12_MsgApart a b = some ((true, ()), ()) := by
  obtain ⟨ha, hb, _⟩ := h
  have ha : isBytes a := wf_sl8 ha
  have hb : isBytes b := wf_sl8 hb
  unfold pleachlaw12_MsgApart
  rw [begun12]
  dsimp only [Option.bind_some, nt, nf, cond_false, cond_true]
  by_cases h1 : a.length > 15
  · rw [cdp (by omega)]
  rw [cdn (by omega)]
  by_cases h2 : b.length > 15
  · rw [cdp (by omega)]
  rw [cdn (by omega)]
  unfold pleachmade_Made
  dsimp only [Option.bind_some]
  obtain ⟨m, s', e, hm, _, _, _⟩ := pk_msg (pk_made ha (by omega)) 2 (by omega)
  rw [e]; dsimp only [Option.bind_some]
  obtain ⟨m', s'', e', hm', _, _, _⟩ := pk_msg (pk_made hb (by omega)) 2 (by omega)
  rw [e']; dsimp only [Option.bind_some]
  have l1 := (mayP_ok hm).pl; have l2 := (mayP_ok hm').pl
  rw [msg_Put_eq' m (by omega), msg_Put_eq' m' (by omega), msg_Same_eq' m m' (by omega) (by omega), msg_Same_eq' m m (by omega) (by omega)]; dsimp only [Option.bind_some]
  have hx : strEq (bytesOf (putM m)) (bytesOf (putM m')) = eqM m m' := by
    rw [Bool.eq_iff_iff, strEq_iff, eqM_iff]
    constructor
    · intro h; exact putM_inj hm (bytesOf_inj (putM_bytes _) (putM_bytes _) h)
    · rintro rfl; rfl
  rw [hx, beq_self_eq_true, eqM_self]; rfl
theorem putM_len8 {m : MsgV} (h : mayP m = true) : 8 ≤ (putM m).length := by
  have ho := mayP_ok h
  unfold putM
  rw [if_pos h, List.length_append, tail4_len]
  unfold body numsM
  rw [List.length_append, encs_app, encs_app]
  simp only [encs, List.length_append]
  have p : ∀ x, 0 < (encI x).length := fun x => enc_pos _
  have := p m.kd; have := p m.fr; have := p m.to; have := p m.inc
  omega
theorem xor8 {x y : Int} (hx : 0 ≤ x ∧ x < 256) (hy : 0 ≤ y ∧ y < 256) (hn : y ≠ 0) :
    0 ≤ IntKind.wrap .u8 ((BitVec.ofInt 8 x ^^^ BitVec.ofInt 8 y).toNat) ∧ IntKind.wrap .u8 ((BitVec.ofInt 8 x ^^^ BitVec.ofInt 8 y).toNat) < 256 ∧ x ≠ IntKind.wrap .u8 ((BitVec.ofInt 8 x ^^^ BitVec.ofInt 8 y).toNat) := by
  have key : ∀ a b : BitVec 8, b ≠ 0#8 → (a ^^^ b).toNat ≠ a.toNat := by
    intro a b hb e
    have e1 : a ^^^ b = a := BitVec.eq_of_toNat_eq e
    have e2 := congrArg (a ^^^ ·) e1
    simp only [← BitVec.xor_assoc, BitVec.xor_self, BitVec.zero_xor] at e2
    exact hb e2
  have hb : BitVec.ofInt 8 y ≠ 0#8 := by
    intro e
    have := congrArg BitVec.toNat e
    rw [BitVec.toNat_ofInt] at this
    simp at this
    omega
  have h1 := key (BitVec.ofInt 8 x) _ hb
  have h2 := (BitVec.ofInt 8 x ^^^ BitVec.ofInt 8 y).isLt
  rw [BitVec.toNat_ofInt x] at h1
  rw [wu8 (by omega) (by omega)]
  refine ⟨by omega, by omega, ?_⟩
  intro e
  apply h1
  omega
theorem pleachlaw12_MsgBack_true {N : Nat} (picks : List Int) (at' by' more : Int) (h : wfPs [.val (.sl N (.int .u8)), .val (.int .u16), .val (.int .u8), .val (.int .u8)] (picks, at', by', more, ())) : pleachlaw12_MsgBack picks at' by' more = some ((true, ()), ()) := by
  obtain ⟨ha, h1, h2, h3, _⟩ := h
  have hb : isBytes picks := wf_sl8 ha
  have h1 : 0 ≤ at' ∧ at' < 65536 := wf_u16.1 h1
  have h2 : 0 ≤ by' ∧ by' < 256 := wf_u8.1 h2
  have h3 : 0 ≤ more ∧ more < 256 := wf_u8.1 h3
  unfold pleachlaw12_MsgBack
  rw [begun12]
  dsimp only [Option.bind_some, nt, nf, cond_false, cond_true]
  by_cases c1 : picks.length > 15
  · rw [cdp (by omega)]
  rw [cdn (by omega)]
  unfold pleachmade_Made
  dsimp only [Option.bind_some]
  obtain ⟨m, s', e, hm, _, _, _⟩ := pk_msg (pk_made hb (by omega)) 4 (by omega)
  rw [e]; dsimp only [Option.bind_some]
  have l1 := (mayP_ok hm).pl
  rw [msg_Put_eq' m (by omega)]; dsimp only [Option.bind_some]
  have hl := putM_len8 hm
  have hl2 := putM_len m
  have hby := putM_bytes m
  rw [cdn (by omega), msg_Take_eq' _ hby (by omega), takeM_put hm]
  dsimp only [Option.bind_some, takeV]
  rw [ceqn' (by omega), wi64 (x := at') (by omega) (by omega), Int.tmod_eq_emod_of_nonneg h1.1]
  have q1 := Int.emod_nonneg at' (show ((putM m).length : Int) ≠ 0 by omega)
  have q2 := Int.emod_lt_of_pos at' (show 0 < ((putM m).length : Int) by omega)
  generalize at' % ((putM m).length : Int) = i at *
  obtain ⟨i, rfl⟩ : ∃ j : Nat, i = (j : Int) := ⟨i.toNat, by omega⟩
  have q3 : i < (putM m).length := by omega
  have c1 : decide ((0 : Int) ≤ (i : Int)) = true := decide_eq_true (by omega)
  have c2 : decide ((i : Int) < ((putM m).length : Int)) = true := decide_eq_true (by omega)
  have c3 : decide ((i : Int) ≤ ((putM m).length : Int)) = true := decide_eq_true (by omega)
  rw [List.nil_append]
  simp only [c1, c2, c3, Bool.and_self, cond_true, toNat_nat, List.drop_zero]
  rw [msg_Take_eq' _ (isBytes_take hby _) (by rw [List.length_take]; omega), takeM_cut hm i q3]
  dsimp only [Option.bind_some, takeV]
  rw [cbp (by omega), cbp (by omega), msg_Take_eq' _ (isBytes_append.2 ⟨hby, fun x hx => by rw [List.mem_singleton] at hx; omega⟩) (by rw [List.length_append, List.length_singleton]; omega), takeM_more hm]
  dsimp only [Option.bind_some, takeV, nt, nf, cond_false, cond_true]
  rw [ref_Same_eq m m (by omega) (by omega), eqM_self]
  dsimp only [Option.bind_some, takeV, nt, nf, cond_false, cond_true]
  by_cases c5 : by' = 0
  · rw [ceqp c5]
  rw [ceqn c5, cbp (by omega), ceqn' (by omega)]
  have hx := getD_byte hby q3
  obtain ⟨x1, x2, x3⟩ := xor8 hx h2 c5
  generalize IntKind.wrap .u8 ((BitVec.ofInt 8 (List.getD (putM m) i 0) ^^^ BitVec.ofInt 8 by').toNat) = y at *
  rw [msg_Take_eq' _ (fun z hz => (List.mem_or_eq_of_mem_set hz).elim (hby z) (fun e => by subst e; exact ⟨x1, x2⟩)) (by rw [List.length_set]; omega), takeM_turn hm i q3 y ⟨x1, x2⟩ x3]
  rfl
end Go.PE
