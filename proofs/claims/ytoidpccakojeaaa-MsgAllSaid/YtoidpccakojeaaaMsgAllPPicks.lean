/-
  Plain lemmas on the functions.
  Conditions: none.
-/
import Derived.Test.YtoidpccakojeaaaMsgAllPMsgTake
set_option linter.unusedVariables false
set_option linter.unusedSimpArgs false
set_option maxRecDepth 20000
namespace Go.PE
theorem ceqn' {α : Type} {x y : Int} {a b : α} (h : x ≠ y) : (bif !(x == y) then a else b) = a := by rw [beq_eq_false_iff_ne.2 h]; rfl
structure PkOk (s : List Int × Int) : Prop where
  by' : isBytes s.1
  len : s.1.length ≤ 1000000000
  at' : 0 ≤ s.2 ∧ s.2 ≤ (s.1.length : Int)
theorem pk_num {s : List Int × Int} (h : PkOk s) (m : Int) (hm : 1 ≤ m ∧ m ≤ 1000) :
    ∃ (r : Nat) (s' : List Int × Int), pleachmade_Picks_Num s m = some (((r : Int), ()), (s', ())) ∧ (r : Int) < m ∧ PkOk s' := by
  obtain ⟨hb, hl, ha⟩ := h
  obtain ⟨l, n⟩ := s
  simp only at hb hl ha
  unfold pleachmade_Picks_Num
  by_cases h1 : n ≥ (l.length : Int)
  · rw [cdp h1]
    exact ⟨0, (l, n), rfl, by omega, hb, hl, ha⟩
  · rw [cdn h1, cdn (show ¬ m < 1 by omega)]
    dsimp only
    rw [wi64 (x := n + 1) (by omega) (by omega), wi64 (x := n + 1 - 1) (by omega) (by omega), cand, cdp (by omega), cdp (by omega), ceqn' (by omega)]
    have hx := getD_byte hb (i := (n + 1 - 1).toNat) (by omega)
    generalize List.getD l (n + 1 - 1).toNat 0 = x at *
    rw [wi64 (x := x) (by omega) (by omega), Int.tmod_eq_emod_of_nonneg hx.1]
    have h5 := Int.emod_nonneg x (show m ≠ 0 by omega)
    have h6 := Int.emod_lt_of_pos x (show 0 < m by omega)
    refine ⟨(x % m).toNat, (l, n + 1), ?_, by omega, hb, hl, by show 0 ≤ n + 1; omega, by show n + 1 ≤ (l.length : Int); omega⟩
    rw [Int.toNat_of_nonneg h5]
theorem pk_made {l : List Int} (hb : isBytes l) (hl : l.length ≤ 1000000000) : PkOk (l, 0) := ⟨hb, hl, by show (0 : Int) ≤ 0; omega, by show (0 : Int) ≤ _; omega⟩
theorem pk_text {s : List Int × Int} (h : PkOk s) : ∃ (t : ByteArray) (s' : List Int × Int), pleachmade_Picks_Text s = some ((t, ()), (s', ())) ∧ t.size ≤ 12 ∧ PkOk s' := by
  obtain ⟨r, s', e, hr, hs⟩ := pk_num h 5 (by omega)
  unfold pleachmade_Picks_Text
  rw [e]; dsimp only [Option.bind_some]
  rw [cand, cdp (by omega), cdp (by omega), cand, cdp (by omega), cdp (by omega), toNat_nat]
  refine ⟨_, s', rfl, ?_, hs⟩
  have : r = 0 ∨ r = 1 ∨ r = 2 ∨ r = 3 ∨ r = 4 := by omega
  rcases this with rfl | rfl | rfl | rfl | rfl <;> decide
theorem mayPath_loop (n : Nat) (p : List Int) (h6 : p.length ≤ 1000000000) : ∀ (k m i : Nat), i + k = p.length → k < m →
    pleachref1_MayPath_L1 n m p (i : Int) = some ((walkOk (p.take i) (p.drop i), ()), ())
  | k, 0, i, _, h => by omega
  | 0, m + 1, i, hk, h => by
    show pleachref1_MayPath_B1 (pleachref1_MayPath_L1 n m) p (i : Int) = _
    unfold pleachref1_MayPath_B1
    rw [cdn (by omega), List.drop_eq_nil_of_le (by omega)]; rfl
  | k + 1, m + 1, i, hk, h => by
    have hi : i < p.length := by omega
    show pleachref1_MayPath_B1 (pleachref1_MayPath_L1 n m) p (i : Int) = _
    unfold pleachref1_MayPath_B1
    have c1 : decide ((0 : Int) ≤ (i : Int)) = true := decide_eq_true (by omega)
    have c2 : decide ((i : Int) < (p.length : Int)) = true := decide_eq_true (by omega)
    have c3 : decide ((i : Int) ≤ (p.length : Int)) = true := decide_eq_true (by omega)
    simp only [c1, c2, c3, Bool.and_self, cond_true]
    rw [toNat_nat, getD_at hi, List.drop_zero, has_eq _ _ (by rw [List.length_take]; omega), inext (by omega)]
    dsimp only [Option.bind_some]
    rw [mayPath_loop n p h6 k m (i + 1) (by omega) (by omega), List.drop_eq_getElem_cons hi, take_succ_at hi]
    conv => rhs; unfold walkOk
    generalize p[i] = x
    by_cases h1 : x < 1
    · rw [cdp h1]
      have : inR 1 8 x = false := by unfold inR; rw [decide_eq_false (by omega)]; rfl
      rw [this]; rfl
    · rw [cdn h1]
      by_cases h2 : x > 8
      · rw [cdp h2]
        have : inR 1 8 x = false := by unfold inR; rw [decide_eq_false (show ¬ x ≤ 8 by omega), Bool.and_false]
        rw [this]; rfl
      · rw [cdn h2]
        have : inR 1 8 x = true := inR_iff.2 (by omega)
        rw [this]
        cases decide (x ∈ p.take i) <;> simp
theorem ref_MayPath_eq' (p : List Int) (h6 : p.length ≤ 1000000000) : pleachref1_MayPath p = some ((mayPath p, ()), ()) := by
  show pleachref1_MayPath_T (pleachref1_MayPath_L1 1099511627776 1099511627776) p = _
  unfold pleachref1_MayPath_T mayPath
  by_cases h1 : p.length < 1
  · rw [cdp (by omega), decide_eq_false (show ¬ 1 ≤ p.length by omega)]; rfl
  rw [cdn (by omega)]
  by_cases h2 : p.length > 10
  · rw [cdp (by omega), decide_eq_false (show ¬ p.length ≤ 10 by omega)]; simp
  rw [cdn (by omega), cdp (by omega), cneq]
  by_cases h3 : List.getD p 0 0 = 1
  · rw [if_pos h3]
    have := mayPath_loop 1099511627776 p h6 p.length 1099511627776 0 (by omega) (by omega)
    rw [List.take_zero, List.drop_zero] at this
    rw [decide_eq_true (show 1 ≤ p.length by omega), decide_eq_true (show p.length ≤ 10 by omega), decide_eq_true h3]
    simp only [Bool.true_and]
    exact this
  · rw [if_neg h3, decide_eq_false h3]; simp
def addPath (p : List Int) (x : Int) : List Int × Bool := if mayPath (p ++ [x]) = true then (p ++ [x], true) else ([], false)
theorem ref_AddPath_eq' (p : List Int) (x : Int) (h6 : p.length ≤ 100000000) : pleachref1_AddPath p x = some (((addPath p x).1, (addPath p x).2, ()), ()) := by
  unfold pleachref1_AddPath addPath
  rw [List.nil_append, cbp (by omega), cbp (by omega), ref_MayPath_eq' _ (by rw [List.length_append]; simp; omega)]
  dsimp only [Option.bind_some]
  cases mayPath (p ++ [x]) <;> rfl
theorem path_steps (n : Nat) : ∀ (k m : Nat) (s : List Int × Int) (p : List Int), PkOk s → mayPath p = true → k < m → k ≤ 1000000 →
    ∃ (q : List Int) (s' : List Int × Int), pleachmade_Picks_Path_L1 n m (k : Int) s.1 s.2 p = some ((q, ()), (s', ())) ∧ mayPath q = true ∧ PkOk s'
  | k, 0, s, p, _, _, h, _ => by omega
  | 0, m + 1, s, p, hs, hp, h, _ => by
    show ∃ q s', pleachmade_Picks_Path_B1 (pleachmade_Picks_Path_L1 n m) ((0 : Nat) : Int) s.1 s.2 p = _ ∧ _
    unfold pleachmade_Picks_Path_B1
    rw [cdn (by omega)]
    exact ⟨p, s, rfl, hp, hs⟩
  | k + 1, m + 1, s, p, hs, hp, h, hm => by
    show ∃ q s', pleachmade_Picks_Path_B1 (pleachmade_Picks_Path_L1 n m) ((k + 1 : Nat) : Int) s.1 s.2 p = _ ∧ _
    unfold pleachmade_Picks_Path_B1
    obtain ⟨r, s1, e, hr, h1⟩ := pk_num hs 7 (by omega)
    have e0 : s = (s.1, s.2) := rfl
    rw [e0] at e
    rw [cdp (by omega), e]
    dsimp only [Option.bind_some]
    rw [ref_AddPath_eq' p _ (by have := (mayPath_all hp).1; omega)]
    dsimp only [Option.bind_some]
    have ek : IntKind.wrap .i64 (((k + 1 : Nat) : Int) - 1) = (k : Int) := by rw [wi64 (by omega) (by omega)]; omega
    unfold addPath
    cases hq : mayPath (p ++ [IntKind.wrap .i64 (2 + (r : Int))]) with
    | true =>
      rw [if_pos rfl]
      rw [ek]
      exact path_steps n k m s1 _ h1 hq (by omega) (by omega)
    | false =>
      rw [if_neg (by decide)]
      rw [ek]
      exact path_steps n k m s1 _ h1 hp (by omega) (by omega)
theorem pk_path {s : List Int × Int} (h : PkOk s) : ∃ (p : List Int) (s' : List Int × Int), pleachmade_Picks_Path s = some ((p, ()), (s', ())) ∧ mayPath p = true ∧ PkOk s' := by
  show ∃ p s', pleachmade_Picks_Path_T (pleachmade_Picks_Path_L1 1099511627776 1099511627776) s = _ ∧ _
  unfold pleachmade_Picks_Path_T
  obtain ⟨r, s1, e, hr, h1⟩ := pk_num h 4 (by omega)
  rw [e]; dsimp only [Option.bind_some]
  exact path_steps 1099511627776 r 1099511627776 s1 [1] h1 (by decide) (by omega) (by omega)
def smallM (m : MsgV) : Prop := ∀ x ∈ numsM m, 0 ≤ x ∧ x < 128
noncomputable def msgRest (to fr : Int) (s : List Int × Int) : Option ((MsgV × Unit) × ((List Int × Int) × Unit)) :=
  Option.bind (pleachmade_Picks_Num s 9) fun (r2 : (Int × Unit) × (((List Int) × Int) × Unit)) =>
  Option.bind (pleachmade_Picks_Num r2.2.1 3) fun (r3 : (Int × Unit) × (((List Int) × Int) × Unit)) =>
  bif (IntKind.wrap .i64 (1 + r2.1.1)) == 2 then
   Option.bind (pleachmade_Picks_Num r3.2.1 20) fun (r4 : (Int × Unit) × (((List Int) × Int) × Unit)) =>
   Option.bind (pleachmade_Picks_Num r4.2.1 25) fun (r5 : (Int × Unit) × (((List Int) × Int) × Unit)) =>
   Option.bind (pleachmade_Picks_Path r5.2.1) fun (r6 : ((List Int) × Unit) × (((List Int) × Int) × Unit)) =>
   Option.bind (pleachmade_Picks_Num r6.2.1 9) fun (r7 : (Int × Unit) × (((List Int) × Int) × Unit)) =>
   some (((IntKind.wrap .i64 (1 + r2.1.1), fr, to, IntKind.wrap .i64 (1 + r3.1.1), r4.1.1, r5.1.1, r6.1.1, r7.1.1, 0, (⟨#[]⟩ : ByteArray)), ()), (r7.2.1, ()))
  else
  bif (IntKind.wrap .i64 (1 + r2.1.1)) == 5 then
   Option.bind (pleachmade_Picks_Num r3.2.1 20) fun (r8 : (Int × Unit) × (((List Int) × Int) × Unit)) =>
   Option.bind (pleachmade_Picks_Num r8.2.1 25) fun (r9 : (Int × Unit) × (((List Int) × Int) × Unit)) =>
   Option.bind (pleachmade_Picks_Path r9.2.1) fun (r10 : ((List Int) × Unit) × (((List Int) × Int) × Unit)) =>
   Option.bind (pleachmade_Picks_Num r10.2.1 12) fun (r11 : (Int × Unit) × (((List Int) × Int) × Unit)) =>
   some (((IntKind.wrap .i64 (1 + r2.1.1), fr, to, IntKind.wrap .i64 (1 + r3.1.1), r8.1.1, r9.1.1, r10.1.1, 0, r11.1.1, (⟨#[]⟩ : ByteArray)), ()), (r11.2.1, ()))
  else
  bif (IntKind.wrap .i64 (1 + r2.1.1)) == 7 then
   Option.bind (pleachmade_Picks_Num r3.2.1 12) fun (r12 : (Int × Unit) × (((List Int) × Int) × Unit)) =>
   Option.bind (pleachmade_Picks_Text r12.2.1) fun (r13 : (ByteArray × Unit) × (((List Int) × Int) × Unit)) =>
   some (((IntKind.wrap .i64 (1 + r2.1.1), fr, to, IntKind.wrap .i64 (1 + r3.1.1), 0, 0, [], IntKind.wrap .i64 (1 + r12.1.1), 0, r13.1.1), ()), (r13.2.1, ()))
  else
  bif (IntKind.wrap .i64 (1 + r2.1.1)) == 8 then
   bif (IntKind.wrap .i64 (1 + r2.1.1)) == 8 then
    Option.bind (pleachmade_Picks_Num r3.2.1 9) fun (r14 : (Int × Unit) × (((List Int) × Int) × Unit)) =>
    Option.bind (pleachmade_Picks_Num r14.2.1 6) fun (r15 : (Int × Unit) × (((List Int) × Int) × Unit)) =>
    some (((IntKind.wrap .i64 (1 + r2.1.1), fr, to, IntKind.wrap .i64 (1 + r3.1.1), 0, 0, [], IntKind.wrap .i64 (1 + r14.1.1), IntKind.wrap .i64 ((IntKind.wrap .i64 (1 + r14.1.1)) + r15.1.1), (⟨#[]⟩ : ByteArray)), ()), (r15.2.1, ()))
   else
    some (((IntKind.wrap .i64 (1 + r2.1.1), fr, to, IntKind.wrap .i64 (1 + r3.1.1), 0, 0, [], 0, 0, (⟨#[]⟩ : ByteArray)), ()), (r3.2.1, ()))
  else
  bif (IntKind.wrap .i64 (1 + r2.1.1)) == 9 then
   Option.bind (pleachmade_Picks_Num r3.2.1 9) fun (r16 : (Int × Unit) × (((List Int) × Int) × Unit)) =>
   Option.bind (pleachmade_Picks_Num r16.2.1 6) fun (r17 : (Int × Unit) × (((List Int) × Int) × Unit)) =>
   some (((IntKind.wrap .i64 (1 + r2.1.1), fr, to, IntKind.wrap .i64 (1 + r3.1.1), 0, 0, [], IntKind.wrap .i64 (1 + r16.1.1), IntKind.wrap .i64 ((IntKind.wrap .i64 (1 + r16.1.1)) + r17.1.1), (⟨#[]⟩ : ByteArray)), ()), (r17.2.1, ()))
  else
   some (((IntKind.wrap .i64 (1 + r2.1.1), fr, to, IntKind.wrap .i64 (1 + r3.1.1), 0, 0, [], 0, 0, (⟨#[]⟩ : ByteArray)), ()), (r3.2.1, ()))
theorem msg_split (s : List Int × Int) (to : Int) : pleachmade_Picks_Msg s to = Option.bind (pleachmade_Picks_Num s 8) fun (r1 : (Int × Unit) × (((List Int) × Int) × Unit)) =>
    bif (IntKind.wrap .i64 (1 + r1.1.1)) == to then msgRest to (IntKind.wrap .i64 (1 + (Int.tmod to 8))) r1.2.1 else msgRest to (IntKind.wrap .i64 (1 + r1.1.1)) r1.2.1 := rfl
theorem mayP_mk {m : MsgV} (h1 : inR 1 9 m.1 = true) (h2 : inR 1 8 m.2.1 = true) (h3 : inR 1 8 m.2.2.1 = true) (h4 : m.2.1 ≠ m.2.2.1) (h5 : inR 1 1073741824 m.2.2.2.1 = true) (h6 : fieldsP m = true) : mayP m = true := by
  unfold mayP; rw [h1, h2, h3, h5, h6, bne_iff_ne.2 h4]; rfl
theorem msgRest_ok (to fr : Int) (hto : 1 ≤ to ∧ to ≤ 8) (hfr : 1 ≤ fr ∧ fr ≤ 8) (hne : fr ≠ to) {s : List Int × Int} (h : PkOk s) :
    ∃ (m : MsgV) (s' : List Int × Int), msgRest to fr s = some ((m, ()), (s', ())) ∧ mayP m = true ∧ m.to = to ∧ smallM m ∧ PkOk s' := by
  unfold msgRest
  obtain ⟨k, s2, e2, hk, h2⟩ := pk_num h 9 (by omega)
  rw [e2]; dsimp only [Option.bind_some]
  obtain ⟨i, s3, e3, hi, h3⟩ := pk_num h2 3 (by omega)
  rw [e3]; dsimp only [Option.bind_some]
  rw [wi64 (x := 1 + (k : Int)) (by omega) (by omega), wi64 (x := 1 + (i : Int)) (by omega) (by omega)]
  have q1 : inR 1 9 (1 + (k : Int)) = true := inR_iff.2 (by omega)
  have q2 : inR 1 8 fr = true := inR_iff.2 hfr
  have q3 : inR 1 8 to = true := inR_iff.2 hto
  have q5 : inR 1 1073741824 (1 + (i : Int)) = true := inR_iff.2 (by omega)
  have small : ∀ (e a : Int) (p : List Int) (lo hi : Int) (tx : ByteArray), 0 ≤ e ∧ e < 128 → 0 ≤ a ∧ a < 128 → p.length ≤ 10 → (∀ x ∈ p, 1 ≤ x ∧ x ≤ 8) → 0 ≤ lo ∧ lo < 128 → 0 ≤ hi ∧ hi < 128 → smallM (1 + (k : Int), fr, to, 1 + (i : Int), e, a, p, lo, hi, tx) := by
    intro e a p lo hi tx a1 a2 a3 a4 a5 a6 x hx
    unfold numsM at hx
    simp only [List.mem_append, List.mem_cons, List.not_mem_nil, or_false, MsgV.kd, MsgV.fr, MsgV.to, MsgV.inc, MsgV.ep, MsgV.ag, MsgV.pa, MsgV.lo, MsgV.hi] at hx
    rcases hx with (hx | hx) | hx
    · omega
    · have := a4 x hx; omega
    · omega
  simp only [ceq]
  by_cases k2 : 1 + (k : Int) = 2
  · rw [if_pos k2]
    obtain ⟨a, s4, e4, ha, h4⟩ := pk_num h3 20 (by omega)
    rw [e4]; dsimp only [Option.bind_some]
    obtain ⟨b, s5, e5, hb, h5⟩ := pk_num h4 25 (by omega)
    rw [e5]; dsimp only [Option.bind_some]
    obtain ⟨p, s6, e6, hp, h6⟩ := pk_path h5
    rw [e6]; dsimp only [Option.bind_some]
    obtain ⟨c, s7, e7, hc, h7⟩ := pk_num h6 9 (by omega)
    rw [e7]; dsimp only [Option.bind_some]
    refine ⟨_, s7, rfl, mayP_mk q1 q2 q3 hne q5 ?_, rfl, small _ _ _ _ _ _ (by omega) (by omega) (mayPath_all hp).1 (mayPath_all hp).2 (by omega) (by omega), h7⟩
    unfold fieldsP
    rw [if_pos k2]
    simp only [Bool.and_eq_true, eqM_iff, inR_iff, MsgV.ep, MsgV.ag, MsgV.pa, MsgV.lo]
    exact ⟨⟨by omega, by omega⟩, hp, by omega, rfl⟩
  rw [if_neg k2]
  by_cases k5 : 1 + (k : Int) = 5
  · rw [if_pos k5]
    obtain ⟨a, s4, e4, ha, h4⟩ := pk_num h3 20 (by omega)
    rw [e4]; dsimp only [Option.bind_some]
    obtain ⟨b, s5, e5, hb, h5⟩ := pk_num h4 25 (by omega)
    rw [e5]; dsimp only [Option.bind_some]
    obtain ⟨p, s6, e6, hp, h6⟩ := pk_path h5
    rw [e6]; dsimp only [Option.bind_some]
    obtain ⟨c, s7, e7, hc, h7⟩ := pk_num h6 12 (by omega)
    rw [e7]; dsimp only [Option.bind_some]
    refine ⟨_, s7, rfl, mayP_mk q1 q2 q3 hne q5 ?_, rfl, small _ _ _ _ _ _ (by omega) (by omega) (mayPath_all hp).1 (mayPath_all hp).2 (by omega) (by omega), h7⟩
    unfold fieldsP
    rw [if_neg k2, if_pos k5]
    simp only [Bool.and_eq_true, eqM_iff, inR_iff, MsgV.ep, MsgV.ag, MsgV.pa, MsgV.hi]
    exact ⟨⟨by omega, by omega⟩, hp, by omega, rfl⟩
  rw [if_neg k5]
  by_cases k7 : 1 + (k : Int) = 7
  · rw [if_pos k7]
    obtain ⟨a, s4, e4, ha, h4⟩ := pk_num h3 12 (by omega)
    rw [e4]; dsimp only [Option.bind_some]
    obtain ⟨t, s5, e5, ht, h5⟩ := pk_text h4
    rw [e5]; dsimp only [Option.bind_some]
    rw [wi64 (x := 1 + (a : Int)) (by omega) (by omega)]
    refine ⟨_, s5, rfl, mayP_mk q1 q2 q3 hne q5 ?_, rfl, small _ _ _ _ _ _ (by omega) (by omega) (by simp) (by simp) (by omega) (by omega), h5⟩
    unfold fieldsP
    rw [if_neg k2, if_neg k5, if_pos k7]
    simp only [Bool.and_eq_true, eqM_iff, inR_iff, decide_eq_true_eq, MsgV.lo, MsgV.tx]
    refine ⟨?_, ?_, ?_⟩ <;> first | omega | exact decide_eq_true (by omega) | rfl | trivial
  rw [if_neg k7]
  by_cases k8 : 1 + (k : Int) = 8
  · rw [if_pos k8, if_pos k8]
    obtain ⟨a, s4, e4, ha, h4⟩ := pk_num h3 9 (by omega)
    rw [e4]; dsimp only [Option.bind_some]
    obtain ⟨b, s5, e5, hb, h5⟩ := pk_num h4 6 (by omega)
    rw [e5]; dsimp only [Option.bind_some]
    rw [wi64 (x := 1 + (a : Int)) (by omega) (by omega), wi64 (x := 1 + (a : Int) + (b : Int)) (by omega) (by omega)]
    refine ⟨_, s5, rfl, mayP_mk q1 q2 q3 hne q5 ?_, rfl, small _ _ _ _ _ _ (by omega) (by omega) (by simp) (by simp) (by omega) (by omega), h5⟩
    unfold fieldsP
    rw [if_neg k2, if_neg k5, if_neg k7, if_pos (Or.inl k8)]
    simp only [Bool.and_eq_true, eqM_iff, inR_iff, decide_eq_true_eq, MsgV.lo, MsgV.hi]
    refine ⟨?_, ⟨?_, ?_⟩, ?_⟩ <;> first | omega | exact decide_eq_true (by omega) | rfl | trivial
  rw [if_neg k8]
  by_cases k9 : 1 + (k : Int) = 9
  · rw [if_pos k9]
    obtain ⟨a, s4, e4, ha, h4⟩ := pk_num h3 9 (by omega)
    rw [e4]; dsimp only [Option.bind_some]
    obtain ⟨b, s5, e5, hb, h5⟩ := pk_num h4 6 (by omega)
    rw [e5]; dsimp only [Option.bind_some]
    rw [wi64 (x := 1 + (a : Int)) (by omega) (by omega), wi64 (x := 1 + (a : Int) + (b : Int)) (by omega) (by omega)]
    refine ⟨_, s5, rfl, mayP_mk q1 q2 q3 hne q5 ?_, rfl, small _ _ _ _ _ _ (by omega) (by omega) (by simp) (by simp) (by omega) (by omega), h5⟩
    unfold fieldsP
    rw [if_neg k2, if_neg k5, if_neg k7, if_pos (Or.inr k9)]
    simp only [Bool.and_eq_true, eqM_iff, inR_iff, decide_eq_true_eq, MsgV.lo, MsgV.hi]
    refine ⟨?_, ⟨?_, ?_⟩, ?_⟩ <;> first | omega | exact decide_eq_true (by omega) | rfl | trivial
  rw [if_neg k9]
  refine ⟨_, s3, rfl, mayP_mk q1 q2 q3 hne q5 ?_, rfl, small _ _ _ _ _ _ (by omega) (by omega) (by simp) (by simp) (by omega) (by omega), h3⟩
  unfold fieldsP
  rw [if_neg k2, if_neg k5, if_neg k7, if_neg (fun h => h.elim k8 k9)]
  exact eqM_iff.2 rfl
theorem pk_msg {s : List Int × Int} (h : PkOk s) (to : Int) (hto : 1 ≤ to ∧ to ≤ 8) :
    ∃ (m : MsgV) (s' : List Int × Int), pleachmade_Picks_Msg s to = some ((m, ()), (s', ())) ∧ mayP m = true ∧ m.to = to ∧ smallM m ∧ PkOk s' := by
  rw [msg_split]
  obtain ⟨r, s1, e, hr, h1⟩ := pk_num h 8 (by omega)
  rw [e]; dsimp only [Option.bind_some]
  have et : Int.tmod to 8 = to % 8 := Int.tmod_eq_emod_of_nonneg (by omega)
  rw [wi64 (x := 1 + (r : Int)) (by omega) (by omega), et, wi64 (x := 1 + to % 8) (by omega) (by omega), ceq]
  by_cases hc : 1 + (r : Int) = to
  · rw [if_pos hc]
    exact msgRest_ok to _ hto (by omega) (by omega) h1
  · rw [if_neg hc]
    exact msgRest_ok to _ hto (by omega) hc h1
end Go.PE
