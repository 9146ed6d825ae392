/-
  Plain lemmas on the functions.
  Conditions: none.
-/
import Derived.Test.YtemajkklbjdmjaaHierLeadsPHierBase
set_option linter.unusedVariables false
set_option linter.unusedSimpArgs false
set_option maxRecDepth 20000
namespace Go.PE
theorem leads_L5 (n m3 : Nat) (r3 : Int → Int → Int → Int → List (List Int) → List (List Cl) → Option ((Bool × Unit) × Unit)) {d : List (List Int)} {k : Nat} (hk : 1 ≤ k) {L : List (List Cl)} (hL : HOk d k L) (who tops id : Int) (hid : 1 ≤ id ∧ id ≤ 8)
    (a1 : Int) (a2 : Bool) (a3 a4 : Int) (a5 : Bool) (a6 a7 a8 a9 a10 : Int) (a11 : Bool) : ∀ (c m q : Nat) (at_ : Int), q + c = 9 → c < m → (at_ = 0 ∨ (isIn (lowF L) at_ ∧ q ≤ ldF L at_)) →
    pleachlaw9_HierLeads_L5 n m3 r3 m who tops id at_ (q : Int) a1 a2 a3 a4 a5 a6 a7 a8 a9 a10 a11 (k : Int) d L = r3 who tops (IntKind.wrap .i64 (id + 1)) (k : Int) d L
  | c, 0, q, at_, _, h, _ => by omega
  | 0, m + 1, q, at_, hc, hm, ha => by
    have h0 : at_ = 0 := by
      rcases ha with h | ⟨h1, h2⟩
      · exact h
      · exfalso
        have hn : L ≠ [] := fun e => by rw [e] at h1; exact isIn_nil h1
        obtain ⟨_, _, _, hl, _⟩ := hL.tower hk hn
        have := ldF_le L at_
        omega
    show pleachlaw9_HierLeads_B5 (pleachlaw9_HierLeads_L5 n m3 r3 m) r3 who tops id at_ (q : Int) a1 a2 a3 a4 a5 a6 a7 a8 a9 a10 a11 (k : Int) d L = _
    unfold pleachlaw9_HierLeads_B5
    rw [cnen h0, cnen h0]
  | c + 1, m + 1, q, at_, hc, hm, ha => by
    show pleachlaw9_HierLeads_B5 (pleachlaw9_HierLeads_L5 n m3 r3 m) r3 who tops id at_ (q : Int) a1 a2 a3 a4 a5 a6 a7 a8 a9 a10 a11 (k : Int) d L = _
    unfold pleachlaw9_HierLeads_B5
    by_cases h0 : at_ = 0
    · rw [cnen h0, cnen h0]
    · obtain ⟨h1, h2⟩ := ha.resolve_left h0
      have hn : L ≠ [] := fun e => by rw [e] at h1; exact isIn_nil h1
      obtain ⟨r, e, t, hl, _⟩ := hL.tower hk hn
      rw [cnep h0, cdp (by omega), hier_Ask_is _ _ _ (hL.small hk)]
      dsimp only [Option.bind_some]
      rw [inext (by omega)]
      refine leads_L5 n m3 r3 hk hL who tops id hid a1 a2 a3 a4 a5 a6 a7 a8 a9 a10 a11 c m (q + 1) _ (by omega) (by omega) ?_
      have := tower_ask hk (r := r) (cs := lowF L) (by rw [← e]; exact t) at_ h1
      rw [← e] at this
      rcases this with g | ⟨g1, g2, g3, g4⟩
      · exact .inl g
      · exact .inr ⟨g3, by omega⟩
theorem leads_L3 (n : Nat) (hn : 100 < n) {d : List (List Int)} {k : Nat} (hk : 1 ≤ k) {L : List (List Cl)} (hL : HOk d k L) (hne : L ≠ []) (who : Int) (hw : 0 ≤ who ∧ who < 256) (hin : ∀ x, isIn (lowF L) x ↔ 1 ≤ x ∧ x ≤ 8 ∧ wb who (x - 1).toNat = true) (t0 : Int) (ht0 : isIn (lowF L) t0) (htop : ∀ x, isIn (lowF L) x → (askF L x = 0 ↔ x = t0)) : ∀ (c m : Nat) (id : Int), id + c = 9 → 1 ≤ id → c < m →
    pleachlaw9_HierLeads_L3 n m who (if t0 < id then 1 else 0) id (k : Int) d L = some ((true, ()), ())
  | c, 0, id, _, _, h => by omega
  | 0, m + 1, id, hc, h1, hm => by
    show pleachlaw9_HierLeads_B3 (pleachlaw9_HierLeads_L3 n m) (pleachlaw9_HierLeads_L4 n m (pleachlaw9_HierLeads_L3 n m) n) (pleachlaw9_HierLeads_L5 n m (pleachlaw9_HierLeads_L3 n m) n) who (if t0 < id then 1 else 0) id (k : Int) d L = _
    have hr := isIn_range hL.clus ht0
    have hw0 : who ≠ 0 := fun e => by
      have := (wb_none hw).2 e (t0 - 1).toNat (by omega)
      rw [((hin t0).1 ht0).2.2] at this; cases this
    unfold pleachlaw9_HierLeads_B3
    rw [cdn (by omega), if_pos (by omega), wi64 (x := who) (by omega) (by omega)]
    have : ((1 : Int) == (if 1 < who then 1 else who)) = true := by
      by_cases g : 1 < who
      · rw [if_pos g]; rfl
      · rw [if_neg g]
        have : who = 1 := by omega
        rw [this]; rfl
    rw [this]
  | c + 1, m + 1, id, hc, h1, hm => by
    show pleachlaw9_HierLeads_B3 (pleachlaw9_HierLeads_L3 n m) (pleachlaw9_HierLeads_L4 n m (pleachlaw9_HierLeads_L3 n m) n) (pleachlaw9_HierLeads_L5 n m (pleachlaw9_HierLeads_L3 n m) n) who (if t0 < id then 1 else 0) id (k : Int) d L = _
    have ih := leads_L3 n hn hk hL hne who hw hin t0 ht0 htop c m (id + 1) (by omega) (by omega) (by omega)
    obtain ⟨r, e, t, hl, _⟩ := hL.tower hk hne
    unfold pleachlaw9_HierLeads_B3
    rw [cdp (by omega), wi64 (x := id - 1) (by omega) (by omega), cdp (by omega), hier_Ask_is _ _ _ (hL.small hk)]
    dsimp only [Option.bind_some]
    rw [wb_def]
    have keep : ¬ id = t0 → (if t0 < id + 1 then (1 : Int) else 0) = (if t0 < id then 1 else 0) := fun h => by
      by_cases g : t0 < id
      · rw [if_pos g, if_pos (by omega)]
      · rw [if_neg g, if_neg (by omega)]
    cases hb : wb who (id - 1).toNat with
    | false =>
      have hno : ¬ isIn (lowF L) id := fun hx => by have := ((hin id).1 hx).2.2; rw [hb] at this; cases this
      have ha : askF L id = 0 := by rw [e]; exact askF_out hno
      rw [nf, cond_true, cnen ha, cond_true, kinc (by omega) (by omega)]
      rw [keep (fun h => hno (h ▸ ht0))] at ih
      exact ih
    | true =>
      have hyes : isIn (lowF L) id := (hin id).2 ⟨by omega, by omega, hb⟩
      rw [nt, cond_false, cond_false]
      by_cases ha : askF L id = 0
      · have hid : id = t0 := (htop id hyes).1 ha
        rw [ceqp ha, if_neg (by omega), kinc (k := 0) (by omega) (by omega), kinc (k := id) (by omega) (by omega)]
        rw [if_pos (by omega)] at ih
        exact ih
      · have hid : id ≠ t0 := fun h => ha ((htop id hyes).2 h)
        have hask := tower_ask hk (r := r) (cs := lowF L) (by rw [← e]; exact t) id hyes
        rw [← e] at hask
        obtain ⟨g1, g2, g3, g4⟩ := hask.resolve_left ha
        have hrr := (hin _).1 g3
        rw [ceqn ha, cdn (by omega), cdn (by omega), ceqn g2, wi64 (x := askF L id - 1) (by omega) (by omega), cdp (by omega), wb_ne, hrr.2.2, nt, cond_false]
        have z0 : (0 : Int) = ((0 : Nat) : Int) := rfl
        rw [keep hid] at ih
        have h5 := leads_L5 n m (pleachlaw9_HierLeads_L3 n m) hk hL who (if t0 < id then 1 else 0) id (by omega) (askF L id) (decide (askF L id > 8)) (askF L id) id (askF L id == id) who (askF L id) (askF L id - 1) (Int.fdiv who (2 ^ (min (askF L id - 1).toNat 8))) (IntKind.wrap .u8 ((BitVec.ofInt 8 (Int.fdiv who (2 ^ (min (askF L id - 1).toNat 8))) &&& BitVec.ofInt 8 1).toNat)) false 9 n 0 id (by omega) (by omega) (.inr ⟨hyes, by omega⟩)
        rw [kinc (by omega) (by omega)] at h5
        rw [← z0] at h5
        rw [h5]
        exact ih
theorem leads_L6 (n : Nat) (hn : 100 < n) (d : List (List Int)) (k : Nat) (who : Int) (hw : who = 0) : ∀ (c m : Nat) (id : Int), id + c = 9 → 1 ≤ id → c < m →
    pleachlaw9_HierLeads_L6 n m who 0 id (k : Int) d [] = some ((true, ()), ())
  | c, 0, id, _, _, h => by omega
  | 0, m + 1, id, hc, h1, hm => by
    show pleachlaw9_HierLeads_B6 (pleachlaw9_HierLeads_L6 n m) (pleachlaw9_HierLeads_L7 n m (pleachlaw9_HierLeads_L6 n m) n) (pleachlaw9_HierLeads_L8 n m (pleachlaw9_HierLeads_L6 n m) n) who 0 id (k : Int) d [] = _
    unfold pleachlaw9_HierLeads_B6
    rw [cdn (by omega), hw]
    rfl
  | c + 1, m + 1, id, hc, h1, hm => by
    show pleachlaw9_HierLeads_B6 (pleachlaw9_HierLeads_L6 n m) (pleachlaw9_HierLeads_L7 n m (pleachlaw9_HierLeads_L6 n m) n) (pleachlaw9_HierLeads_L8 n m (pleachlaw9_HierLeads_L6 n m) n) who 0 id (k : Int) d [] = _
    have ih := leads_L6 n hn d k who hw c m (id + 1) (by omega) (by omega) (by omega)
    unfold pleachlaw9_HierLeads_B6
    rw [cdp (by omega), wi64 (x := id - 1) (by omega) (by omega), cdp (by omega), hier_Ask_is _ _ _ ⟨by simp, fun cs hc => by cases hc⟩]
    dsimp only [Option.bind_some]
    have hb : wb who (id - 1).toNat = false := (wb_none (by omega)).2 hw _ (by omega)
    have ha : askF [] id = 0 := rfl
    rw [wb_def, hb, nf, cond_true, cnen ha, cond_true, kinc (by omega) (by omega), ih]
theorem leads_end (n : Nat) (hn : 100 < n) {d : List (List Int)} {k : Nat} (hk : 1 ≤ k) {L : List (List Cl)} (hL : HOk d k L) (hne : L ≠ []) (who : Int) (hw : 0 ≤ who ∧ who < 256) (hin : ∀ x, isIn (lowF L) x ↔ inB who 8 x) : pleachlaw9_HierLeads_L3 n n who 0 1 (k : Int) d L = some ((true, ()), ()) := by
  obtain ⟨r, e, t, hl, _⟩ := hL.tower hk hne
  obtain ⟨t0, h1, h2⟩ := tower_top hk (r := r) (cs := lowF L) (by rw [← e]; exact t)
  rw [← e] at h2
  have hr := isIn_range hL.clus h1
  have := leads_L3 n hn hk hL hne who hw hin t0 h1 h2 8 n 1 (by omega) (by omega) (by omega)
  rw [if_neg (by omega)] at this
  exact this
theorem leads_L2 (n : Nat) (hn : 100 < n) {d : List (List Int)} (hd : OkD d) {k : Nat} (hk : 1 ≤ k) (hk2 : k ≤ 100) (who : Int) (hw : 0 ≤ who ∧ who < 256) : ∀ (c m i : Nat) (L : List (List Cl)), i + c = 8 → c < m → HOk d k L → L ≠ [] → (∀ x, isIn (lowF L) x ↔ inB who i x) →
    pleachlaw9_HierLeads_L2 n m who (i : Int) (k : Int) d L = some ((true, ()), ())
  | c, 0, i, L, _, h, _, _, _ => by omega
  | 0, m + 1, i, L, hc, hm, hL, hne, hin => by
    show pleachlaw9_HierLeads_B2 (pleachlaw9_HierLeads_L2 n m) (pleachlaw9_HierLeads_L3 n n) who (i : Int) (k : Int) d L = _
    have : i = 8 := by omega
    subst this
    unfold pleachlaw9_HierLeads_B2
    rw [cdn (by omega)]
    exact leads_end n hn hk hL hne who hw hin
  | c + 1, m + 1, i, L, hc, hm, hL, hne, hin => by
    show pleachlaw9_HierLeads_B2 (pleachlaw9_HierLeads_L2 n m) (pleachlaw9_HierLeads_L3 n n) who (i : Int) (k : Int) d L = _
    unfold pleachlaw9_HierLeads_B2
    rw [cdp (by omega), cdp (by omega), toNat_nat, wb_def, inext (by omega)]
    cases hb : wb who i with
    | false =>
      rw [cond_false]
      exact leads_L2 n hn hd hk hk2 who hw c m (i + 1) L (by omega) (by omega) hL hne (fun x => by rw [hin x, inB_next, hb]; simp)
    | true =>
      have hid : (1 : Int) ≤ ((i + 1 : Nat) : Int) ∧ ((i + 1 : Nat) : Int) ≤ 8 := by omega
      have hj := joinH_in hk hL hid
      rw [cond_true, hier_Join_is hd hk hk2 L hL]
      refine leads_L2 n hn hd hk hk2 who hw c m (i + 1) _ (by omega) (by omega) (joinH_ok hk hL _) (fun e => ?_) (fun x => ?_)
      · have := (hj.1 ((i + 1 : Nat) : Int)).2 (.inr rfl)
        have e : joinH d k _ ((i + 1 : Nat) : Int) = [] := e
        rw [e] at this; exact isIn_nil this
      · show isIn (lowF (joinH d k L ((i + 1 : Nat) : Int))) x ↔ _
        rw [hj.1 x, hin x, inB_next, hb]; simp
theorem leads_L1 (n : Nat) (hn : 100 < n) {d : List (List Int)} (hd : OkD d) {k : Nat} (hk : 1 ≤ k) (hk2 : k ≤ 100) (who : Int) (hw : 0 ≤ who ∧ who < 256) : ∀ (c m i : Nat), i + c = 8 → c + 10 < m → (∀ x, ¬ inB who i x) →
    pleachlaw9_HierLeads_L1 n m who (i : Int) (k : Int) d [] = some ((true, ()), ())
  | c, 0, i, _, h, _ => by omega
  | 0, m + 1, i, hc, hm, hno => by
    show pleachlaw9_HierLeads_B1 (pleachlaw9_HierLeads_L2 n m) (pleachlaw9_HierLeads_L1 n m) (pleachlaw9_HierLeads_L6 n n) who (i : Int) (k : Int) d [] = _
    have : i = 8 := by omega
    subst this
    have h0 : who = 0 := (wb_none hw).1 (fun i hi => by
      cases hb : wb who i with
      | false => rfl
      | true => exact absurd ⟨by omega, by omega, by have : ((((i : Nat) : Int) + 1) - 1).toNat = i := by omega
                                                     rw [this]; exact hb⟩ (hno ((i : Int) + 1)))
    unfold pleachlaw9_HierLeads_B1
    rw [cdn (by omega)]
    exact leads_L6 n hn d k who h0 8 n 1 (by omega) (by omega) (by omega)
  | c + 1, m + 1, i, hc, hm, hno => by
    show pleachlaw9_HierLeads_B1 (pleachlaw9_HierLeads_L2 n m) (pleachlaw9_HierLeads_L1 n m) (pleachlaw9_HierLeads_L6 n n) who (i : Int) (k : Int) d [] = _
    unfold pleachlaw9_HierLeads_B1
    rw [cdp (by omega), cdp (by omega), toNat_nat, wb_def, inext (by omega)]
    cases hb : wb who i with
    | false =>
      rw [cond_false]
      exact leads_L1 n hn hd hk hk2 who hw c m (i + 1) (by omega) (by omega) (fun x => by rw [inB_next, hb]; simp [hno x])
    | true =>
      have hid : (1 : Int) ≤ ((i + 1 : Nat) : Int) ∧ ((i + 1 : Nat) : Int) ≤ 8 := by omega
      have hL : HOk d k [] := HOk.nil
      have hj := joinH_in hk hL hid
      rw [cond_true, hier_Join_is hd hk hk2 [] hL]
      refine leads_L2 n hn hd hk hk2 who hw c m (i + 1) _ (by omega) (by omega) (joinH_ok hk hL _) (fun e => ?_) (fun x => ?_)
      · have := (hj.1 ((i + 1 : Nat) : Int)).2 (.inr rfl)
        have e : joinH d k _ ((i + 1 : Nat) : Int) = [] := e
        rw [e] at this; exact isIn_nil this
      · have h0 : ¬ isIn (lowF []) x := isIn_nil
        show isIn (lowF (joinH d k [] ((i + 1 : Nat) : Int))) x ↔ _
        rw [hj.1 x, inB_next, hb]; simp [hno x, h0]
theorem pleachlaw9_HierLeads_true {N : Nat} (picks : List Int) (who least : Int) (h : wfPs [.val (.sl N (.int .u8)), .val (.int .u8), .val (.int .u8)] (picks, who, least, ())) : pleachlaw9_HierLeads picks who least = some ((true, ()), ()) := by
  obtain ⟨hp, hw, hle, _⟩ := h
  have hb : isBytes picks := wf_sl8' hp
  have hw : 0 ≤ who ∧ who < 256 := wf_u8.1 hw
  have hle : 0 ≤ least ∧ least < 256 := wf_u8.1 hle
  show pleachlaw9_HierLeads_T (pleachlaw9_HierLeads_L1 1099511627776 1099511627776) picks who least = _
  unfold pleachlaw9_HierLeads_T
  rw [begun9]
  dsimp only [Option.bind_some, nt, nf, cond_false, cond_true]
  by_cases h1 : picks.length > 30
  · rw [cdp (by omega)]
  rw [cdn (by omega)]
  unfold pleachmade_Made
  dsimp only [Option.bind_some]
  obtain ⟨d, s1, e1, hd, _⟩ := pk_dist (pk_made hb (by omega))
  obtain ⟨k, k1, k2, ek⟩ := least_is hle
  rw [e1, ek]; dsimp only [Option.bind_some]
  rw [hier_New_is hd k1 k2]
  dsimp only [Option.bind_some]
  rw [nt, cond_false]
  exact leads_L1 1099511627776 (by omega) hd k1 (by omega) who hw 8 1099511627776 0 (by omega) (by omega) (fun x hx => by unfold inB at hx; omega)
end Go.PE
