/-
  Plain lemmas on the functions.
  Conditions: none.
-/
import Derived.Test.YtemajkklbjdmjaaHierSizesPHierBase
set_option linter.unusedVariables false
set_option linter.unusedSimpArgs false
set_option maxRecDepth 20000
namespace Go.PE
theorem tower_sizes {D : Int → Int → Int} {k : Nat} (hk : 1 ≤ k) : ∀ {L : List (List Cl)}, Tower D k L → (∀ i (h1 : i + 1 < L.length), total L[i + 1] = L[i].length) ∧ (∀ i (h1 : i < L.length), i + 1 = L.length → L[i].length = 1)
  | [], h => absurd h (fun h => h)
  | [c], h => ⟨fun i h1 => by simp at h1, fun i h1 h2 => by
      have : i = 0 := by simp at h2; exact h2
      subst this; exact h.2⟩
  | c :: e :: r, h => by
    have ih := tower_sizes hk h.2.2.2
    refine ⟨fun i h1 => ?_, fun i h1 h2 => ?_⟩
    · cases i with
      | zero =>
        show total e = c.length
        rw [h.2.2.1, groupF_total hk (ris_leadF c), h.1.leads.2.1]
      | succ i => exact ih.1 i (by simpa using h1)
    · cases i with
      | zero => simp at h2
      | succ i => exact ih.2 i (by simpa using h1) (by simpa using h2)
theorem sizes_L5 (n : Nat) (hn : 100 < n) {d : List (List Int)} {k : Nat} (hk : 1 ≤ k) {L : List (List Cl)} (hL : HOk d k L) (hne : L ≠ []) (L4 : Int → Int → Int → List (List Int) → List (List Cl) → Option ((Bool × Unit) × Unit)) (m4 : Nat) (q : Nat) (hq : q < L.length) : ∀ (c m i : Nat) (s : Nat), i + c = L[q].length → c < m → s + total (L[q].drop i) = total L[q] →
    pleachlaw9_HierSizes_L5 n m4 L4 m ((total (lowF L) : Nat) : Int) (q : Int) (s : Int) (i : Int) (k : Int) d L = L4 ((total (lowF L) : Nat) : Int) ((q + 1 : Nat) : Int) (k : Int) d L
  | c, 0, i, s, _, h, _ => by omega
  | 0, m + 1, i, s, hc, hm, hs => by
    show pleachlaw9_HierSizes_B5 (pleachlaw9_HierSizes_L5 n m4 L4 m) L4 ((total (lowF L) : Nat) : Int) (q : Int) (s : Int) (i : Int) (k : Int) d L = _
    obtain ⟨r, e, t, hl, _⟩ := hL.tower hk hne
    have hts := tower_sizes hk t
    have ht0 : total (L[q].drop i) = 0 := by rw [List.drop_eq_nil_of_le (by omega)]; rfl
    have h8 := (tower_all t _ (List.getElem_mem hq)).len_le
    unfold pleachlaw9_HierSizes_B5
    rw [ct (by simp only [Bool.and_eq_true, decide_eq_true_eq]; omega), toNat_nat, getD_at hq, cdn (by omega), inext (by omega), wi64 (x := (L.length : Int) - 1) (by omega) (by omega)]
    by_cases h0 : q = 0
    · subst h0
      have e0 : L[0] = lowF L := by unfold lowF; rw [getD_at hq]
      rw [ceqp (by omega), cnen (by rw [← e0]; omega), cdn (by omega)]
      by_cases hlast : L.length = 1
      · have := hts.2 0 hq (by omega)
        rw [ceqp (by omega), ct (by simp only [Bool.and_eq_true, decide_eq_true_eq]; omega), cnen (by omega)]
      · rw [ceqn (by omega)]
    · have ew : IntKind.wrap .i64 ((q : Int) - 1) = ((q - 1 : Nat) : Int) := by rw [wi64 (by omega) (by omega)]; omega
      obtain ⟨p, rfl⟩ : ∃ p, q = p + 1 := ⟨q - 1, by omega⟩
      have hp := hts.1 p hq
      have e1 : p + 1 - 1 = p := by omega
      rw [ceqn (by omega), cdp (by omega), ew, e1, ct (by simp only [Bool.and_eq_true, decide_eq_true_eq]; omega), toNat_nat, getD_at (show p < L.length by omega), cnen (by omega)]
      by_cases hlast : L.length = p + 2
      · have := hts.2 (p + 1) hq (by omega)
        rw [ceqp (by omega), ct (by simp only [Bool.and_eq_true, decide_eq_true_eq]; omega), cnen (by omega)]
      · rw [ceqn (by omega)]
  | c + 1, m + 1, i, s, hc, hm, hs => by
    show pleachlaw9_HierSizes_B5 (pleachlaw9_HierSizes_L5 n m4 L4 m) L4 ((total (lowF L) : Nat) : Int) (q : Int) (s : Int) (i : Int) (k : Int) d L = _
    obtain ⟨r, e, t, hl, _⟩ := hL.tower hk hne
    have hcq := tower_all t _ (List.getElem_mem hq)
    have h8 := hcq.len_le
    have ht8 := hcq.total_le
    have hi : i < L[q].length := by omega
    have hci := hcq.ris _ (List.getElem_mem hi)
    have hci8 := hci.1.le8
    have e0 : List.getD L[q] i ([], 0) = L[q][i] := getD_at hi _
    rw [List.drop_eq_getElem_cons hi, total_cons] at hs
    unfold pleachlaw9_HierSizes_B5
    rw [ct (by simp only [Bool.and_eq_true, decide_eq_true_eq]; omega), toNat_nat, getD_at hq, toNat_nat, e0, cdp (by omega), ct (by simp only [Bool.and_eq_true, decide_eq_true_eq]; omega), ct (by simp only [Bool.and_eq_true, decide_eq_true_eq]; omega), has_eq _ _ (by omega), decide_eq_true (Clus.midIn hci)]
    dsimp only [Option.bind_some]
    have ew : IntKind.wrap .i64 ((s : Int) + (L[q][i].1.length : Int)) = ((s + L[q][i].1.length : Nat) : Int) := by rw [wi64 (by omega) (by omega)]; omega
    rw [nt, cond_false, ew, inext (by omega)]
    exact sizes_L5 n hn hk hL hne L4 m4 q hq c m (i + 1) _ (by omega) (by omega) (by omega)
theorem sizes_L4 (n : Nat) (hn : 100 < n) {d : List (List Int)} {k : Nat} (hk : 1 ≤ k) {L : List (List Cl)} (hL : HOk d k L) : ∀ (c m q : Nat), q + c = L.length → c < m →
    pleachlaw9_HierSizes_L4 n m ((total (lowF L) : Nat) : Int) (q : Int) (k : Int) d L = some ((true, ()), ())
  | c, 0, q, _, h => by omega
  | 0, m + 1, q, hc, hm => by
    show pleachlaw9_HierSizes_B4 (pleachlaw9_HierSizes_L5 n m (pleachlaw9_HierSizes_L4 n m) n) ((total (lowF L) : Nat) : Int) (q : Int) (k : Int) d L = _
    unfold pleachlaw9_HierSizes_B4
    rw [cdn (by omega)]
  | c + 1, m + 1, q, hc, hm => by
    show pleachlaw9_HierSizes_B4 (pleachlaw9_HierSizes_L5 n m (pleachlaw9_HierSizes_L4 n m) n) ((total (lowF L) : Nat) : Int) (q : Int) (k : Int) d L = _
    have hq : q < L.length := by omega
    have hne : L ≠ [] := fun e => by rw [e] at hq; simp at hq
    obtain ⟨r, e, t, hl, _⟩ := hL.tower hk hne
    have h8 := (tower_all t _ (List.getElem_mem hq)).len_le
    unfold pleachlaw9_HierSizes_B4
    have z0 : (0 : Int) = ((0 : Nat) : Int) := rfl
    rw [cdp (by omega), z0, sizes_L5 n hn hk hL hne (pleachlaw9_HierSizes_L4 n m) m q hq L[q].length n 0 0 (by omega) (by omega) (by rw [List.drop_zero]; omega)]
    exact sizes_L4 n hn hk hL c m (q + 1) (by omega) (by omega)
theorem total_zero {D : Int → Int → Int} {cs : List Cl} (h : Clus D cs) : total cs = 0 ↔ cs = [] := by
  constructor
  · intro ht
    cases cs with
    | nil => rfl
    | cons c r =>
      have := List.length_pos_iff.2 (h.ris c (List.mem_cons_self ..)).2.1
      rw [total_cons] at ht; omega
  · intro e; rw [e]; rfl
theorem sizes_L3 (n : Nat) (hn : 100 < n) {d : List (List Int)} (hd : OkD d) {k : Nat} (hk : 1 ≤ k) (hk2 : k ≤ 100) (who left : Int) : ∀ (c m i : Nat) (L : List (List Cl)), i + c = 8 → c < m → HOk d k L → (∀ x : Int, (i : Int) < x → (isIn (lowF L) x ↔ inB who 8 x)) →
    pleachlaw9_HierSizes_L3 n m who left ((total (lowF L) : Nat) : Int) (i : Int) (k : Int) d L = some ((true, ()), ())
  | c, 0, i, L, _, h, _, _ => by omega
  | 0, m + 1, i, L, hc, hm, hL, hin => by
    show pleachlaw9_HierSizes_B3 (pleachlaw9_HierSizes_L3 n m) (pleachlaw9_HierSizes_L4 n n) who left ((total (lowF L) : Nat) : Int) (i : Int) (k : Int) d L = _
    have hll : L.length ≤ 8 := by
      by_cases hne : L = []
      · rw [hne]; simp
      · obtain ⟨_, _, _, hl, _⟩ := hL.tower hk hne; exact hl
    have hz : (total (lowF L) = 0) ↔ L.length = 0 := by
      rw [total_zero hL.clus, List.length_eq_zero_iff]
      constructor
      · intro h; by_cases hne : L = []
        · exact hne
        · obtain ⟨_, _, _, _, hx⟩ := hL.tower hk hne; exact absurd h hx
      · intro h; rw [h]; rfl
    have hcond : ((((total (lowF L) : Nat) : Int) == 0) == ((L.length : Int) == 0)) = true := by
      by_cases g : L.length = 0
      · rw [hz.2 g, g]; rfl
      · have g2 : total (lowF L) ≠ 0 := fun h => g (hz.1 h)
        have e1 : (((total (lowF L) : Nat) : Int) == 0) = false := beq_eq_false_iff_ne.2 (by omega)
        have e2 : (((L.length : Nat) : Int) == 0) = false := beq_eq_false_iff_ne.2 (by omega)
        rw [e1, e2]; rfl
    unfold pleachlaw9_HierSizes_B3
    rw [cdn (by omega), hcond, nt, cond_false]
    exact sizes_L4 n hn hk hL L.length n 0 (by omega) (by omega)
  | c + 1, m + 1, i, L, hc, hm, hL, hin => by
    show pleachlaw9_HierSizes_B3 (pleachlaw9_HierSizes_L3 n m) (pleachlaw9_HierSizes_L4 n n) who left ((total (lowF L) : Nat) : Int) (i : Int) (k : Int) d L = _
    have same := sizes_L3 n hn hd hk hk2 who left c m (i + 1) L (by omega) (by omega) hL (fun x hx => hin x (by omega))
    unfold pleachlaw9_HierSizes_B3
    rw [cdp (by omega), cdp (by omega), toNat_nat, wb_def, wb_def, inext (by omega)]
    cases hb : wb who i with
    | false => rw [cond_false]; exact same
    | true =>
      rw [cond_true, cdp (by omega)]
      cases hb2 : wb left i with
      | false => rw [cond_false]; exact same
      | true =>
        have hid : isIn (lowF L) ((i + 1 : Nat) : Int) := (hin _ (by omega)).2 ⟨by omega, by omega, by
          have : ((((i + 1 : Nat) : Int) - 1)).toNat = i := by omega
          rw [this]; exact hb⟩
        have hlv := leaveH_in hk hL (id := ((i + 1 : Nat) : Int))
        have hh := homeF_pos.2 hid
        have ht := hlv.2
        rw [if_pos hh] at ht
        have hok := leaveH_ok hk hL ((i + 1 : Nat) : Int)
        rw [cond_true, hier_Leave_is hd hk hk2 L hL]
        dsimp only [Option.bind_some]
        have ew : IntKind.wrap .i64 (((total (lowF L) : Nat) : Int) - 1) = ((total (lowF (leaveH d k L ((i + 1 : Nat) : Int))) : Nat) : Int) := by
          have := hL.clus.total_le
          rw [wi64 (by omega) (by omega)]; omega
        rw [ew]
        refine sizes_L3 n hn hd hk hk2 who left c m (i + 1) _ (by omega) (by omega) hok (fun x hx => ?_)
        rw [hlv.1 x, hin x (by omega)]
        exact ⟨fun h => h.1, fun h => ⟨h, by omega⟩⟩
theorem sizes_L2 (n : Nat) (hn : 100 < n) {d : List (List Int)} (hd : OkD d) {k : Nat} (hk : 1 ≤ k) (hk2 : k ≤ 100) (who left : Int) : ∀ (c m i : Nat) (L : List (List Cl)), i + c = 8 → c < m → HOk d k L → (∀ x, isIn (lowF L) x ↔ inB who i x) →
    pleachlaw9_HierSizes_L2 n m who left ((total (lowF L) : Nat) : Int) (i : Int) (k : Int) d L = some ((true, ()), ())
  | c, 0, i, L, _, h, _, _ => by omega
  | 0, m + 1, i, L, hc, hm, hL, hin => by
    show pleachlaw9_HierSizes_B2 (pleachlaw9_HierSizes_L2 n m) (pleachlaw9_HierSizes_L3 n n) who left ((total (lowF L) : Nat) : Int) (i : Int) (k : Int) d L = _
    have : i = 8 := by omega
    subst this
    unfold pleachlaw9_HierSizes_B2
    rw [cdn (by omega)]
    exact sizes_L3 n hn hd hk hk2 who left 8 n 0 L (by omega) (by omega) hL (fun x _ => hin x)
  | c + 1, m + 1, i, L, hc, hm, hL, hin => by
    show pleachlaw9_HierSizes_B2 (pleachlaw9_HierSizes_L2 n m) (pleachlaw9_HierSizes_L3 n n) who left ((total (lowF L) : Nat) : Int) (i : Int) (k : Int) d L = _
    unfold pleachlaw9_HierSizes_B2
    rw [cdp (by omega), cdp (by omega), toNat_nat, wb_def, inext (by omega)]
    cases hb : wb who i with
    | false =>
      rw [cond_false]
      exact sizes_L2 n hn hd hk hk2 who left c m (i + 1) L (by omega) (by omega) hL (fun x => by rw [hin x, inB_next, hb]; simp)
    | true =>
      have hid : (1 : Int) ≤ ((i + 1 : Nat) : Int) ∧ ((i + 1 : Nat) : Int) ≤ 8 := by omega
      have hj := joinH_in hk hL hid
      have hno : ¬ 0 ≤ homeF (lowF L) ((i + 1 : Nat) : Int) := fun h => by
        have := (hin _).1 (homeF_pos.1 h)
        unfold inB at this; omega
      have ht := hj.2
      rw [if_neg hno] at ht
      have hok := joinH_ok hk hL ((i + 1 : Nat) : Int)
      have h8 := hok.clus.total_le
      rw [cond_true, hier_Join_is hd hk hk2 L hL]
      dsimp only [Option.bind_some]
      have ew : IntKind.wrap .i64 (((total (lowF L) : Nat) : Int) + 1) = ((total (lowF (joinH d k L ((i + 1 : Nat) : Int))) : Nat) : Int) := by
        rw [wi64 (by omega) (by omega)]; omega
      rw [ew]
      refine sizes_L2 n hn hd hk hk2 who left c m (i + 1) _ (by omega) (by omega) hok (fun x => ?_)
      rw [hj.1 x, hin x, inB_next, hb]; simp
theorem sizes_L6 (n : Nat) (hn : 100 < n) (d : List (List Int)) (k : Nat) (who left : Int) (hw : ∀ i : Nat, i < 8 → wb who i = false) : ∀ (c m i : Nat), i + c = 8 → c < m →
    pleachlaw9_HierSizes_L6 n m who left 0 (i : Int) (k : Int) d [] = some ((true, ()), ())
  | c, 0, i, _, h => by omega
  | 0, m + 1, i, hc, hm => by
    show pleachlaw9_HierSizes_B6 (pleachlaw9_HierSizes_L3 n m) (pleachlaw9_HierSizes_L6 n m) (pleachlaw9_HierSizes_L7 n n) who left 0 (i : Int) (k : Int) d [] = _
    unfold pleachlaw9_HierSizes_B6
    have hcond : (((0 : Int) == 0) == ((([] : List (List Cl)).length : Int) == 0)) = true := rfl
    rw [cdn (by omega), hcond, nt, cond_false]
    obtain ⟨n, rfl⟩ : ∃ n', n = n' + 1 := ⟨n - 1, by omega⟩
    show pleachlaw9_HierSizes_B7 (pleachlaw9_HierSizes_L8 (n + 1) n (pleachlaw9_HierSizes_L7 (n + 1) n) (n + 1)) 0 0 (k : Int) d [] = _
    unfold pleachlaw9_HierSizes_B7
    rw [cdn (by simp)]
  | c + 1, m + 1, i, hc, hm => by
    show pleachlaw9_HierSizes_B6 (pleachlaw9_HierSizes_L3 n m) (pleachlaw9_HierSizes_L6 n m) (pleachlaw9_HierSizes_L7 n n) who left 0 (i : Int) (k : Int) d [] = _
    have ih := sizes_L6 n hn d k who left hw c m (i + 1) (by omega) (by omega)
    unfold pleachlaw9_HierSizes_B6
    rw [cdp (by omega), cdp (by omega), toNat_nat, wb_def, hw i (by omega), cond_false, inext (by omega), ih]
theorem sizes_L1 (n : Nat) (hn : 100 < n) {d : List (List Int)} (hd : OkD d) {k : Nat} (hk : 1 ≤ k) (hk2 : k ≤ 100) (who left : Int) : ∀ (c m i : Nat), i + c = 8 → c + 10 < m → (∀ x, ¬ inB who i x) →
    pleachlaw9_HierSizes_L1 n m who left 0 (i : Int) (k : Int) d [] = some ((true, ()), ())
  | c, 0, i, _, h, _ => by omega
  | 0, m + 1, i, hc, hm, hno => by
    show pleachlaw9_HierSizes_B1 (pleachlaw9_HierSizes_L2 n m) (pleachlaw9_HierSizes_L1 n m) (pleachlaw9_HierSizes_L6 n n) who left 0 (i : Int) (k : Int) d [] = _
    have : i = 8 := by omega
    subst this
    have h0 : ∀ i : Nat, i < 8 → wb who i = false := fun i hi => by
      cases hb : wb who i with
      | false => rfl
      | true =>
        have hx : inB who 8 ((i : Int) + 1) := ⟨by omega, by omega, by
          have : ((((i : Nat) : Int) + 1) - 1).toNat = i := by omega
          rw [this]; exact hb⟩
        exact absurd hx (hno _)
    unfold pleachlaw9_HierSizes_B1
    rw [cdn (by omega)]
    exact sizes_L6 n hn d k who left h0 8 n 0 (by omega) (by omega)
  | c + 1, m + 1, i, hc, hm, hno => by
    show pleachlaw9_HierSizes_B1 (pleachlaw9_HierSizes_L2 n m) (pleachlaw9_HierSizes_L1 n m) (pleachlaw9_HierSizes_L6 n n) who left 0 (i : Int) (k : Int) d [] = _
    unfold pleachlaw9_HierSizes_B1
    rw [cdp (by omega), cdp (by omega), toNat_nat, wb_def, inext (by omega)]
    cases hb : wb who i with
    | false =>
      rw [cond_false]
      exact sizes_L1 n hn hd hk hk2 who left c m (i + 1) (by omega) (by omega) (fun x => by rw [inB_next, hb]; simp [hno x])
    | true =>
      have hid : (1 : Int) ≤ ((i + 1 : Nat) : Int) ∧ ((i + 1 : Nat) : Int) ≤ 8 := by omega
      have hL : HOk d k [] := HOk.nil
      have hj := joinH_in hk hL hid
      have h0 : ∀ x, ¬ isIn (lowF []) x := fun x => isIn_nil
      have hno2 : ¬ 0 ≤ homeF (lowF []) ((i + 1 : Nat) : Int) := fun h => h0 _ (homeF_pos.1 h)
      have ht := hj.2
      rw [if_neg hno2] at ht
      have ht0 : total (lowF []) = 0 := rfl
      have hok := joinH_ok hk hL ((i + 1 : Nat) : Int)
      rw [cond_true, hier_Join_is hd hk hk2 [] hL]
      dsimp only [Option.bind_some]
      have ew : IntKind.wrap .i64 ((0 : Int) + 1) = ((total (lowF (joinH d k [] ((i + 1 : Nat) : Int))) : Nat) : Int) := by
        rw [wi64 (by omega) (by omega)]; omega
      rw [ew]
      refine sizes_L2 n hn hd hk hk2 who left c m (i + 1) _ (by omega) (by omega) hok (fun x => ?_)
      rw [hj.1 x, inB_next, hb]; simp [hno x, h0 x]
theorem pleachlaw9_HierSizes_true {N : Nat} (picks : List Int) (who left least : Int) (h : wfPs [.val (.sl N (.int .u8)), .val (.int .u8), .val (.int .u8), .val (.int .u8)] (picks, who, left, least, ())) : pleachlaw9_HierSizes picks who left least = some ((true, ()), ()) := by
  obtain ⟨hp, hw, hlf, hle, _⟩ := h
  have hb : isBytes picks := wf_sl8' hp
  have hle : 0 ≤ least ∧ least < 256 := wf_u8.1 hle
  show pleachlaw9_HierSizes_T (pleachlaw9_HierSizes_L1 1099511627776 1099511627776) picks who left least = _
  unfold pleachlaw9_HierSizes_T
  rw [begun9]
  dsimp only [Option.bind_some, nt, nf, cond_false, cond_true]
  by_cases h1 : picks.length > 30
  · rw [cdp (by omega)]
  rw [cdn (by omega)]
  unfold pleachmade_Made
  dsimp only [Option.bind_some]
  obtain ⟨d, s1, e1, hd, _⟩ := pk_dist (pk_made hb (by omega))
  obtain ⟨k, k1, k2, ek⟩ := least_is hle
  rw [e1, ek]; dsimp only [Option.bind_some]
  rw [hier_New_is hd k1 k2]
  dsimp only [Option.bind_some]
  rw [nt, cond_false]
  exact sizes_L1 1099511627776 (by omega) hd k1 (by omega) who left 8 1099511627776 0 (by omega) (by omega) (fun x hx => by unfold inB at hx; omega)
end Go.PE
