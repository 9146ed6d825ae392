/-
  Plain lemmas on the functions.
  Conditions: none.
-/
import Derived.Test.YtemajkklbjdmjaaClusMovesPClusRef3
set_option linter.unusedVariables false
set_option linter.unusedSimpArgs false
set_option maxRecDepth 20000
namespace Go.PE
theorem wf_u8x3 {x : Int × Int × Int} (h : wfTy (.pair (.int .u8) (.pair (.int .u8) (.int .u8))) x) : (0 ≤ x.1 ∧ x.1 < 256) ∧ (0 ≤ x.2.1 ∧ x.2.1 < 256) ∧ (0 ≤ x.2.2 ∧ x.2.2 < 256) :=
  ⟨wf_u8.1 h.1, wf_u8.1 h.2.1, wf_u8.1 h.2.2⟩
theorem moves_loop (n : Nat) {d : List (List Int)} (h : OkD d) {k : Nat} (hk : 1 ≤ k) (hk2 : k ≤ 100) (l : List (Int × Int × Int)) (hl : ∀ x ∈ l, (0 ≤ x.1 ∧ x.1 < 256) ∧ (0 ≤ x.2.1 ∧ x.2.1 < 256) ∧ (0 ≤ x.2.2 ∧ x.2.2 < 256)) (h6 : l.length ≤ 1000) : ∀ (c m i : Nat) (cs : List Cl), i + c = l.length → c < m → Clus (eD d) cs →
    pleachlaw8_ClusMoves_L2 n m l d (k : Int) cs (i : Int) cs = some ((true, ()), ())
  | c, 0, i, cs, _, h, _ => by omega
  | 0, m + 1, i, cs, hc, hm, hcs => by
    show pleachlaw8_ClusMoves_B2 (pleachlaw8_ClusMoves_L2 n m) l d (k : Int) cs (i : Int) cs = _
    unfold pleachlaw8_ClusMoves_B2
    rw [cdn (by omega)]
  | c + 1, m + 1, i, cs, hc, hm, hcs => by
    show pleachlaw8_ClusMoves_B2 (pleachlaw8_ClusMoves_L2 n m) l d (k : Int) cs (i : Int) cs = _
    have hi : i < l.length := by omega
    obtain ⟨g1, g2, g3⟩ := hl _ (List.getElem_mem hi)
    unfold pleachlaw8_ClusMoves_B2
    have ih := fun cs hcs => moves_loop n h hk hk2 l hl h6 c m (i + 1) cs (by omega) (by omega) hcs
    rw [cdp (by omega), ct (by simp only [Bool.and_eq_true, decide_eq_true_eq]; omega), ct (by simp only [Bool.and_eq_true, decide_eq_true_eq]; omega), ct (by simp only [Bool.and_eq_true, decide_eq_true_eq]; omega), toNat_nat, getD_at hi, inext (by omega)]
    generalize l[i] = x at *
    rw [Int.tmod_eq_emod_of_nonneg g3.1, Int.tmod_eq_emod_of_nonneg g2.1, Int.tmod_eq_emod_of_nonneg g1.1]
    rw [wi64 (x := x.1 % 8) (by omega) (by omega), wi64 (x := 1 + x.1 % 8) (by omega) (by omega), wi64 (x := x.2.1 % 5) (by omega) (by omega), wi64 (x := x.2.1 % 5 - 1) (by omega) (by omega)]
    by_cases hj : x.2.2 % 3 > 0
    · have hJ := joinF_clus (D := eD d) hk (at_ := x.2.1 % 5 - 1) (id := 1 + x.1 % 8) (by omega) (by omega) hcs
      rw [cdp hj, clus_Join_is h hk hk2 cs hcs _ _ (by omega), ref_JoinClus_is h hk hk2 cs hcs _ _ (by omega)]
      dsimp only [Option.bind_some]
      rw [sameClusters _ _ hJ.1.small.1 hJ.1.small.1 hJ.1.small.2, decide_eq_true rfl]
      dsimp only [Option.bind_some]
      rw [nt, cond_false, ih _ hJ.1]
    · have hL := leaveF_clus (D := eD d) hk (id := 1 + x.1 % 8) hcs
      rw [cdn hj, clus_Leave_is h hk hk2 cs hcs, ref_LeaveClus_is h hk hk2 cs hcs]
      dsimp only [Option.bind_some]
      rw [sameClusters _ _ hL.1.small.1 hL.1.small.1 hL.1.small.2, decide_eq_true rfl]
      dsimp only [Option.bind_some]
      rw [nt, cond_false, ih _ hL.1]
theorem pleachlaw8_ClusMoves_true {N M : Nat} (picks : List Int) (l : List (Int × Int × Int)) (least : Int) (h : wfPs [.val (.sl N (.int .u8)), .val (.sl M (.pair (.int .u8) (.pair (.int .u8) (.int .u8)))), .val (.int .u8)] (picks, l, least, ())) : pleachlaw8_ClusMoves picks l least = some ((true, ()), ()) := by
  obtain ⟨hp, hm, hle, _⟩ := h
  have hb : isBytes picks := wf_sl8' hp
  have hl : ∀ x ∈ l, (0 ≤ x.1 ∧ x.1 < 256) ∧ (0 ≤ x.2.1 ∧ x.2.1 < 256) ∧ (0 ≤ x.2.2 ∧ x.2.2 < 256) := fun x hx => wf_u8x3 (hm.2 x hx)
  have hle : 0 ≤ least ∧ least < 256 := wf_u8.1 hle
  show pleachlaw8_ClusMoves_T (pleachlaw8_ClusMoves_L1 1099511627776 1099511627776) picks l least = _
  unfold pleachlaw8_ClusMoves_T
  rw [begun8]
  dsimp only [Option.bind_some, nt, nf, cond_false, cond_true]
  by_cases h1 : picks.length > 30
  · rw [cdp (by omega)]
  rw [cdn (by omega)]
  by_cases h2 : l.length > 20
  · rw [cdp (by omega)]
  rw [cdn (by omega)]
  unfold pleachmade_Made
  dsimp only [Option.bind_some]
  obtain ⟨d, s1, e1, hd, _⟩ := pk_dist (pk_made hb (by omega))
  obtain ⟨k, k1, k2, ek⟩ := least_is hle
  rw [e1, ek]; dsimp only [Option.bind_some]
  have key : ∀ n m : Nat, 100 < m → pleachlaw8_ClusMoves_L1 n m l (k : Int) 0 d [] [] = some ((true, ()), ()) := by
    intro n m hm
    obtain ⟨m, rfl⟩ : ∃ m', m = m' + 1 := ⟨m - 1, by omega⟩
    have e0 : pleachlaw8_ClusMoves_L1 n (m + 1) l (k : Int) 0 d [] [] = pleachlaw8_ClusMoves_L2 n (m + 1) l d (k : Int) [] ((0 : Nat) : Int) [] := rfl
    rw [e0]
    exact moves_loop n hd k1 (by omega) l hl (by omega) l.length (m + 1) 0 [] (by omega) (by omega) Clus.nil
  exact key _ _ (by omega)
end Go.PE
