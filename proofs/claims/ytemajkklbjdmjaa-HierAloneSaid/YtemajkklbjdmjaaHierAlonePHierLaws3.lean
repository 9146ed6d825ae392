/-
  Plain lemmas on the functions.
  Conditions: none.
-/
import Derived.Test.YtemajkklbjdmjaaHierAlonePHierFun2
set_option linter.unusedVariables false
set_option linter.unusedSimpArgs false
set_option maxRecDepth 20000
namespace Go.PE
theorem midF_single {D : Int → Int → Int} {x : Int} (hx : 1 ≤ x) : midF D [x] = x := by
  have := midF_mem (D := D) (l := [x]) (fun y hy => by rw [List.mem_singleton] at hy; omega) (by simp)
  exact List.mem_singleton.1 this
theorem clus_single {D : Int → Int → Int} {cs : List Cl} (h : Clus D cs) {x : Int} (hx : 1 ≤ x ∧ x ≤ 8) (hin : ∀ z, isIn cs z ↔ z = x) : cs = [ofF D [x]] := by
  have one : ∀ c ∈ cs, c = ofF D [x] := fun c hc => by
    have h0 := h.ris c hc
    have e : c.1 = [x] := by
      refine h0.1.ext (Ris.single hx.1 hx.2) (fun z => ?_)
      rw [List.mem_singleton]
      constructor
      · exact fun hz => (hin z).1 ⟨c, hc, hz⟩
      · intro e
        subst e
        obtain ⟨y, hy⟩ := List.exists_mem_of_ne_nil _ h0.2.1
        have := (hin y).1 ⟨c, hc, hy⟩
        subst this; exact hy
    obtain ⟨m, l⟩ := c
    have e : m = [x] := e
    subst e
    have : l = midF D [x] := h0.2.2
    rw [this]; rfl
  match cs, h, hin, one with
  | [], _, hin, _ => exact absurd ((hin x).2 rfl) isIn_nil
  | [c], _, _, one => rw [one c (List.mem_singleton.2 rfl)]
  | c :: e :: r, h, _, one =>
    exfalso
    have h1 := one c (by simp)
    have h2 := one e (by simp)
    have := (List.pairwise_cons.1 h.apart).1 e (by simp) x (by rw [h1]; exact List.mem_singleton.2 rfl)
    exact this (by rw [h2]; exact List.mem_singleton.2 rfl)
theorem above_single {D : Int → Int → Int} {k : Nat} (c : Cl) : aboveF D k 9 [c] = [[c]] := by
  unfold aboveF
  rw [if_neg (by simp), if_pos (by rfl)]
theorem HOk.single {d : List (List Int)} {k : Nat} {L : List (List Cl)} (h : HOk d k L) {x : Int} (hx : 1 ≤ x ∧ x ≤ 8) (hin : ∀ z, isIn (lowF L) z ↔ z = x) : L = [[ofF (eD d) [x]]] := by
  have := clus_single h.clus hx hin
  rw [h.lev, this, above_single]
theorem HOk.empty {d : List (List Int)} {k : Nat} {L : List (List Cl)} (h : HOk d k L) (hin : ∀ z, ¬ isIn (lowF L) z) : L = [] := by
  have : lowF L = [] := by
    cases hl : lowF L with
    | nil => rfl
    | cons c r =>
      have h0 := h.clus.ris c (by rw [hl]; exact List.mem_cons_self ..)
      obtain ⟨y, hy⟩ := List.exists_mem_of_ne_nil _ h0.2.1
      exact absurd ⟨c, by rw [hl]; exact List.mem_cons_self .., hy⟩ (hin y)
  rw [h.lev, this, above_nil]
theorem pleachlaw9_HierAlone_true {N : Nat} (picks : List Int) (a b least : Int) (h : wfPs [.val (.sl N (.int .u8)), .val (.int .u8), .val (.int .u8), .val (.int .u8)] (picks, a, b, least, ())) : pleachlaw9_HierAlone picks a b least = some ((true, ()), ()) := by
  obtain ⟨hp, ha, hb2, hle, _⟩ := h
  have hb : isBytes picks := wf_sl8' hp
  have ha : 0 ≤ a ∧ a < 256 := wf_u8.1 ha
  have hb2 : 0 ≤ b ∧ b < 256 := wf_u8.1 hb2
  have hle : 0 ≤ least ∧ least < 256 := wf_u8.1 hle
  unfold pleachlaw9_HierAlone
  rw [begun9]
  dsimp only [Option.bind_some, nt, nf, cond_false, cond_true]
  by_cases h1 : picks.length > 30
  · rw [cdp (by omega)]
  rw [cdn (by omega)]
  unfold pleachmade_Made
  dsimp only [Option.bind_some]
  obtain ⟨d, s1, e1, hd, _⟩ := pk_dist (pk_made hb (by omega))
  obtain ⟨k, k1, k2, ek⟩ := least_is hle
  rw [e1, ek]; dsimp only [Option.bind_some]
  rw [Int.tmod_eq_emod_of_nonneg ha.1, Int.tmod_eq_emod_of_nonneg hb2.1, wi64 (x := a % 8) (by omega) (by omega), wi64 (x := b % 8) (by omega) (by omega), wi64 (x := 1 + a % 8) (by omega) (by omega), wi64 (x := 1 + b % 8) (by omega) (by omega)]
  have hx : 1 ≤ 1 + a % 8 ∧ 1 + a % 8 ≤ 8 := by omega
  have hy : 1 ≤ 1 + b % 8 ∧ 1 + b % 8 ≤ 8 := by omega
  generalize 1 + a % 8 = x at *
  generalize 1 + b % 8 = y at *
  have o0 : HOk d k [] := HOk.nil
  have i0 : ∀ z, ¬ isIn (lowF []) z := fun z => isIn_nil
  have o1 := joinH_ok k1 o0 x
  have i1 := (joinH_in k1 o0 hx).1
  have j1 : ∀ z, isIn (lowF (joinH d k [] x)) z ↔ z = x := fun z => by rw [i1 z]; simp [i0 z]
  have o2 := leaveH_ok k1 o1 x
  have i2 := (leaveH_in k1 o1 (id := x)).1
  have j2 : ∀ z, ¬ isIn (lowF (leaveH d k (joinH d k [] x) x)) z := fun z hz => by
    have := (i2 z).1 hz
    exact this.2 ((j1 z).1 this.1)
  have e2 := o2.empty j2
  have e3 := o1.single hx j1
  rw [hier_New_is hd k1 k2]
  dsimp only [Option.bind_some]
  rw [hier_Join_is hd k1 (by omega) [] o0]
  dsimp only [Option.bind_some]
  rw [hier_Leave_is hd k1 (by omega) _ o1]
  dsimp only [Option.bind_some]
  rw [e2]
  have oy := joinH_ok k1 o1 y
  have iy := (joinH_in k1 o1 hy).1
  have ob := leaveH_ok k1 oy y
  have ib := (leaveH_in k1 oy (id := y)).1
  have hJ1 := hier_Join_is hd k1 (by omega) _ o1 y
  have hL1 := hier_Leave_is hd k1 (by omega) _ oy y
  have hM1 := hier_May_is hd k1 k2 _ o1
  have hM0 := hier_May_is hd k1 k2 [] o0
  have smy := oy.small k1
  have smb := ob.small k1
  rw [hM1, hM0, hJ1]
  dsimp only [Option.bind_some]
  rw [hL1]
  dsimp only [Option.bind_some]
  rw [hier_Ask_is _ _ _ (o1.small k1)]
  have hask : askF (joinH d k [] x) x = 0 := by
    rw [e3]
    have hm : (ofF (eD d) [x]).2 = x := (midF_single (D := eD d) hx.1 : midF (eD d) [x] = x)
    have hi : idxF [ofF (eD d) [x]] x = 0 := by
      unfold idxF; rw [List.findIdx_cons, decide_eq_true (show x ∈ (ofF (eD d) [x]).1 from List.mem_singleton.2 rfl)]; rfl
    unfold askF
    rw [hi, if_pos (by simp)]
    show (if (ofF (eD d) [x]).2 ≠ x then (ofF (eD d) [x]).2 else askF [] x) = 0
    rw [hm, if_neg (fun h => h rfl)]; rfl
  rw [nt, cond_false, hask]
  have l1 : ((joinH d k [] x).length : Int) = 1 := by rw [e3]; rfl
  have g0 : List.getD (joinH d k [] x) 0 [] = [ofF (eD d) [x]] := by rw [e3]; rfl
  have g1 : List.getD (List.getD (joinH d k [] x) 0 []) 0 ([], 0) = ofF (eD d) [x] := by rw [g0]; rfl
  have hm : (ofF (eD d) [x]).2 = x := (midF_single (D := eD d) hx.1 : midF (eD d) [x] = x)
  dsimp only [Option.bind_some]
  rw [cnen l1, cdp (by omega), g0, cnen (by rfl), cdp (by omega), cdp (by simp)]
  have g2 : List.getD [ofF (eD d) [x]] 0 ([], 0) = ofF (eD d) [x] := rfl
  rw [g2, hm, cnen rfl, cnen (by rfl), cnen rfl, cond_false, cond_false]
  by_cases hxy : x = y
  · rw [ceqp hxy]
    have : joinH d k (joinH d k [] x) y = joinH d k [] x := if_pos (.inr (.inr (homeF_pos.2 ((j1 y).2 hxy.symm))))
    rw [this, sameHier_refl hd _ _ (o1.small k1)]; rfl
  · rw [ceqn hxy]
    have eb : leaveH d k (joinH d k (joinH d k [] x) y) y = joinH d k [] x := by
      rw [ob.single hx (fun z => by
        rw [ib z, iy z, j1 z]
        constructor
        · rintro ⟨h | h, h2⟩
          · exact h
          · exact absurd h h2
        · intro h; exact ⟨.inl h, fun h2 => hxy (h.symm.trans h2)⟩), e3]
    rw [eb, sameHier_refl hd _ _ (o1.small k1)]
    dsimp only [Option.bind_some]
    rw [cond_true, hier_Ask_is _ _ _ smy, hier_Ask_is _ _ _ smy]
    dsimp only [Option.bind_some]
    have hne : joinH d k (joinH d k [] x) y ≠ [] := fun e => by
      have := (iy y).2 (.inr rfl)
      rw [e] at this; exact isIn_nil this
    obtain ⟨r, e, t, _⟩ := oy.tower k1 hne
    obtain ⟨t0, ht0, htop⟩ := tower_top k1 (r := r) (cs := lowF (joinH d k (joinH d k [] x) y)) (by rw [← e]; exact t)
    rw [← e] at htop
    have hxin : isIn (lowF (joinH d k (joinH d k [] x) y)) x := (iy x).2 (.inl ((j1 x).2 rfl))
    have hyin : isIn (lowF (joinH d k (joinH d k [] x) y)) y := (iy y).2 (.inr rfl)
    have htx := htop x hxin
    have hty := htop y hyin
    have ht : t0 = x ∨ t0 = y := ((iy t0).1 ht0).imp (fun h => (j1 t0).1 h) (fun h => h)
    congr 3
    rcases ht with rfl | rfl
    · have a1 : askF (joinH d k (joinH d k [] t0) y) t0 = 0 := htx.2 rfl
      have a2 : askF (joinH d k (joinH d k [] t0) y) y ≠ 0 := fun h => hxy (hty.1 h).symm
      rw [a1, beq_eq_false_iff_ne.2 a2]; rfl
    · have a1 : askF (joinH d k (joinH d k [] x) t0) t0 = 0 := hty.2 rfl
      have a2 : askF (joinH d k (joinH d k [] x) t0) x ≠ 0 := fun h => hxy (htx.1 h)
      rw [a1, beq_eq_false_iff_ne.2 a2]; rfl
end Go.PE
