/-
  Plain lemmas on the functions.
  Conditions: none.
-/
import Derived.Test.YtemajkklbjdmjaaClusNearPClusRef3
set_option linter.unusedVariables false
set_option linter.unusedSimpArgs false
set_option maxRecDepth 20000
namespace Go.PE
theorem leaveF_out {D : Int → Int → Int} {k : Nat} {cs : List Cl} {id : Int} (h : homeF cs id < 0) : leaveF D k cs id = cs := by
  have : ¬ idxF cs id < cs.length := fun hx => by have := homeF_pos.2 (idxF_lt.1 hx); omega
  unfold leaveF; dsimp only
  rw [if_pos this]
theorem leaveF_alone {D : Int → Int → Int} {k : Nat} {cs : List Cl} {id : Int} (hi : idxF cs id < cs.length) (hl : (cs[idxF cs id].1.filter (fun x => x != id)) = []) : leaveF D k cs id = cs.eraseIdx (idxF cs id) := by
  unfold leaveF; dsimp only
  rw [if_neg (fun hn => hn hi), getD_lt hi, if_pos hl]
theorem leaveF_less {D : Int → Int → Int} {k : Nat} {cs : List Cl} {id : Int} (hi : idxF cs id < cs.length) (hl : (cs[idxF cs id].1.filter (fun x => x != id)) ≠ []) (hk : k ≤ (cs[idxF cs id].1.filter (fun x => x != id)).length ∨ cs.length < 2) :
    leaveF D k cs id = cs.set (idxF cs id) (ofF D (cs[idxF cs id].1.filter (fun x => x != id))) := by
  unfold leaveF; dsimp only
  rw [if_neg (fun hn => hn hi), getD_lt hi, if_neg hl, if_pos (by rw [List.length_set]; exact hk)]
theorem leaveF_merge {D : Int → Int → Int} {k : Nat} {cs : List Cl} {id : Int} (h : Clus D cs) (hi : idxF cs id < cs.length) (hl0 : (cs[idxF cs id].1.filter (fun x => x != id)) ≠ []) (hk : ¬ k ≤ (cs[idxF cs id].1.filter (fun x => x != id)).length) (h2 : 2 ≤ cs.length) :
    ∃ (j : Nat) (hj : j < cs.length), j ≠ idxF cs id ∧ homeF cs (nearF D (midF D (cs[idxF cs id].1.filter (fun x => x != id))) ((cs.eraseIdx (idxF cs id)).map (·.2))) = (j : Int) ∧
      ∃ (X : List Cl) (i2 : Nat) (hi2 : i2 < X.length), leaveF D k cs id = cutF D k X i2 ∧ Clus D X ∧ X[i2] = ofF D (rising (cs[idxF cs id].1.filter (fun x => x != id) ++ cs[j].1)) ∧
        (rising (cs[idxF cs id].1.filter (fun x => x != id) ++ cs[j].1)).length = (cs[idxF cs id].1.filter (fun x => x != id)).length + cs[j].1.length ∧ X.length + 1 = cs.length ∧
        ∀ q (hq : q < cs.length), q ≠ idxF cs id → q ≠ j → cs[q] ∈ X.eraseIdx i2 := by
  generalize hlv : leaveF D k cs id = Z
  unfold leaveF at hlv
  dsimp only at hlv
  have hid := idxF_mem hi
  rw [if_neg (fun hn => hn hi), getD_lt hi, if_neg hl0] at hlv
  generalize idxF cs id = i at *
  obtain ⟨g1, g2, g3⟩ := h.at hi
  have hrl := g1.1.filter (fun x => x != id)
  have hsub : ∀ x ∈ cs[i].1.filter (fun x => x != id), x ∈ cs[i].1 := fun x hx => (List.mem_filter.1 hx).1
  generalize cs[i].1.filter (fun x => x != id) = l at *
  rw [List.length_set, if_neg (by omega)] at hlv
  have hC1 : Clus D (cs.set i (ofF D l)) := (Clus.cons.2 ⟨ofF_ok hrl hl0, fun x hx hy => g2 x (hsub x hx) hy, g3⟩).perm (perm_set hi (ofF D l)).symm
  have hl1 : (cs.set i (ofF D l)).length = cs.length := by simp
  have he1 : (cs.set i (ofF D l)).eraseIdx i = cs.eraseIdx i := List.eraseIdx_set_eq
  have hat : ∀ hq, (cs.set i (ofF D l))[i]'hq = ofF D l := fun hq => List.getElem_set_self ..
  have hoth : ∀ q (hq : q < cs.length) hq', q ≠ i → (cs.set i (ofF D l))[q]'hq' = cs[q] := fun q hq hq' hqi => by rw [List.getElem_set_ne (by omega)]
  have hi1 : i < (cs.set i (ofF D l)).length := by omega
  generalize cs.set i (ofF D l) = cs1 at *
  have hml := midF_mem (D := D) (l := l) (fun x hx => by have := hrl.range hx; omega) hl0
  have hnear : nearF D (midF D l) ((cs1.eraseIdx i).map (·.2)) ∈ (cs1.eraseIdx i).map (·.2) := by
    have hpos : 0 < (cs1.eraseIdx i).length := by rw [List.length_eraseIdx, if_pos hi1]; omega
    obtain ⟨c, hcm⟩ := List.exists_mem_of_length_pos hpos
    refine (nearF_mem (fun x hx => ?_) (List.mem_map_of_mem hcm) (fun e => ?_)).1
    · obtain ⟨c, hcm, rfl⟩ := List.mem_map.1 hx
      have := (hC1.ris c (List.mem_of_mem_eraseIdx hcm)).1.range (Clus.midIn (hC1.ris c (List.mem_of_mem_eraseIdx hcm))); omega
    · have h2 := Clus.midIn (hC1.ris c (List.mem_of_mem_eraseIdx hcm))
      rw [e] at h2
      rw [he1] at hcm
      exact g2 _ (hsub _ hml) ⟨c, hcm, h2⟩
  rw [he1] at hnear hlv
  generalize nearF D (midF D l) ((cs.eraseIdx i).map (·.2)) = near at *
  obtain ⟨c0, hc0m, rfl⟩ := List.mem_map.1 hnear
  obtain ⟨j, hj, hje⟩ := List.getElem_of_mem (List.mem_of_mem_eraseIdx hc0m)
  have hm0 : c0.2 ∈ c0.1 := Clus.midIn (h.ris c0 (List.mem_of_mem_eraseIdx hc0m))
  have hidx : idxF cs c0.2 = j := h.idx hj (by rw [hje]; exact hm0)
  have hji : j ≠ i := fun e => by
    subst e
    exact g2 c0.2 (by rw [hje]; exact hm0) ⟨c0, hc0m, hm0⟩
  have hj1 : j < cs1.length := by omega
  have hje1 : cs1[j] = cs[j] := hoth j hj hj1 hji
  have hidx1 : idxF cs1 c0.2 = j := hC1.idx hj1 (by rw [hje1, hje]; exact hm0)
  rw [hidx1, getD_lt hj1, hje1] at hlv
  have hse : ∀ x, (cs1.set i x).eraseIdx j = (cs1.eraseIdx j).set (if j < i then i - 1 else i) x := fun x => by
    by_cases g : j < i
    · rw [if_pos g, List.eraseIdx_set_lt g]
    · rw [if_neg g, List.eraseIdx_set_gt (by omega)]
  have hi2 : (if j < i then i - 1 else i) < (cs1.eraseIdx j).length := by
    rw [List.length_eraseIdx, if_pos hj1]; split <;> omega
  have hat2 : (cs1.eraseIdx j)[if j < i then i - 1 else i] = ofF D l := by
    rw [List.getElem_eraseIdx]
    by_cases g : j < i
    · simp only [if_pos g]
      rw [dif_neg (by omega)]
      have : i - 1 + 1 = i := by omega
      simp only [this]; exact hat _
    · simp only [if_neg g]
      rw [dif_pos (by omega)]; exact hat _
  obtain ⟨o1, o2, o3⟩ := hC1.at hj1
  rw [hse] at hlv
  rw [hje1] at o1 o2
  have hp1 := perm_erase hj1
  generalize (if j < i then i - 1 else i) = i2 at *
  obtain ⟨q1, q2, q3⟩ := o3.at hi2
  rw [hat2] at q1 q2
  have hp2 := perm_erase hi2
  rw [hat2] at hp2
  have hother : ∀ x, x ∈ cs[j].1 → x ∉ l ∧ ¬ isIn ((cs1.eraseIdx j).eraseIdx i2) x := fun x hx => by
    have := o2 x hx
    rw [isIn_at hi2, hat2] at this
    exact ⟨fun h => this (.inl h), fun h => this (.inr h)⟩
  have hall : ∀ x, x ∈ rising (l ++ cs[j].1) ↔ x ∈ l ∨ x ∈ cs[j].1 := fun x => by
    rw [mem_rising, List.mem_append]
    exact ⟨fun h => h.2, fun h => ⟨h.elim (fun h => hrl.range h) (fun h => o1.1.range h), h⟩⟩
  have hlall : (rising (l ++ cs[j].1)).length = l.length + cs[j].1.length := by
    have hp : (rising (l ++ cs[j].1)).Perm (l ++ cs[j].1) := by
      rw [List.perm_ext_iff_of_nodup (ris_rising _).nodup (List.nodup_append.2 ⟨hrl.nodup, o1.1.nodup, fun x hx y hy e => (hother y hy).1 (e ▸ hx)⟩)]
      intro x; rw [hall x, List.mem_append]
    rw [hp.length_eq, List.length_append]
  have hne : rising (l ++ cs[j].1) ≠ [] := fun e => by
    rw [e] at hlall; have := List.length_pos_iff.2 hl0; simp at hlall; omega
  have hC2 : Clus D ((cs1.eraseIdx j).set i2 (ofF D (rising (l ++ cs[j].1)))) := (Clus.cons.2 ⟨ofF_ok (ris_rising _) hne, fun x hx hy => by
      rcases (hall x).1 hx with hx | hx
      · exact q2 x hx hy
      · exact (hother x hx).2 hy, q3⟩).perm (perm_set hi2 _).symm
  refine ⟨j, hj, hji, by unfold homeF; rw [hidx, if_pos hj], _, i2, by rw [List.length_set]; exact hi2, hlv.symm, hC2, List.getElem_set_self .., hlall, ?_, fun q hq hqi hqj => ?_⟩
  · rw [List.length_set, List.length_eraseIdx, if_pos hj1]; omega
  · rw [List.eraseIdx_set_eq]
    have hm : cs[q] ∈ cs1 := by rw [← hoth q hq (by omega) hqi]; exact List.getElem_mem _
    have hm := hp1.mem_iff.1 hm
    rcases List.mem_cons.1 hm with e | hm
    · exfalso
      have := Clus.midIn (h.ris _ (List.getElem_mem hq))
      rw [e, hje1] at this
      have h1 := Clus.midIn (h.ris _ (List.getElem_mem hq))
      rw [hje1] at e
      rw [e] at h1
      exact hqj (h.two hq hj (by rw [e]; exact h1) h1)
    · have hm := hp2.mem_iff.1 hm
      rcases List.mem_cons.1 hm with e | hm
      · exfalso
        have h1 : midF D l ∈ cs[q].1 := by rw [e]; exact hml
        exact hqi (h.two hq hi h1 (hsub _ hml))
      · exact hm
theorem less1_loop (n : Nat) (l : List Int) (id : Int) (h6 : l.length ≤ 1000000) : ∀ (k m i : Nat) (acc : List Int), i + k = l.length → k < m → acc.length ≤ i →
    pleachlaw8_less1_L1 n m l id (i : Int) acc = some ((acc ++ (l.drop i).filter (fun x => x != id), ()), ())
  | k, 0, i, acc, _, h, _ => by omega
  | 0, m + 1, i, acc, hk, hm, ha => by
    show pleachlaw8_less1_B1 (pleachlaw8_less1_L1 n m) l id (i : Int) acc = _
    unfold pleachlaw8_less1_B1
    rw [cdn (by omega), List.drop_eq_nil_of_le (by omega)]; simp
  | k + 1, m + 1, i, acc, hk, hm, ha => by
    show pleachlaw8_less1_B1 (pleachlaw8_less1_L1 n m) l id (i : Int) acc = _
    have hi : i < l.length := by omega
    unfold pleachlaw8_less1_B1
    rw [cdp (by omega), cand, cdp (by omega), cdp (by omega), toNat_nat, getD_at hi, inext (by omega), List.drop_eq_getElem_cons hi]
    generalize l[i] = x
    by_cases h : x = id
    · rw [cnen h, less1_loop n l id h6 k m (i + 1) acc (by omega) (by omega) (by omega), List.filter_cons_of_neg (by simp [h])]
    · rw [cnep h, cand, cdp (by omega), cdp (by omega), cbp (by omega), less1_loop n l id h6 k m (i + 1) _ (by omega) (by omega) (by rw [List.length_append, List.length_singleton]; omega), List.filter_cons_of_pos (by simp [h]), List.append_assoc]; rfl
theorem less1_is (l : List Int) (id : Int) (h6 : l.length ≤ 1000000) : pleachlaw8_less1 l id = some ((l.filter (fun x => x != id), ()), ()) := by
  have := less1_loop 1099511627776 l id h6 l.length 1099511627776 0 [] (by omega) (by omega) (by simp)
  rw [List.drop_zero, List.nil_append] at this
  exact this
theorem near_L2 (n : Nat) (l : List Int) (hl : l.length ≤ 8) (cs x : List Cl) (home : Int) (hc : cs.length ≤ 8) (hx : x.length = cs.length) (hxs : ∀ c ∈ x, c.1.length ≤ 8) (ht : total x + (if 0 ≤ home then 1 else 0) = l.length) : ∀ (c m i : Nat) (s : Nat), i + c = x.length → c < m → s + total (x.drop i) = total x →
    pleachlaw8_ClusNear_L2 n m l cs home x (s : Int) (i : Int) = some ((true, ()), ())
  | c, 0, i, s, _, h, _ => by omega
  | 0, m + 1, i, s, hc', hm, hs => by
    show pleachlaw8_ClusNear_B2 (pleachlaw8_ClusNear_L2 n m) l cs home x (s : Int) (i : Int) = _
    have : total (x.drop i) = 0 := by rw [List.drop_eq_nil_of_le (by omega)]; rfl
    unfold pleachlaw8_ClusNear_B2
    rw [cdn (by omega)]
    by_cases hh : 0 ≤ home
    · rw [if_pos hh] at ht
      rw [cdp (by omega), ceqp (by omega), wi64 (by omega) (by omega)]
      have : ((s : Int) == (l.length : Int) - 1) = true := by simp; omega
      rw [this]
    · rw [if_neg hh] at ht
      rw [cdn (by omega), ceqp (by omega), wi64 (by omega) (by omega)]
      have : ((s : Int) == (l.length : Int) - 0) = true := by simp; omega
      rw [this]
  | c + 1, m + 1, i, s, hc', hm, hs => by
    show pleachlaw8_ClusNear_B2 (pleachlaw8_ClusNear_L2 n m) l cs home x (s : Int) (i : Int) = _
    have hi : i < x.length := by omega
    have e0 : List.getD x i ([], 0) = x[i] := getD_at hi _
    have hxi := hxs _ (List.getElem_mem hi)
    rw [List.drop_eq_getElem_cons hi, total_cons] at hs
    have htx : total x ≤ 8 := by split at ht <;> omega
    unfold pleachlaw8_ClusNear_B2
    rw [cdp (by omega), cand, cdp (by omega), cdp (by omega), toNat_nat, e0, inext (by omega)]
    have ew : IntKind.wrap .i64 ((s : Int) + (x[i].1.length : Int)) = ((s + x[i].1.length : Nat) : Int) := by rw [wi64 (by omega) (by omega)]; omega
    rw [ew]
    exact near_L2 n l hl cs x home hc hx hxs ht c m (i + 1) _ (by omega) (by omega) (by omega)
theorem near_L4 (n : Nat) {d : List (List Int)} {k : Nat} (hk : 1 ≤ k) (hk2 : k ≤ 100) (cs x : List Cl) (hcs : Clus (eD d) cs) (hx : Clus (eD d) x) (home other : Nat) (hh : home < cs.length) (ho : other < cs.length) (m0 : Int)
    (hkeep : ∀ q (hq : q < cs.length), q ≠ home → q ≠ other → cs[q] ∈ x)
    (hfin : ∀ m, pleachlaw8_ClusNear_B4 (pleachlaw8_ClusNear_L4 n m) (k : Int) cs (home : Int) x m0 (other : Int) (cs.length : Int) = some ((true, ()), ())) : ∀ (c m i : Nat), i + c = cs.length → c < m →
    pleachlaw8_ClusNear_L4 n m (k : Int) cs (home : Int) x m0 (other : Int) (i : Int) = some ((true, ()), ())
  | c, 0, i, _, h => by omega
  | 0, m + 1, i, hc, hm => by
    show pleachlaw8_ClusNear_B4 (pleachlaw8_ClusNear_L4 n m) (k : Int) cs (home : Int) x m0 (other : Int) (i : Int) = _
    have : i = cs.length := by omega
    subst this
    exact hfin m
  | c + 1, m + 1, i, hc, hm => by
    show pleachlaw8_ClusNear_B4 (pleachlaw8_ClusNear_L4 n m) (k : Int) cs (home : Int) x m0 (other : Int) (i : Int) = _
    have hi : i < cs.length := by omega
    have hl8 := hcs.len_le
    have e0 : List.getD cs i ([], 0) = cs[i] := getD_at hi _
    have ih := near_L4 n hk hk2 cs x hcs hx home other hh ho m0 hkeep hfin c m (i + 1) (by omega) (by omega)
    unfold pleachlaw8_ClusNear_B4
    rw [cdp (by omega), inext (by omega)]
    by_cases h1 : i = home
    · rw [ceqp (by omega), ih]
    rw [ceqn (by omega)]
    by_cases h2 : i = other
    · rw [ceqp (by omega), ih]
    rw [ceqn (by omega), ct (by simp only [Bool.and_eq_true, decide_eq_true_eq]; omega), toNat_nat, e0]
    have hm := hkeep i hi h1 h2
    obtain ⟨p, hp, hpe⟩ := List.getElem_of_mem hm
    have hmid := Clus.midIn (hcs.ris _ (List.getElem_mem hi))
    have hidx : idxF x cs[i].2 = p := hx.idx hp (by rw [hpe]; exact hmid)
    have hhome : homeF x cs[i].2 = (p : Int) := by unfold homeF; rw [hidx, if_pos hp]
    have hx8 := hx.len_le
    have hci := (hcs.ris _ (List.getElem_mem hi)).1.le8
    rw [ref_Home_is x _ hx.small.1 hx.small.2, hhome]
    dsimp only [Option.bind_some]
    have e1 : List.getD x p ([], 0) = x[p] := getD_at hp _
    rw [cdn (by omega), ct (by simp only [Bool.and_eq_true, decide_eq_true_eq]; omega), ct (by simp only [Bool.and_eq_true, decide_eq_true_eq]; omega), toNat_nat, e1, hpe, sameInts _ _ (by omega) (by omega), decide_eq_true rfl]
    dsimp only [Option.bind_some]
    rw [nt, cond_false, ih]
theorem near_L3 (n : Nat) (F : List Int → Option ((Bool × Unit) × Unit)) (d : List (List Int)) (k : Int) (cs x : List Cl) (i : Nat) (m0 : Int) (h6 : cs.length ≤ 1000000)
    (hF : ∀ m acc, pleachlaw8_ClusNear_B3 (pleachlaw8_ClusNear_L3 n m) (pleachlaw8_ClusNear_L4 n n) d k cs (i : Int) x m0 (cs.length : Int) acc = F acc) : ∀ (c m j : Nat) (acc : List Int), j + c = cs.length → c < m → acc.length ≤ j →
    pleachlaw8_ClusNear_L3 n m d k cs (i : Int) x m0 (j : Int) acc = F (acc ++ (if i < j then (cs.drop j).map (·.2) else ((cs.drop j).eraseIdx (i - j)).map (·.2)))
  | c, 0, j, acc, _, h, _ => by omega
  | 0, m + 1, j, acc, hk, hm, ha => by
    show pleachlaw8_ClusNear_B3 (pleachlaw8_ClusNear_L3 n m) (pleachlaw8_ClusNear_L4 n n) d k cs (i : Int) x m0 (j : Int) acc = _
    have : j = cs.length := by omega
    subst this
    rw [hF, List.drop_eq_nil_of_le (by omega)]; simp
  | c + 1, m + 1, j, acc, hk, hm, ha => by
    show pleachlaw8_ClusNear_B3 (pleachlaw8_ClusNear_L3 n m) (pleachlaw8_ClusNear_L4 n n) d k cs (i : Int) x m0 (j : Int) acc = _
    have hj : j < cs.length := by omega
    unfold pleachlaw8_ClusNear_B3
    rw [cdp (by omega), toNat_nat, inext (by omega)]
    have e0 : List.getD cs j ([], 0) = cs[j] := getD_at hj _
    rw [e0, List.drop_eq_getElem_cons hj]
    by_cases hij : j = i
    · subst hij
      rw [cnen rfl, near_L3 n F d k cs x j m0 h6 hF c m (j + 1) acc (by omega) (by omega) (by omega), if_pos (by omega), if_neg (by omega), Nat.sub_self]; rfl
    · rw [cnep (by omega), ct (by simp only [Bool.and_eq_true, decide_eq_true_eq]; omega), cbp (by omega), near_L3 n F d k cs x i m0 h6 hF c m (j + 1) _ (by omega) (by omega) (by rw [List.length_append, List.length_singleton]; omega), List.append_assoc]
      congr 2
      by_cases h1 : i < j
      · rw [if_pos (by omega), if_pos h1]; rfl
      · rw [if_neg (by omega), if_neg h1]
        obtain ⟨q, hq⟩ : ∃ q, i - j = q + 1 := ⟨i - j - 1, by omega⟩
        have : i - (j + 1) = q := by omega
        rw [hq, this]; rfl
theorem near_two (n : Nat) (hn : 100 < n) {d : List (List Int)} (h : OkD d) {k : Nat} (hk : 1 ≤ k) (hk2 : k ≤ 100) (cs : List Cl) (hc : Clus (eD d) cs) (id : Int) (hi : idxF cs id < cs.length) (hl0 : (cs[idxF cs id].1.filter (fun x => x != id)) ≠ []) (hkl : ¬ k ≤ (cs[idxF cs id].1.filter (fun x => x != id)).length) (h2 : 2 ≤ cs.length) :
    pleachlaw8_ClusNear_L3 n n d (k : Int) cs ((idxF cs id : Nat) : Int) (leaveF (eD d) k cs id) (midF (eD d) (cs[idxF cs id].1.filter (fun x => x != id))) 0 [] = some ((true, ()), ()) := by
  obtain ⟨j, hj, hji, hhome, X, i2, hi2, hlv, hX, hXi, hall, hXl, hkeep⟩ := leaveF_merge hc hi hl0 hkl h2
  have hid := idxF_mem hi
  have hl8 := hc.len_le
  have hX8 := hX.len_le
  have hci := hc.ris _ (List.getElem_mem hi)
  have hcj := hc.ris _ (List.getElem_mem hj)
  have hflen := filter_ne_length hci.1.nodup hid
  have hrl := hci.1.filter (fun x => x != id)
  have hci8 := hci.1.le8
  have hcj8 := hcj.1.le8
  have hcut := cutF_clus hk hi2 hX
  rw [hlv]
  generalize hgi : idxF cs id = i at *
  generalize hgl : cs[i].1.filter (fun x => x != id) = l at *
  have hml := midF_mem (D := eD d) (l := l) (fun x hx => by have := hrl.range hx; omega) hl0
  have e0 : List.getD cs i ([], 0) = cs[i] := getD_at hi _
  have e1 : List.getD cs j ([], 0) = cs[j] := getD_at hj _
  have hR : Ris (rising (l ++ cs[j].1)) := ris_rising _
  have hallm : ∀ x, x ∈ l ∨ x ∈ cs[j].1 → x ∈ rising (l ++ cs[j].1) := fun x hx => by
    rw [mem_rising, List.mem_append]
    exact ⟨hx.elim (fun h => hrl.range h) (fun h => hcj.1.range h), hx⟩
  have hloop := near_L3 n (fun acc => pleachlaw8_ClusNear_B3 (fun _ _ _ _ _ _ _ _ => none) (pleachlaw8_ClusNear_L4 n n) d (k : Int) cs (i : Int) (cutF (eD d) k X i2) (midF (eD d) l) (cs.length : Int) acc) d (k : Int) cs (cutF (eD d) k X i2) i (midF (eD d) l) (by omega) (fun m acc => by
    unfold pleachlaw8_ClusNear_B3
    rw [cdn (by omega), cdn (by omega)]) cs.length n 0 [] (by omega) (by omega) (by simp)
  rw [List.drop_zero, List.nil_append, if_neg (by omega), Nat.sub_zero] at hloop
  have z0 : ((0 : Nat) : Int) = 0 := rfl
  rw [z0] at hloop
  rw [hloop]
  unfold pleachlaw8_ClusNear_B3
  have hlead : ∀ x ∈ (cs.eraseIdx i).map (·.2), 1 ≤ x ∧ x ≤ 8 := fun x hx => by
    obtain ⟨c, hcm, rfl⟩ := List.mem_map.1 hx
    exact (hc.ris c (List.mem_of_mem_eraseIdx hcm)).1.range (Clus.midIn (hc.ris c (List.mem_of_mem_eraseIdx hcm)))
  rw [cdn (by omega), ref_Near_is h (hrl.range hml) _ hlead (by rw [List.length_map, List.length_eraseIdx]; split <;> omega)]
  dsimp only [Option.bind_some]
  rw [ref_Home_is cs _ hc.small.1 hc.small.2, hhome]
  dsimp only [Option.bind_some]
  rw [← z0]
  have hxl : X[i2].1.length = l.length + cs[j].1.length := by rw [hXi]; exact hall
  have hw3 : IntKind.wrap .i64 ((IntKind.wrap .i64 (3 * (k : Int))) - 1) = ((3 * k - 1 : Nat) : Int) := by rw [wi64 (x := 3 * (k : Int)) (by omega) (by omega), wi64 (by omega) (by omega)]; omega
  refine near_L4 n hk hk2 cs (cutF (eD d) k X i2) hc hcut.1 i j hi hj _ (fun q hq h1 h2 => ?_) (fun m => ?_) cs.length n 0 (by omega) (by omega)
  · have hm := hkeep q hq h1 h2
    unfold cutF
    split
    · exact List.mem_of_mem_eraseIdx hm
    · rw [(perm_part (eD d) k hi2).mem_iff]
      exact List.mem_cons_of_mem _ (List.mem_cons_of_mem _ hm)
  · unfold pleachlaw8_ClusNear_B4
    have ew : IntKind.wrap .i64 ((IntKind.wrap .i64 ((cs[i].1.length : Int) - 1)) + (cs[j].1.length : Int)) = ((l.length + cs[j].1.length : Nat) : Int) := by
      rw [wi64 (x := (cs[i].1.length : Int) - 1) (by omega) (by omega), wi64 (by omega) (by omega)]; omega
    rw [cdn (by omega), ct (by simp only [Bool.and_eq_true, decide_eq_true_eq]; omega), ct (by simp only [Bool.and_eq_true, decide_eq_true_eq]; omega), toNat_nat, toNat_nat, e0, e1, ew, hw3]
    by_cases hs : l.length + cs[j].1.length ≤ 3 * k - 1
    · have hcx : cutF (eD d) k X i2 = X := by unfold cutF; rw [getD_lt hi2, if_pos (by omega)]
      have hidx : idxF X (midF (eD d) l) = i2 := hX.idx hi2 (by rw [hXi]; exact hallm _ (.inl hml))
      have hhm : homeF X (midF (eD d) l) = (i2 : Int) := by unfold homeF; rw [hidx, if_pos hi2]
      have e2 : List.getD X i2 ([], 0) = X[i2] := getD_at hi2 _
      rw [cdp (by omega), hcx, ref_Home_is X _ hX.small.1 hX.small.2, hhm]
      dsimp only [Option.bind_some]
      rw [wi64 (x := (cs.length : Int) - 1) (by omega) (by omega), ceqp (by omega), cdp (by omega), ct (by simp only [Bool.and_eq_true, decide_eq_true_eq]; omega), toNat_nat, e2, ceqp (by omega), ct (by simp only [Bool.and_eq_true, decide_eq_true_eq]; omega), ct (by simp only [Bool.and_eq_true, decide_eq_true_eq]; omega), has_eq _ _ (by omega)]
      dsimp only [Option.bind_some]
      rw [decide_eq_true (by rw [hXi]; exact hallm _ (.inr (Clus.midIn hcj)))]
    · have hcx : cutF (eD d) k X i2 = partF (eD d) k X i2 := by unfold cutF; rw [getD_lt hi2, if_neg (by omega)]
      have hpl : (partF (eD d) k X i2).length = X.length + 1 := by
        rw [(perm_part (eD d) k hi2).length_eq, List.length_cons, List.length_cons, List.length_eraseIdx, if_pos hi2]; omega
      rw [cdn (by omega), hcx]
      have : (((partF (eD d) k X i2).length : Int) == (cs.length : Int)) = true := by simp; omega
      rw [this]
theorem near_end (n m : Nat) (hn : 100 < n) {d : List (List Int)} (h : OkD d) {k : Nat} (hk : 1 ≤ k) (hk2 : k ≤ 100) (who leaves : Int) (hlv : 0 ≤ leaves ∧ leaves < 256) (l : List Int) (hl : Ris l) :
    pleachlaw8_ClusNear_B1 (pleachlaw8_ClusNear_L1 n m) (pleachlaw8_ClusNear_L2 n n) (pleachlaw8_ClusNear_L3 n n) who leaves (k : Int) 9 d l = some ((true, ()), ()) := by
  have h8 := hl.le8
  have hg := groupF_clus (D := eD d) hk hl
  have ht := groupF_total (D := eD d) hk hl
  unfold pleachlaw8_ClusNear_B1
  rw [cdn (by omega), ref_Group_is h hk hk2 l hl]
  dsimp only [Option.bind_some]
  rw [Int.tmod_eq_emod_of_nonneg hlv.1, wi64 (x := leaves % 8) (by omega) (by omega), wi64 (x := 1 + leaves % 8) (by omega) (by omega)]
  generalize groupF (eD d) k l = cs at *
  generalize 1 + leaves % 8 = id at *
  have hc := hg.1
  have hl8 := hc.len_le
  have hL := leaveF_clus (D := eD d) hk (id := id) hc
  rw [ref_Home_is cs _ hc.small.1 hc.small.2, clus_Leave_is h hk hk2 cs hc]
  dsimp only [Option.bind_some]
  have z0 : (0 : Int) = ((0 : Nat) : Int) := rfl
  have L2 : (leaveF (eD d) k cs id).length = cs.length → pleachlaw8_ClusNear_L2 n n l cs (homeF cs id) (leaveF (eD d) k cs id) 0 0 = some ((true, ()), ()) := fun hlen =>
    near_L2 n l h8 cs (leaveF (eD d) k cs id) (homeF cs id) hl8 hlen (fun c hcm => (hL.1.ris c hcm).1.le8) (by rw [hL.2.2.2, ht]) (leaveF (eD d) k cs id).length n 0 0 (by omega) (by omega) (by rw [List.drop_zero]; omega)
  by_cases c1 : homeF cs id < 0
  · rw [cdp c1, L2 (by rw [leaveF_out c1])]
  obtain ⟨hi, hh⟩ := homeF_idx (cs := cs) (id := id) (by omega)
  have hid := idxF_mem hi
  have hci := hc.ris _ (List.getElem_mem hi)
  have hflen := filter_ne_length hci.1.nodup hid
  have hci8 := hci.1.le8
  have e0 : List.getD cs (idxF cs id) ([], 0) = cs[idxF cs id] := getD_at hi _
  rw [cdn c1]
  have hle : ∀ (hl0 : (cs[idxF cs id].1.filter (fun x => x != id)) ≠ []), (k ≤ (cs[idxF cs id].1.filter (fun x => x != id)).length ∨ cs.length < 2) → (leaveF (eD d) k cs id).length = cs.length := fun hl0 hq => by
    rw [leaveF_less hi hl0 hq, List.length_set]
  have hcd : (decide (0 ≤ homeF cs id) && decide (homeF cs id < (cs.length : Int))) = true := by simp only [Bool.and_eq_true, decide_eq_true_eq]; omega
  have ht0 : (homeF cs id).toNat = idxF cs id := by rw [hh]; rfl
  simp only [hcd, cond_true]
  rw [ht0, e0, wi64 (x := (cs[idxF cs id].1.length : Int) - 1) (by omega) (by omega)]
  have ne1 : 2 ≤ cs[idxF cs id].1.length → (cs[idxF cs id].1.filter (fun x => x != id)) ≠ [] := fun h2 e => by rw [e] at hflen; simp at hflen; omega
  by_cases c2 : k ≤ (cs[idxF cs id].1.filter (fun x => x != id)).length
  · rw [cdp (by omega), L2 (hle (ne1 (by omega)) (.inl c2))]
  rw [cdn (by omega)]
  have two : 2 ≤ cs[idxF cs id].1.length → 2 ≤ cs.length → Option.bind (pleachlaw8_less1 cs[idxF cs id].1 id) (fun (r42 : ((List Int) × Unit) × Unit) => Option.bind (pleachref7_Of d r42.1.1) fun (r43 : (((List Int) × Int) × Unit) × Unit) => pleachlaw8_ClusNear_L3 n n d (k : Int) cs (homeF cs id) (leaveF (eD d) k cs id) r43.1.1.2 0 []) = some ((true, ()), ()) := fun h2 h3 => by
    rw [less1_is _ _ (by omega)]
    dsimp only [Option.bind_some]
    rw [ref_Of_is h _ (fun x hx => (hci.1.filter _).range hx) (by omega), hh]
    exact near_two n hn h hk hk2 cs hc id hi (ne1 h2) c2 h3
  have one : ¬ 2 ≤ cs[idxF cs id].1.length → (leaveF (eD d) k cs id).length + 1 = cs.length := fun h2 => by
    have : (cs[idxF cs id].1.filter (fun x => x != id)) = [] := List.length_eq_zero_iff.1 (by omega)
    rw [leaveF_alone hi this, List.length_eraseIdx, if_pos hi]; omega
  by_cases c3 : cs.length = 1
  · have hi0 : idxF cs id = 0 := by omega
    have e00 : List.getD cs 0 ([], 0) = cs[idxF cs id] := by rw [← hi0]; exact e0
    rw [ceqp (by omega), cdp (by omega), e00]
    by_cases c4 : 2 ≤ cs[idxF cs id].1.length
    · rw [cdp (by omega), L2 (hle (ne1 c4) (.inr (by omega)))]
    · have hpos := List.length_pos_iff.2 hci.2.1
      rw [cdn (by omega), ceqp (by omega), wi64 (x := (cs.length : Int) - 1) (by omega) (by omega)]
      have : (((leaveF (eD d) k cs id).length : Int) == (cs.length : Int) - 1) = true := by have := one c4; simp; omega
      rw [this]
  · rw [ceqn (by omega)]
    by_cases c4 : 2 ≤ cs[idxF cs id].1.length
    · rw [ceqn (by omega)]
      exact two c4 (by omega)
    · have hpos := List.length_pos_iff.2 hci.2.1
      rw [ceqp (by omega), wi64 (x := (cs.length : Int) - 1) (by omega) (by omega)]
      have : (((leaveF (eD d) k cs id).length : Int) == (cs.length : Int) - 1) = true := by have := one c4; simp; omega
      rw [this]
theorem near_build (n : Nat) (hn : 100 < n) {d : List (List Int)} (h : OkD d) {k : Nat} (hk : 1 ≤ k) (hk2 : k ≤ 100) (who leaves : Int) (hlv : 0 ≤ leaves ∧ leaves < 256) : ∀ (c m : Nat) (q : Int) (acc : List Int), q + c = 9 → 1 ≤ q → c < m → (∀ x ∈ acc, 1 ≤ x ∧ x < q) → acc.Pairwise (· < ·) → acc.length ≤ 8 - c →
    pleachlaw8_ClusNear_L1 n m who leaves (k : Int) q d acc = some ((true, ()), ())
  | c, 0, q, acc, _, _, h, _, _, _ => by omega
  | 0, m + 1, q, acc, hq, h1, hm, hr, hp, hl8 => by
    have : q = 9 := by omega
    subst this
    exact near_end n m hn h hk hk2 who leaves hlv acc (ris_of_pw (fun x hx => by have := hr x hx; omega) hp)
  | c + 1, m + 1, q, acc, hq, h1, hm, hr, hp, hl8 => by
    show pleachlaw8_ClusNear_B1 (pleachlaw8_ClusNear_L1 n m) (pleachlaw8_ClusNear_L2 n n) (pleachlaw8_ClusNear_L3 n n) who leaves (k : Int) q d acc = _
    unfold pleachlaw8_ClusNear_B1
    rw [cdp (by omega), wi64 (x := q - 1) (by omega) (by omega), cdp (by omega), kinc (by omega) (by omega)]
    have keep := near_build n hn h hk hk2 who leaves hlv c m (q + 1) acc (by omega) (by omega) (by omega) (fun x hx => by have := hr x hx; omega) hp (by omega)
    have take := near_build n hn h hk hk2 who leaves hlv c m (q + 1) (acc ++ [q]) (by omega) (by omega) (by omega) (fun x hx => by
      rcases List.mem_append.1 hx with hx | hx
      · have := hr x hx; omega
      · rw [List.mem_singleton] at hx; omega) (by
      rw [List.pairwise_append]
      refine ⟨hp, by simp, fun a ha b hb => ?_⟩
      rw [List.mem_singleton] at hb; subst hb
      exact (hr a ha).2) (by rw [List.length_append, List.length_singleton]; omega)
    rw [ceq]
    split
    · rw [cbp (by omega), take]
    · exact keep
theorem pleachlaw8_ClusNear_true {N : Nat} (picks : List Int) (who leaves least : Int) (h : wfPs [.val (.sl N (.int .u8)), .val (.int .u8), .val (.int .u8), .val (.int .u8)] (picks, who, leaves, least, ())) : pleachlaw8_ClusNear picks who leaves least = some ((true, ()), ()) := by
  obtain ⟨hp, hw, hlv, hle, _⟩ := h
  have hb : isBytes picks := wf_sl8' hp
  have hlv : 0 ≤ leaves ∧ leaves < 256 := wf_u8.1 hlv
  have hle : 0 ≤ least ∧ least < 256 := wf_u8.1 hle
  show pleachlaw8_ClusNear_T (pleachlaw8_ClusNear_L1 1099511627776 1099511627776) picks who leaves least = _
  unfold pleachlaw8_ClusNear_T
  rw [begun8]
  dsimp only [Option.bind_some, nt, nf, cond_false, cond_true]
  by_cases h1 : picks.length > 30
  · rw [cdp (by omega)]
  rw [cdn (by omega)]
  unfold pleachmade_Made
  dsimp only [Option.bind_some]
  obtain ⟨d, s1, e1, hd, _⟩ := pk_dist (pk_made hb (by omega))
  obtain ⟨k, k1, k2, ek⟩ := least_is hle
  rw [e1, ek]; dsimp only [Option.bind_some]
  exact near_build 1099511627776 (by omega) hd k1 (by omega) who leaves hlv 8 1099511627776 1 [] (by omega) (by omega) (by omega) (fun x hx => by cases hx) List.Pairwise.nil (by simp)
end Go.PE
