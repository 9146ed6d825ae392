/-
  Plain lemmas on the functions.
  Conditions: none.
-/
import Derived.Test.YtemajkklbjdmjaaClusGroupPClusFun3
set_option linter.unusedVariables false
set_option linter.unusedSimpArgs false
set_option maxRecDepth 20000
namespace Go.PE
theorem begun8 : pleachlaw8_begun = some ((true, ()), ()) := by kernel_rfl
theorem wf_sl8' {N : Nat} {l : List Int} (h : wfTy (.sl N (.int .u8)) l) : isBytes l := fun x hx => wf_u8.1 (h.2 x hx)
theorem least_is {x : Int} (h : 0 ≤ x ∧ x < 256) : ∃ k : Nat, 1 ≤ k ∧ k ≤ 3 ∧ IntKind.wrap .i64 (1 + (IntKind.wrap .i64 (Int.tmod x 3))) = (k : Int) := by
  rw [Int.tmod_eq_emod_of_nonneg h.1, wi64 (x := x % 3) (by omega) (by omega), wi64 (by omega) (by omega)]
  exact ⟨(1 + x % 3).toNat, by omega, by omega, by omega⟩
theorem pleachlaw8_ClusAll_true {N M : Nat} (picks more : List Int) (least : Int) (h : wfPs [.val (.sl N (.int .u8)), .val (.sl M (.int .u8)), .val (.int .u8)] (picks, more, least, ())) : pleachlaw8_ClusAll picks more least = some ((true, ()), ()) := by
  obtain ⟨hp, hm, hle, _⟩ := h
  have hb : isBytes picks := wf_sl8' hp
  have hb2 : isBytes more := wf_sl8' hm
  have hle : 0 ≤ least ∧ least < 256 := wf_u8.1 hle
  unfold pleachlaw8_ClusAll
  rw [begun8]
  dsimp only [Option.bind_some, nt, nf, cond_false, cond_true]
  by_cases h1 : picks.length > 30
  · rw [cdp (by omega)]
  rw [cdn (by omega)]
  by_cases h2 : more.length > 8
  · rw [cdp (by omega)]
  rw [cdn (by omega)]
  unfold pleachmade_Made
  dsimp only [Option.bind_some]
  obtain ⟨d, s1, e1, hd, _⟩ := pk_dist (pk_made hb (by omega))
  obtain ⟨l, s2, e2, hl, hn, _⟩ := pk_some (pk_made hb2 (by omega)) 1 (by omega)
  have e2 : pleachmade_Picks_Some (more, 0) 1 = some ((l, ()), (s2, ())) := e2
  obtain ⟨k, k1, k2, ek⟩ := least_is hle
  rw [e1, ek]; dsimp only [Option.bind_some]
  rw [e2]; dsimp only [Option.bind_some]
  have h8 := hl.le8
  have hg := groupF_clus (D := eD d) k1 hl
  have hs : (splitF (eD d) k l).1.length ≤ 8 ∧ (splitF (eD d) k l).2.length ≤ 8 := by
    by_cases h2 : 2 ≤ l.length
    · have t := (splitF_spec (D := eD d) k1 hl h2).1
      exact ⟨t.ra.le8, t.rb.le8⟩
    · unfold splitF; rw [if_pos (by omega)]; exact ⟨h8, by simp⟩
  rw [clus_Split_is hd l hl k1 (by omega), ref_Split_is hd l hl k1 (by omega), clus_Of_is hd l (fun x hx => hl.range hx) (by omega), ref_Of_is hd l (fun x hx => hl.range hx) (by omega)]
  dsimp only [Option.bind_some]
  rw [sameInts _ _ (by omega) (by omega), sameInts _ _ (by omega) (by omega), clus_Group_is hd k1 (by omega) l hl, ref_Group_is hd k1 (by omega) l hl, clus_Group_is hd k1 (by omega) [] Ris.nil]
  simp only [decide_true, cond_true, Option.bind_some]
  rw [sameClusters _ _ hg.1.small.1 hg.1.small.1 hg.1.small.2]
  simp only [decide_true, cond_true, Option.bind_some]
  have hof : (ofF (eD d) l).1.length ≤ 8 := h8
  rw [ceqp rfl, sameInts _ _ (by omega) (by omega)]
  simp only [decide_true, cond_true, Option.bind_some]
  rfl
theorem pleachlaw8_ClusSplit_true {N M : Nat} (picks more : List Int) (least : Int) (h : wfPs [.val (.sl N (.int .u8)), .val (.sl M (.int .u8)), .val (.int .u8)] (picks, more, least, ())) : pleachlaw8_ClusSplit picks more least = some ((true, ()), ()) := by
  obtain ⟨hp, hm, hle, _⟩ := h
  have hb : isBytes picks := wf_sl8' hp
  have hb2 : isBytes more := wf_sl8' hm
  have hle : 0 ≤ least ∧ least < 256 := wf_u8.1 hle
  unfold pleachlaw8_ClusSplit
  rw [begun8]
  dsimp only [Option.bind_some, nt, nf, cond_false, cond_true]
  by_cases h1 : picks.length > 30
  · rw [cdp (by omega)]
  rw [cdn (by omega)]
  by_cases h2 : more.length > 8
  · rw [cdp (by omega)]
  rw [cdn (by omega)]
  unfold pleachmade_Made
  dsimp only [Option.bind_some]
  obtain ⟨d, s1, e1, hd, _⟩ := pk_dist (pk_made hb (by omega))
  obtain ⟨l, s2, e2, hl, hn, _⟩ := pk_some (pk_made hb2 (by omega)) 2 (by omega)
  have e2 : pleachmade_Picks_Some (more, 0) 2 = some ((l, ()), (s2, ())) := e2
  obtain ⟨k, k1, k2, ek⟩ := least_is hle
  rw [e1, ek]; dsimp only [Option.bind_some]
  rw [e2]; dsimp only [Option.bind_some]
  have h8 := hl.le8
  rw [clus_Split_is hd l hl k1 (by omega)]
  dsimp only [Option.bind_some]
  obtain ⟨s1, s2, s3, s4, s5⟩ := splitF_short (D := eD d) k1 hl hn
  obtain ⟨t, te⟩ := splitF_spec (D := eD d) k1 hl hn
  generalize splitF (eD d) k l = S at *
  have p1 := List.length_pos_iff.2 s1
  have p2 := List.length_pos_iff.2 s2
  have r1 := t.ra.le8
  have r2 := t.rb.le8
  rw [wi64 (x := (S.1.length : Int) + (S.2.length : Int)) (by omega) (by omega), cnen (by omega), cbp (by omega), cbp (by rw [List.nil_append]; omega), List.nil_append]
  have ea : rising (S.1 ++ S.2) = l := by
    refine (ris_rising _).ext hl (fun x => ?_)
    rw [mem_rising, List.mem_append, t.mem x]
    exact ⟨fun h => h.2, fun h => ⟨h.elim (fun h => t.ra.range h) (fun h => t.rb.range h), h⟩⟩
  rw [ref_Rising_is _ (by rw [List.length_append]; omega), ea, ref_Rising_is _ (by omega), ref_Rising_is _ (by omega), ← t.ra, ← t.rb]
  dsimp only [Option.bind_some]
  rw [sameInts _ _ (by omega) (by omega), sameInts _ _ (by omega) (by omega), sameInts _ _ (by omega) (by omega)]
  simp only [decide_true, nt, cond_false, Option.bind_some]
  rw [cdp (by omega), cdp (by omega), wi64 (x := 2 * (k : Int)) (by omega) (by omega)]
  by_cases h3 : l.length < 2 * k
  · rw [cdp (by omega)]
  · have := te (by omega)
    rw [cdn (by omega), cdp (by omega), decide_eq_true (by omega)]
theorem clusGroup_loop (n : Nat) {d : List (List Int)} (h : OkD d) {k : Nat} (hk : 1 ≤ k) (hk2 : k ≤ 100) (l : List Int) (hl : Ris l) (hn : l ≠ []) : ∀ (c m i : Nat) (acc : List Int), i + c = (groupF (eD d) k l).length → c < m → acc.length + total ((groupF (eD d) k l).drop i) = l.length → (∀ x, x ∈ l ↔ x ∈ acc ∨ isIn ((groupF (eD d) k l).drop i) x) →
    pleachlaw8_ClusGroup_L1 n m d l (k : Int) (groupF (eD d) k l) (i : Int) acc = some ((true, ()), ())
  | c, 0, i, acc, _, h, _, _ => by omega
  | 0, m + 1, i, acc, hc, hm, ht, hin => by
    show pleachlaw8_ClusGroup_B1 (pleachlaw8_ClusGroup_L1 n m) d l (k : Int) (groupF (eD d) k l) (i : Int) acc = _
    have hg := groupF_clus (D := eD d) hk hl
    have h8 := hl.le8
    rw [List.drop_eq_nil_of_le (by omega)] at ht hin
    have ht : acc.length + 0 = l.length := ht
    have e : rising acc = l := (ris_rising _).ext hl (fun x => by
      rw [mem_rising, hin x]
      constructor
      · exact fun h => .inl h.2
      · intro h
        have h := h.resolve_right isIn_nil
        exact ⟨hl.range ((hin x).2 (.inl h)), h⟩)
    unfold pleachlaw8_ClusGroup_B1
    have hw : IntKind.wrap .i64 ((IntKind.wrap .i64 (3 * (k : Int))) - 1) = ((3 * k - 1 : Nat) : Int) := by rw [wi64 (x := 3 * (k : Int)) (by omega) (by omega), wi64 (by omega) (by omega)]; omega
    rw [cdn (by omega), ceqp (by omega), ref_Rising_is _ (by omega), e]
    dsimp only [Option.bind_some]
    rw [sameInts _ _ (by omega) (by omega), decide_eq_true rfl, hw]
    simp only [cond_true, Option.bind_some]
    congr 3
    have := hg.2.2.2.2.2 hn
    by_cases h1 : (groupF (eD d) k l).length = 1
    · rw [decide_eq_true (by omega)]; simp [h1]
    · rw [decide_eq_false (by omega)]; simp; omega
  | c + 1, m + 1, i, acc, hc, hm, ht, hin => by
    show pleachlaw8_ClusGroup_B1 (pleachlaw8_ClusGroup_L1 n m) d l (k : Int) (groupF (eD d) k l) (i : Int) acc = _
    have hg := groupF_clus (D := eD d) hk hl
    have h8 := hl.le8
    have hlen := hg.1.len_le
    have hi : i < (groupF (eD d) k l).length := by omega
    have hc0 := hg.1.ris _ (List.getElem_mem hi)
    have hsz := hg.2.1.1 _ (List.getElem_mem hi)
    have hsz2 := fun h => hg.2.1.2 h _ (List.getElem_mem hi)
    have ih := fun acc => clusGroup_loop n h hk hk2 l hl hn c m (i + 1) acc (by omega) (by omega)
    rw [List.drop_eq_getElem_cons hi] at ht hin
    unfold pleachlaw8_ClusGroup_B1
    have hw : IntKind.wrap .i64 ((IntKind.wrap .i64 (3 * (k : Int))) - 1) = ((3 * k - 1 : Nat) : Int) := by rw [wi64 (x := 3 * (k : Int)) (by omega) (by omega), wi64 (by omega) (by omega)]; omega
    rw [toNat_nat, getD_at hi, hw, inext (by omega)]
    generalize (groupF (eD d) k l)[i] = cc at *
    rw [total_cons] at ht
    have hp := List.length_pos_iff.2 hc0.2.1
    have hc8 := hc0.1.le8
    have fin := ih (acc ++ cc.1) (by rw [List.length_append]; omega) (fun x => by rw [hin x, isIn_cons, List.mem_append, or_assoc])
    rw [cdp (by omega), ct (by simp only [Bool.and_eq_true, decide_eq_true_eq]; omega), cdn (by omega), cdn (by omega)]
    by_cases h1 : 1 < (groupF (eD d) k l).length
    · have := hsz2 h1
      rw [cdp (by omega), cdn (by omega), ct (by simp only [Bool.and_eq_true, decide_eq_true_eq]; omega), ref_Mid_is h _ (fun x hx => hc0.1.range hx) (by omega)]
      dsimp only [Option.bind_some]
      rw [cnen hc0.2.2, cbp (by omega), fin]
    · rw [cdn (by omega), ct (by simp only [Bool.and_eq_true, decide_eq_true_eq]; omega), ref_Mid_is h _ (fun x hx => hc0.1.range hx) (by omega)]
      dsimp only [Option.bind_some]
      rw [cnen hc0.2.2, cbp (by omega), fin]
theorem groupF_total {D : Int → Int → Int} {k : Nat} (hk : 1 ≤ k) {l : List Int} (hl : Ris l) : total (groupF D k l) = l.length := by
  have key : ∀ (n : Nat) (l : List Int), Ris l → l ≠ [] → l.length ≤ n → total ((grpF D k n l).map (ofF D)) = l.length := by
    intro n
    induction n with
    | zero => intro l _ hn h; exact absurd (List.length_eq_zero_iff.1 (by omega)) hn
    | succ n ih =>
      intro l hl hn h
      unfold grpF
      by_cases hc : l.length ≤ 3 * k - 1
      · rw [if_pos hc]; unfold total ofF; simp
      · rw [if_neg hc]
        obtain ⟨s1, s2, s3, s4, s5⟩ := splitF_short (D := D) hk hl (by omega)
        have t := (splitF_spec (D := D) hk hl (by omega)).1
        have ia := ih _ t.ra s1 (by omega)
        have ib := ih _ t.rb s2 (by omega)
        unfold total at ia ib ⊢
        rw [List.map_append, List.map_append, List.sum_append_nat, ia, ib, s5]
  unfold groupF
  by_cases hn : l = []
  · rw [if_pos hn, hn]; rfl
  · rw [if_neg hn]; exact key 8 l hl hn hl.le8
theorem pleachlaw8_ClusGroup_true {N M : Nat} (picks more : List Int) (least : Int) (h : wfPs [.val (.sl N (.int .u8)), .val (.sl M (.int .u8)), .val (.int .u8)] (picks, more, least, ())) : pleachlaw8_ClusGroup picks more least = some ((true, ()), ()) := by
  obtain ⟨hp, hm, hle, _⟩ := h
  have hb : isBytes picks := wf_sl8' hp
  have hb2 : isBytes more := wf_sl8' hm
  have hle : 0 ≤ least ∧ least < 256 := wf_u8.1 hle
  show pleachlaw8_ClusGroup_T (pleachlaw8_ClusGroup_L1 1099511627776 1099511627776) picks more least = _
  unfold pleachlaw8_ClusGroup_T
  rw [begun8]
  dsimp only [Option.bind_some, nt, nf, cond_false, cond_true]
  by_cases h1 : picks.length > 30
  · rw [cdp (by omega)]
  rw [cdn (by omega)]
  by_cases h2 : more.length > 8
  · rw [cdp (by omega)]
  rw [cdn (by omega)]
  unfold pleachmade_Made
  dsimp only [Option.bind_some]
  obtain ⟨d, s1, e1, hd, _⟩ := pk_dist (pk_made hb (by omega))
  obtain ⟨l, s2, e2, hl, hn, _⟩ := pk_some (pk_made hb2 (by omega)) 1 (by omega)
  have e2 : pleachmade_Picks_Some (more, 0) 1 = some ((l, ()), (s2, ())) := e2
  obtain ⟨k, k1, k2, ek⟩ := least_is hle
  rw [e1, ek]; dsimp only [Option.bind_some]
  rw [e2]; dsimp only [Option.bind_some]
  have h8 := hl.le8
  have hg := groupF_clus (D := eD d) k1 hl
  have hlen := hg.1.len_le
  rw [clus_Group_is hd k1 (by omega) l hl]
  dsimp only [Option.bind_some]
  have := clusGroup_loop 1099511627776 hd k1 (by omega) l hl (fun e => by rw [e] at hn; simp at hn) (groupF (eD d) k l).length 1099511627776 0 [] (by omega) (by omega) (by rw [List.drop_zero, groupF_total k1 hl]; simp) (fun x => by rw [List.drop_zero, hg.2.2.1 x]; simp)
  exact this
end Go.PE
