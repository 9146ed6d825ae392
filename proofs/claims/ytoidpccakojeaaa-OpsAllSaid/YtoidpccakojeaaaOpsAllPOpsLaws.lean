/-
  Plain lemmas on the functions.
  Conditions: none.
-/
import Derived.Test.YtoidpccakojeaaaOpsAllPOps
set_option linter.unusedVariables false
set_option linter.unusedSimpArgs false
set_option maxRecDepth 20000
namespace Go.PE
structure OkStep (s : StepV) : Prop where
  kind : 1 ≤ s.1 ∧ s.1 ≤ 9
  head : put1 s = s.1 :: (put1 s).tail
  comes : ∀ r, stepP s.1 ((put1 s).tail ++ r) = some (s, r)
  cut : ∀ n, n < (put1 s).tail.length → stepP s.1 ((put1 s).tail.take n) = none
  wf : wfStep s
theorem u8_id {k : Int} (h : 1 ≤ k ∧ k ≤ 9) : u8 k = k := by unfold u8; omega
theorem mx_nat (v : Nat) : mx (v : Int) = v := rfl
theorem take_app_le {a b : List Int} {n : Nat} (h : n ≤ a.length) : (a ++ b).take n = a.take n := List.take_append_of_le_length h
theorem take_app_ge {a b : List Int} {n : Nat} (h : a.length ≤ n) : (a ++ b).take n = a ++ b.take (n - a.length) := by rw [List.take_append, List.take_of_length_le h]
theorem wfS (k r i t : Int) (x : ByteArray) (hk : 1 ≤ k ∧ k ≤ 9) (hr : 0 ≤ r ∧ r ≤ 1073741824) (hi : 0 ≤ i ∧ i ≤ 1073741824) (ht : 0 ≤ t ∧ t ≤ 1073741824) (hx : x.size ≤ 100000) : wfStep (k, r, i, t, x) := by
  refine ⟨⟨?_, ?_⟩, ⟨?_, ?_⟩, ⟨?_, ?_⟩, ⟨?_, ?_⟩, hx⟩ <;> (dsimp only; omega)
theorem ok_num (k : Int) (v : Nat) (s : StepV) (hk : 1 ≤ k ∧ k ≤ 9) (hv : v ≤ 1073741824) (hs : s.1 = k) (hp : put1 s = u8 k :: enc v)
    (hst : ∀ l, stepP k l = (onum l).bind fun a => some ((fun w : Nat => if w = v then s else (0, 0, 0, 0, emp)) a.1, a.2)) (hw : wfStep s) : OkStep s := by
  subst hs
  refine ⟨hk, by rw [hp, u8_id hk]; rfl, fun r => ?_, fun n hn => ?_, hw⟩
  · rw [hp, List.tail_cons, hst, onum_enc v r hv]; simp
  · rw [hp, List.tail_cons] at hn ⊢; rw [hst, onum_cut v n hn]; rfl
theorem stepP_ok {k : Int} {l q : List Int} {s : StepV} (hk : 1 ≤ k ∧ k ≤ 9) (hl : isBytes l) (hlen : l.length ≤ 100000) (h : stepP k l = some (s, q)) : OkStep s ∧ k :: l = put1 s ++ q := by
  have hsz : ∀ {a t c : List Int}, isBytes a → a.length ≤ 100000 → otxt a = some (t, c) → (bytesOf t).size ≤ 100000 ∧ bytes (bytesOf t) = t ∧ encT t = encT (bytes (bytesOf t)) := fun {a t c} ha hal h2 => by
    obtain ⟨t1, t2, t3, t4⟩ := otxt_spec ha h2
    have e := bytes_bytesOf t2
    refine ⟨?_, e, by rw [e]⟩
    have h3 := bytes_length (bytesOf t)
    rw [e] at h3
    have h5 := congrArg List.length t4
    rw [List.length_append] at h5
    unfold encT at h5
    rw [List.length_append] at h5
    omega
  have h' := h
  unfold stepP at h
  by_cases h1 : k = 1
  · rw [if_pos h1] at h
    obtain ⟨⟨v, a⟩, g1, h⟩ := Option.bind_eq_some_iff.1 h
    obtain ⟨⟨t, c⟩, g2, h⟩ := Option.bind_eq_some_iff.1 h
    obtain ⟨v1, v2, v3⟩ := onum_spec hl g1
    have ha := bytes_suffix hl v3
    obtain ⟨t1, t2, t3, t4⟩ := otxt_spec ha g2
    obtain ⟨s1, s2, s3⟩ := hsz ha (by omega) g2
    simp only [Option.some.injEq, Prod.mk.injEq] at h
    obtain ⟨rfl, rfl⟩ := h
    have hp : put1 (k, (v : Int), 0, 0, bytesOf t) = k :: (enc v ++ encT t) := by
      unfold put1; dsimp only; rw [if_pos h1, mx_nat, s2, u8_id hk]
    refine ⟨⟨hk, by rw [hp]; rfl, fun r => ?_, fun n hn => ?_, wfS _ _ _ _ _ hk (by omega) (by omega) (by omega) s1⟩, ?_⟩
    · rw [hp, List.tail_cons, List.append_assoc]
      dsimp only
      unfold stepP
      rw [if_pos h1, onum_enc v _ v1]
      dsimp only [Option.bind_some]
      rw [otxt_enc t r t1]; rfl
    · rw [hp, List.tail_cons] at hn ⊢
      dsimp only
      unfold stepP
      rw [if_pos h1]
      rw [List.length_append] at hn
      by_cases hc : n < (enc v).length
      · rw [take_app_le (by omega), onum_cut v n hc]; rfl
      · rw [take_app_ge (by omega), onum_enc v _ v1]
        dsimp only [Option.bind_some]
        rw [otxt_cut t _ t2 t1 (by omega)]; rfl
    · rw [hp]
      rw [v3, t4]; simp
  rw [if_neg h1] at h
  by_cases h2 : k = 2 ∨ k = 3 ∨ k = 5
  · rw [if_pos h2] at h
    obtain ⟨⟨v, a⟩, g1, h⟩ := Option.bind_eq_some_iff.1 h
    obtain ⟨v1, v2, v3⟩ := onum_spec hl g1
    simp only [Option.some.injEq, Prod.mk.injEq] at h
    obtain ⟨rfl, rfl⟩ := h
    have hp : put1 (k, (v : Int), 0, 0, emp) = u8 k :: enc v := by
      unfold put1; dsimp only; rw [if_neg h1, if_pos h2, mx_nat]
    refine ⟨⟨hk, by rw [hp, u8_id hk]; rfl, fun r => ?_, fun n hn => ?_, wfS _ _ _ _ _ hk (by omega) (by omega) (by omega) (by decide)⟩, by rw [hp, u8_id hk, v3]; rfl⟩
    · rw [hp, List.tail_cons]
      dsimp only
      unfold stepP
      rw [if_neg h1, if_pos h2, onum_enc v _ v1]; rfl
    · rw [hp, List.tail_cons] at hn ⊢
      dsimp only
      unfold stepP
      rw [if_neg h1, if_pos h2, onum_cut v n hn]; rfl
  rw [if_neg h2] at h
  by_cases h4 : k = 4
  · rw [if_pos h4] at h
    obtain ⟨⟨t, c⟩, g2, h⟩ := Option.bind_eq_some_iff.1 h
    obtain ⟨t1, t2, t3, t4⟩ := otxt_spec hl g2
    obtain ⟨s1, s2, s3⟩ := hsz hl hlen g2
    simp only [Option.some.injEq, Prod.mk.injEq] at h
    obtain ⟨rfl, rfl⟩ := h
    have hp : put1 (k, 0, 0, 0, bytesOf t) = k :: encT t := by
      unfold put1; dsimp only; rw [if_neg h1, if_neg h2, if_pos h4, s2, u8_id hk]
    refine ⟨⟨hk, by rw [hp]; rfl, fun r => ?_, fun n hn => ?_, wfS _ _ _ _ _ hk (by omega) (by omega) (by omega) s1⟩, by rw [hp, t4]; rfl⟩
    · rw [hp, List.tail_cons]
      dsimp only
      unfold stepP
      rw [if_neg h1, if_neg h2, if_pos h4, otxt_enc t r t1]; rfl
    · rw [hp, List.tail_cons] at hn ⊢
      dsimp only
      unfold stepP
      rw [if_neg h1, if_neg h2, if_pos h4, otxt_cut t _ t2 t1 hn]; rfl
  rw [if_neg h4] at h
  by_cases h9 : k = 9
  · rw [if_pos h9] at h
    obtain ⟨⟨v, a⟩, g1, h⟩ := Option.bind_eq_some_iff.1 h
    obtain ⟨⟨t, c⟩, g2, h⟩ := Option.bind_eq_some_iff.1 h
    obtain ⟨v1, v2, v3⟩ := onum_spec hl g1
    have ha := bytes_suffix hl v3
    obtain ⟨t1, t2, t3⟩ := onum_spec ha g2
    simp only [Option.some.injEq, Prod.mk.injEq] at h
    obtain ⟨rfl, rfl⟩ := h
    have hp : put1 (k, 0, (v : Int), (t : Int), emp) = k :: (enc v ++ enc t) := by
      unfold put1; dsimp only; rw [if_neg h1, if_neg h2, if_neg h4, if_pos h9, mx_nat, mx_nat, u8_id hk]
    refine ⟨⟨hk, by rw [hp]; rfl, fun r => ?_, fun n hn => ?_, wfS _ _ _ _ _ hk (by omega) (by omega) (by omega) (by decide)⟩, ?_⟩
    · rw [hp, List.tail_cons, List.append_assoc]
      dsimp only
      unfold stepP
      rw [if_neg h1, if_neg h2, if_neg h4, if_pos h9, onum_enc v _ v1]
      dsimp only [Option.bind_some]
      rw [onum_enc t r t1]; rfl
    · rw [hp, List.tail_cons] at hn ⊢
      dsimp only
      unfold stepP
      rw [if_neg h1, if_neg h2, if_neg h4, if_pos h9]
      rw [List.length_append] at hn
      by_cases hc : n < (enc v).length
      · rw [take_app_le (by omega), onum_cut v n hc]; rfl
      · rw [take_app_ge (by omega), onum_enc v _ v1]
        dsimp only [Option.bind_some]
        rw [onum_cut t _ (by omega)]; rfl
    · rw [hp]
      rw [v3, t3]; simp
  rw [if_neg h9] at h
  obtain ⟨⟨v, a⟩, g1, h⟩ := Option.bind_eq_some_iff.1 h
  obtain ⟨v1, v2, v3⟩ := onum_spec hl g1
  simp only [Option.some.injEq, Prod.mk.injEq] at h
  obtain ⟨rfl, rfl⟩ := h
  have hp : put1 (k, 0, (v : Int), 0, emp) = u8 k :: enc v := by
    unfold put1; dsimp only; rw [if_neg h1, if_neg h2, if_neg h4, if_neg h9, mx_nat]
  refine ⟨⟨hk, by rw [hp, u8_id hk]; rfl, fun r => ?_, fun n hn => ?_, wfS _ _ _ _ _ hk (by omega) (by omega) (by omega) (by decide)⟩, by rw [hp, u8_id hk, v3]; rfl⟩
  · rw [hp, List.tail_cons]
    dsimp only
    unfold stepP
    rw [if_neg h1, if_neg h2, if_neg h4, if_neg h9, onum_enc v _ v1]; rfl
  · rw [hp, List.tail_cons] at hn ⊢
    dsimp only
    unfold stepP
    rw [if_neg h1, if_neg h2, if_neg h4, if_neg h9, onum_cut v n hn]; rfl
theorem takeF_ok : ∀ (k : Nat) (l : List Int), isBytes l → l.length ≤ 100000 → ∀ s ∈ takeF k l, OkStep s
  | 0, _, _, _, s, h => by cases h
  | k + 1, [], _, _, s, h => by cases h
  | k + 1, x :: r, hb, hl, s, h => by
    have hr : isBytes r := fun y hy => hb y (List.mem_cons_of_mem _ hy)
    have hx := hb x (List.mem_cons_self ..)
    simp only [List.length_cons] at hl
    unfold takeF at h
    split at h
    · exact takeF_ok k r hr (by omega) s h
    · cases hs : stepP (x % 10) r with
      | none => rw [hs] at h; cases h
      | some p =>
        obtain ⟨s', q⟩ := p
        rw [hs] at h
        simp only [List.mem_cons] at h
        obtain ⟨h1, h2⟩ := stepP_short hr hs
        rcases h with rfl | h
        · exact (stepP_ok (by omega) hr (by omega) hs).1
        · exact takeF_ok k q h2 (by omega) s h
theorem takeS_ok {l : List Int} (hb : isBytes l) (hl : l.length ≤ 100000) : ∀ s ∈ takeS l, OkStep s := takeF_ok _ l hb hl
theorem takeF_length : ∀ (k : Nat) (l : List Int), (takeF k l).length ≤ k
  | 0, _ => by simp [takeF]
  | k + 1, [] => by simp [takeF]
  | k + 1, x :: r => by
    unfold takeF
    split
    · have := takeF_length k r; omega
    · split
      · simp
      · rename_i s q _
        have := takeF_length k q
        simp only [List.length_cons]; omega
theorem takeS_length (l : List Int) : (takeS l).length ≤ l.length := takeF_length _ l
theorem takeS_put {s : StepV} (h : OkStep s) (r : List Int) (hr : isBytes r) : takeS (put1 s ++ r) = s :: takeS r := by
  have hb : isBytes ((put1 s).tail ++ r) := isBytes_append.2 ⟨by
    have := put1_bytes s
    rw [h.head] at this
    exact fun y hy => this y (List.mem_cons_of_mem _ hy), hr⟩
  have hk := h.kind
  have e : put1 s ++ r = s.1 :: ((put1 s).tail ++ r) := by rw [← List.cons_append, ← h.head]
  rw [e, takeS_cons _ _ hb, if_neg (by omega), show s.1 % 10 = s.1 by omega, h.comes r]
theorem put1?_ok {s : StepV} (h : OkStep s) : put1? s = put1 s := by
  have := takeS_put h [] (fun x hx => by cases hx)
  rw [List.append_nil, takeS_nil] at this
  exact if_pos this
theorem takeS_all : ∀ (l : List StepV) (r : List Int), (∀ s ∈ l, OkStep s) → isBytes r → takeS (putAll l ++ r) = l ++ takeS r
  | [], r, _, hr => rfl
  | s :: l, r, h, hr => by
    have hs := h s (List.mem_cons_self ..)
    have e : putAll (s :: l) = put1? s ++ putAll l := rfl
    rw [e, put1?_ok hs, List.append_assoc, takeS_put hs _ (isBytes_append.2 ⟨putAll_bytes l, hr⟩), takeS_all l r (fun t ht => h t (List.mem_cons_of_mem _ ht)) hr]
    rfl
theorem takeS_cut : ∀ (l : List StepV) (n : Nat), (∀ s ∈ l, OkStep s) → n < (putAll l).length → ∃ j, j < l.length ∧ takeS ((putAll l).take n) = l.take j
  | [], n, _, h => by simp [putAll] at h
  | s :: l, n, h, hn => by
    have hs := h s (List.mem_cons_self ..)
    have e : putAll (s :: l) = put1 s ++ putAll l := by show put1? s ++ putAll l = _; rw [put1?_ok hs]
    rw [e] at hn ⊢
    rw [List.length_append] at hn
    by_cases hc : n < (put1 s).length
    · refine ⟨0, by simp, ?_⟩
      rw [take_app_le (by omega), List.take_zero]
      have hb := put1_bytes s
      have hk := hs.kind
      have hh := hs.head
      cases n with
      | zero => rw [List.take_zero, takeS_nil]
      | succ n =>
        have hl1 : (put1 s).length = (put1 s).tail.length + 1 := by
          have := congrArg List.length hh
          rwa [List.length_cons] at this
        have ht : isBytes ((put1 s).tail) := by
          rw [hh] at hb
          exact fun y hy => hb y (List.mem_cons_of_mem _ hy)
        have e2 : (put1 s).take (n + 1) = s.1 :: (put1 s).tail.take n := by
          rw [hh]; rfl
        rw [e2, takeS_cons _ _ (isBytes_take ht n), if_neg (by omega), show s.1 % 10 = s.1 by omega, hs.cut n (by omega)]
    · obtain ⟨j, hj, ej⟩ := takeS_cut l (n - (put1 s).length) (fun t ht => h t (List.mem_cons_of_mem _ ht)) (by omega)
      refine ⟨j + 1, by simp; omega, ?_⟩
      rw [take_app_ge (by omega), takeS_put hs _ (isBytes_take (putAll_bytes l) _), ej]
      rfl
theorem putAll_takeF : ∀ (k : Nat) (l : List Int), isBytes l → l.length ≤ 100000 → (putAll (takeF k l)).length ≤ l.length
  | 0, _, _, _ => by simp [takeF, putAll]
  | k + 1, [], _, _ => by simp [takeF, putAll]
  | k + 1, x :: r, hb, hl => by
    have hr : isBytes r := fun y hy => hb y (List.mem_cons_of_mem _ hy)
    have hx := hb x (List.mem_cons_self ..)
    simp only [List.length_cons] at hl ⊢
    unfold takeF
    split
    · have := putAll_takeF k r hr (by omega); omega
    · cases hs : stepP (x % 10) r with
      | none => simp [putAll]
      | some p =>
        obtain ⟨s, q⟩ := p
        obtain ⟨h1, h2⟩ := stepP_short hr hs
        obtain ⟨h3, h4⟩ := stepP_ok (by omega) hr (by omega) hs
        have h5 := putAll_takeF k q h2 (by omega)
        have h6 := congrArg List.length h4
        rw [List.length_cons, List.length_append] at h6
        have e : putAll (s :: takeF k q) = put1 s ++ putAll (takeF k q) := by show put1? s ++ putAll (takeF k q) = _; rw [put1?_ok h3]
        show (putAll (s :: takeF k q)).length ≤ _
        rw [e, List.length_append]; omega
theorem putAll_takeS {l : List Int} (hb : isBytes l) (hl : l.length ≤ 100000) : (putAll (takeS l)).length ≤ l.length := putAll_takeF _ l hb hl
theorem begun25 : pleachlaw25_begun = some ((true, ()), ()) := by kernel_rfl
theorem wf_sl8o {N : Nat} {l : List Int} (h : wfTy (.sl N (.int .u8)) l) : isBytes l := fun x hx => wf_u8.1 (h.2 x hx)
theorem tmod_nat (c : Int) (hc : 0 ≤ c) (n : Nat) (hn : 0 < n) : ∃ k : Nat, k < n ∧ Int.tmod c (n : Int) = (k : Int) := by
  have e := Int.tmod_eq_emod_of_nonneg (a := c) (b := (n : Int)) hc
  have a := Int.emod_nonneg c (b := (n : Int)) (by omega)
  have d := Int.emod_lt_of_pos c (b := (n : Int)) (by omega)
  exact ⟨(Int.tmod c (n : Int)).toNat, by omega, by omega⟩
theorem pleachlaw25_OpsBack_true {N : Nat} (b : List Int) (cut : Int) (h : wfPs [.val (.sl N (.int .u8)), .val (.int .u16)] (b, cut, ())) :
    pleachlaw25_OpsBack b cut = some ((true, ()), ()) := by
  obtain ⟨hb, hc, _⟩ := h
  have hb : isBytes b := wf_sl8o hb
  have hc : 0 ≤ cut ∧ cut < 65536 := wf_u16.1 hc
  unfold pleachlaw25_OpsBack
  rw [begun25]
  dsimp only [Option.bind_some, nt, cond_false]
  by_cases h1 : b.length ≤ 200
  case neg => rw [cdp (by omega)]
  have ok := takeS_ok hb (by omega)
  have hlen := takeS_length b
  have hw : ∀ s ∈ takeS b, wfStep s := fun s hs => (ok s hs).wf
  have hpl := putAll_takeS hb (by omega)
  have hpb := putAll_bytes (takeS b)
  have hall := takeS_all (takeS b) [] ok (fun x hx => by cases hx)
  rw [List.append_nil, takeS_nil, List.append_nil] at hall
  rw [cdn (by omega), ops_Take_eq' b hb (by omega)]
  dsimp only [Option.bind_some]
  rw [ops_Put_eq' _ hw (by omega)]
  dsimp only [Option.bind_some]
  rw [ops_Take_eq' _ hpb (by omega), hall]
  dsimp only [Option.bind_some]
  rw [same_eq' _ _ (by omega) (by omega), decide_eq_true rfl]
  dsimp only [Option.bind_some, nt, cond_false]
  by_cases h0 : (putAll (takeS b)).length = 0
  · rw [ceqp (by omega)]
    have e0 : putAll (takeS b) = [] := List.eq_nil_of_length_eq_zero h0
    rw [e0, takeS_nil] at hall
    rw [← hall]; rfl
  obtain ⟨n, hn, en⟩ := tmod_nat cut hc.1 (putAll (takeS b)).length (by omega)
  obtain ⟨j, hj, ej⟩ := takeS_cut (takeS b) n ok hn
  simp only [cnot, cand]
  rw [ceqn (by omega), ceqn (by omega), wi64 (by omega) (by omega), en, cdp (by omega), cdp (by omega)]
  have e1 : (n : Int).toNat = n := rfl
  rw [e1, List.drop_zero, ops_Take_eq' _ (isBytes_take hpb n) (by rw [List.length_take]; omega), ej]
  dsimp only [Option.bind_some]
  have ejl : ((takeS b).take j).length = j := by rw [List.length_take]; omega
  rw [ejl, cdp (by omega), cdp (by omega), cdp (by omega)]
  have e2 : (j : Int).toNat = j := rfl
  rw [e2, List.drop_zero, same_eq' _ _ (by omega) (by omega), decide_eq_true rfl]
  rfl
theorem joins_loop (n : Nat) (c : Int) (hc : 0 ≤ c ∧ c < 256) (all : List StepV) (x y : List Int) (hx : isBytes x) (hy : isBytes y) (lx : x.length ≤ 100) (ly : y.length ≤ 100) (la : all.length ≤ 200)
    (hT : ∀ z, isBytes z → (∀ v ∈ z, v % 10 = 0) → takeS (x ++ z ++ y) = all) (hP : ops_Put all = some ((x ++ y, ()), ())) : ∀ (k m i : Nat) (z : List Int), i + k = c.toNat % 9 → k < m → z.length = i → isBytes z → (∀ v ∈ z, v % 10 = 0) →
    pleachlaw25_OpsJoins_L1 n m c (i : Int) all x y (x ++ z) = some ((true, ()), ())
  | k, 0, i, z, _, h, _, _, _ => by omega
  | 0, m + 1, i, z, hk, h, hz, hb, h10 => by
    show pleachlaw25_OpsJoins_B1 (pleachlaw25_OpsJoins_L1 n m) c (i : Int) all x y (x ++ z) = _
    unfold pleachlaw25_OpsJoins_B1
    have e : IntKind.wrap .i64 (Int.tmod c 9) = ((c.toNat % 9 : Nat) : Int) := by rw [Int.tmod_eq_emod_of_nonneg hc.1, wi64 (by omega) (by omega)]; omega
    have hl : (x ++ z).length ≤ 200 := by rw [List.length_append]; omega
    rw [e, cdn (by omega), cbp (by omega), ops_Take_eq' _ (isBytes_append.2 ⟨isBytes_append.2 ⟨hx, hb⟩, hy⟩) (by rw [List.length_append]; omega), hT z hb h10]
    dsimp only [Option.bind_some]
    rw [same_eq' _ _ (by omega) (by omega), decide_eq_true rfl]
    dsimp only [Option.bind_some, cond_true]
    rw [hP]
    dsimp only [Option.bind_some]
    have s1 : (bytesOf x).size = x.length := by rw [← bytes_length, bytes_bytesOf hx]
    have s2 : (bytesOf y).size = y.length := by rw [← bytes_length, bytes_bytesOf hy]
    rw [cdp (by omega)]
    have ea : bytesOf (x ++ y) = bytesOf x ++ bytesOf y := by
      have hj : ∀ a b : ByteArray, a.data.toList = b.data.toList → a = b := fun a b h => by
        obtain ⟨⟨p⟩⟩ := a
        obtain ⟨⟨q⟩⟩ := b
        have : p = q := h
        rw [this]
      apply hj
      simp [bytesOf, ByteArray.toList_data_append']
    rw [ea, strEq_self]
  | k + 1, m + 1, i, z, hk, h, hz, hb, h10 => by
    show pleachlaw25_OpsJoins_B1 (pleachlaw25_OpsJoins_L1 n m) c (i : Int) all x y (x ++ z) = _
    unfold pleachlaw25_OpsJoins_B1
    have e : IntKind.wrap .i64 (Int.tmod c 9) = ((c.toNat % 9 : Nat) : Int) := by rw [Int.tmod_eq_emod_of_nonneg hc.1, wi64 (by omega) (by omega)]; omega
    have hl : (x ++ z).length ≤ 200 := by rw [List.length_append]; omega
    have e8 : IntKind.wrap .i64 ((i : Int) + 1) = ((i + 1 : Nat) : Int) := by rw [wi64 (by omega) (by omega)]; omega
    rw [e, cdp (by omega), cbp (by omega), e8, wi64 (x := 10 * (i : Int)) (by omega) (by omega), wu8 (by omega) (by omega), List.append_assoc]
    refine joins_loop n c hc all x y hx hy lx ly la hT hP k m (i + 1) (z ++ [10 * (i : Int)]) (by omega) (by omega) (by simp [hz]) (isBytes_append.2 ⟨hb, ?_⟩) ?_
    · intro v hv; simp at hv; omega
    · intro v hv
      rcases List.mem_append.1 hv with hv | hv
      · exact h10 v hv
      · simp at hv; omega
theorem takeS_zeros : ∀ (z y : List Int), isBytes z → isBytes y → (∀ v ∈ z, v % 10 = 0) → takeS (z ++ y) = takeS y
  | [], y, _, _, _ => rfl
  | v :: z, y, hz, hy, h => by
    have hz' : isBytes z := fun a ha => hz a (List.mem_cons_of_mem _ ha)
    rw [List.cons_append, takeS_cons _ _ (isBytes_append.2 ⟨hz', hy⟩), if_pos (h v (List.mem_cons_self ..)), takeS_zeros z y hz' hy (fun a ha => h a (List.mem_cons_of_mem _ ha))]
theorem pleachlaw25_OpsJoins_true {N M : Nat} (a b : List Int) (c : Int) (h : wfPs [.val (.sl N (.int .u8)), .val (.sl M (.int .u8)), .val (.int .u8)] (a, b, c, ())) :
    pleachlaw25_OpsJoins a b c = some ((true, ()), ()) := by
  obtain ⟨ha, hb, hc, _⟩ := h
  have ha : isBytes a := wf_sl8o ha
  have hb : isBytes b := wf_sl8o hb
  have hc : 0 ≤ c ∧ c < 256 := wf_u8.1 hc
  show pleachlaw25_OpsJoins_T (pleachlaw25_OpsJoins_L1 1099511627776 1099511627776) a b c = _
  unfold pleachlaw25_OpsJoins_T
  rw [begun25]
  dsimp only [Option.bind_some, nt, cond_false]
  by_cases h1 : a.length ≤ 100
  case neg => rw [cdp (by omega)]
  by_cases h2 : b.length ≤ 100
  case neg => rw [cdn (by omega), cdp (by omega)]
  rw [cdn (by omega), cdn (by omega), ops_Take_eq' a ha (by omega), ops_Take_eq' b hb (by omega)]
  dsimp only [Option.bind_some]
  have oka := takeS_ok ha (by omega)
  have okb := takeS_ok hb (by omega)
  have la := takeS_length a
  have lb := takeS_length b
  have pa := putAll_takeS ha (by omega)
  have pb := putAll_takeS hb (by omega)
  rw [cbp (by omega), cbp (by simp only [List.length_append, List.length_nil]; omega), ops_Put_eq' _ (fun s hs => (oka s hs).wf) (by omega), ops_Put_eq' _ (fun s hs => (okb s hs).wf) (by omega)]
  dsimp only [Option.bind_some]
  rw [cbp (by omega)]
  have ok : ∀ s ∈ takeS a ++ takeS b, OkStep s := fun s hs => (List.mem_append.1 hs).elim (oka s) (okb s)
  have hpa : putAll (takeS a ++ takeS b) = putAll (takeS a) ++ putAll (takeS b) := by unfold putAll; rw [List.flatMap_append]
  have := joins_loop 1099511627776 c hc (takeS a ++ takeS b) (putAll (takeS a)) (putAll (takeS b)) (putAll_bytes _) (putAll_bytes _) (by omega) (by omega) (by rw [List.length_append]; omega)
    (fun z hz h10 => by
      have hb0 := takeS_all (takeS b) [] okb (fun x hx => by cases hx)
      rw [List.append_nil, takeS_nil, List.append_nil] at hb0
      rw [List.append_assoc, takeS_all _ _ oka (isBytes_append.2 ⟨hz, putAll_bytes _⟩), takeS_zeros _ _ hz (putAll_bytes _) h10, hb0])
    (by rw [ops_Put_eq' _ (fun s hs => (ok s hs).wf) (by rw [List.length_append]; omega), hpa]) (c.toNat % 9) 1099511627776 0 [] (by omega) (by omega) rfl (fun x hx => by cases hx) (fun x hx => by cases hx)
  rw [List.append_nil] at this
  exact this
theorem one_law (x : StepV) (hok : OkStep x) : (Option.bind (ops_Put [x]) fun (r1 : ((List Int) × Unit) × Unit) => Option.bind (ops_Take r1.1.1) fun (r2 : ((List StepV) × Unit) × Unit) =>
    bif (r2.1.1.length : Int) == 1 then bif decide (0 < (r2.1.1.length : Int)) then bif decide (0 < (r2.1.1.length : Int)) then some ((eqStep (List.getD r2.1.1 0 (0, 0, 0, 0, (⟨#[]⟩ : ByteArray))) x, ()), ()) else none else none else some ((false, ()), ())) = some ((true, ()), ()) := by
  have h1 := takeS_put hok [] (fun y hy => by cases hy)
  rw [List.append_nil, takeS_nil] at h1
  have h2 : putAll [x] = put1 x := by show put1? x ++ [] = _; rw [put1?_ok hok, List.append_nil]
  have hl := put1_length x
  have hs := hok.wf.2.2.2.2
  rw [ops_Put_eq' [x] (fun s h => by rw [List.mem_singleton.1 h]; exact hok.wf) (by simp)]
  dsimp only [Option.bind_some]
  rw [h2, ops_Take_eq' _ (put1_bytes x) (by omega), h1]
  dsimp only [Option.bind_some]
  rw [ceqp (show (([x] : List StepV).length : Int) = 1 from rfl), cdp (by simp), cdp (by simp)]
  show some ((eqStep x x, ()), ()) = _
  rw [eqStep_iff.2 rfl]
theorem pleachlaw25_OpsOne_true (k r i t : Int) (s : ByteArray) (h : wfPs [.val (.int .u8), .val (.int .u16), .val (.int .u16), .val (.int .u16), .val .str] (k, r, i, t, s, ())) :
    pleachlaw25_OpsOne k r i t s = some ((true, ()), ()) := by
  obtain ⟨hk, hr, hi, ht, hs, _⟩ := h
  have hk : 0 ≤ k ∧ k < 256 := wf_u8.1 hk
  have hr : 0 ≤ r ∧ r < 65536 := wf_u16.1 hr
  have hi : 0 ≤ i ∧ i < 65536 := wf_u16.1 hi
  have ht : 0 ≤ t ∧ t < 65536 := wf_u16.1 ht
  unfold pleachlaw25_OpsOne
  rw [begun25]
  dsimp only [Option.bind_some, nt, cond_false]
  by_cases h1 : s.size ≤ 100
  case neg => rw [cdp (by omega)]
  have ek : IntKind.wrap .i64 (1 + IntKind.wrap .i64 (Int.tmod k 9)) = 1 + k % 9 := by
    rw [Int.tmod_eq_emod_of_nonneg hk.1, wi64 (x := k % 9) (by omega) (by omega), wi64 (by omega) (by omega)]
  rw [cdn (by omega), ek, wi64 (x := r) (by omega) (by omega), wi64 (x := i) (by omega) (by omega), wi64 (x := t) (by omega) (by omega)]
  obtain ⟨K, hK, eK⟩ : ∃ K, (1 ≤ K ∧ K ≤ 9) ∧ 1 + k % 9 = K := ⟨_, by omega, rfl⟩
  rw [eK]
  obtain ⟨r, rfl⟩ : ∃ n : Nat, r = (n : Int) := ⟨r.toNat, by omega⟩
  obtain ⟨i, rfl⟩ : ∃ n : Nat, i = (n : Int) := ⟨i.toNat, by omega⟩
  obtain ⟨t, rfl⟩ : ∃ n : Nat, t = (n : Int) := ⟨t.toNat, by omega⟩
  have nn : ∀ v : Nat, v ≤ 1073741824 → onum (enc v) = some (v, []) := fun v hv => by
    have := onum_enc v [] hv; rwa [List.append_nil] at this
  have tt : otxt (encT (bytes s)) = some (bytes s, []) := by
    have := otxt_enc (bytes s) [] (by rw [bytes_length]; omega); rwa [List.append_nil] at this
  have be : ∀ v : Nat, isBytes (enc v) ∧ (enc v).length ≤ 10 := fun v => ⟨enc_bytes v, enc_length v⟩
  have bt := isBytes_encT s
  have lt := encT_length s
  by_cases k1 : K = 1
  · rw [ceqp k1]
    refine one_law (K, (r : Int), 0, 0, s) (stepP_ok (l := enc r ++ encT (bytes s)) (q := []) hK (isBytes_append.2 ⟨(be r).1, bt⟩) (by rw [List.length_append]; have := (be r).2; omega) ?_).1
    unfold stepP
    rw [if_pos k1, onum_enc r _ (by omega)]
    dsimp only [Option.bind_some]
    rw [tt]
    dsimp only [Option.bind_some]
    rw [bytesOf_bytes]
  rw [ceqn k1]
  have ok2 : (K = 2 ∨ K = 3 ∨ K = 5) → OkStep (K, (r : Int), 0, 0, emp) := fun k2 => (stepP_ok (l := enc r) (q := []) hK (be r).1 (by have := (be r).2; omega) (by
    unfold stepP
    rw [if_neg k1, if_pos k2, nn r (by omega)]; rfl)).1
  by_cases k2 : K = 2
  · rw [ceqp k2, ceqp k2]; exact one_law _ (ok2 (.inl k2))
  rw [ceqn k2]
  by_cases k3 : K = 3
  · rw [ceqp k3, ceqp k3]; exact one_law _ (ok2 (.inr (.inl k3)))
  rw [ceqn k3]
  by_cases k5 : K = 5
  · rw [ceqp k5]; exact one_law _ (ok2 (.inr (.inr k5)))
  rw [ceqn k5]
  by_cases k4 : K = 4
  · rw [ceqp k4]
    refine one_law (K, 0, 0, 0, s) (stepP_ok (l := encT (bytes s)) (q := []) hK bt (by omega) ?_).1
    unfold stepP
    rw [if_neg k1, if_neg (by omega), if_pos k4, tt]
    dsimp only [Option.bind_some]
    rw [bytesOf_bytes]
  rw [ceqn k4]
  by_cases k9 : K = 9
  · rw [ceqp k9]
    refine one_law (K, 0, (i : Int), (t : Int), emp) (stepP_ok (l := enc i ++ enc t) (q := []) hK (isBytes_append.2 ⟨(be i).1, (be t).1⟩) (by rw [List.length_append]; have := (be i).2; have := (be t).2; omega) ?_).1
    unfold stepP
    rw [if_neg k1, if_neg (by omega), if_neg k4, if_pos k9, onum_enc i _ (by omega)]
    dsimp only [Option.bind_some]
    rw [nn t (by omega)]; rfl
  rw [ceqn k9]
  refine one_law (K, 0, (i : Int), 0, emp) (stepP_ok (l := enc i) (q := []) hK (be i).1 (by have := (be i).2; omega) ?_).1
  unfold stepP
  rw [if_neg k1, if_neg (by omega), if_neg k4, if_neg k9, nn i (by omega)]; rfl
end Go.PE
