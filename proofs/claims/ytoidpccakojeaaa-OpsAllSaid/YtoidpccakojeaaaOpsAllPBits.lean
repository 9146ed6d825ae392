/-
  Plain lemmas on the functions.
  Conditions: none.
-/
import Derived.Test.YtoidpccakojeaaaOpsAllPNum
set_option linter.unusedVariables false
set_option linter.unusedSimpArgs false
namespace Go.PE
def encF : Nat → Nat → List Int
  | 0, _ => []
  | k + 1, v => if v < 128 then [(v : Int)] else ((v % 128 + 128 : Nat) : Int) :: encF k (v / 128)
theorem encF_succ (k v : Nat) : encF (k + 1) v = if v < 128 then [(v : Int)] else ((v % 128 + 128 : Nat) : Int) :: encF k (v / 128) := rfl
def enc (v : Nat) : List Int := encF 10 v
def decF : Nat → Nat → Nat → Nat → List Int → Option (Nat × Nat)
  | 0, _, _, _, _ => none
  | _ + 1, _, _, _, [] => none
  | k + 1, i, v, b, x :: r =>
    if 128 ≤ x then decF k (i + 1) (v + (x.toNat % 128) * b) (b * 128) r
    else if (0 < i ∧ x = 0) ∨ 1073741824 < v + x.toNat * b then none else some (v + x.toNat * b, i + 1)
def dec (l : List Int) : Option (Nat × Nat) := decF 5 0 0 1 l
theorem encF_length : ∀ (k v : Nat), (encF k v).length ≤ k
  | 0, _ => by simp [encF]
  | k + 1, v => by
    unfold encF
    split
    · simp
    · simp only [List.length_cons]; have := encF_length k (v / 128); omega
theorem encF_bytes : ∀ (k v : Nat), isBytes (encF k v)
  | 0, _ => by intro x hx; simp [encF] at hx
  | k + 1, v => by
    unfold encF
    split
    · intro x hx; simp at hx; omega
    · intro x hx
      rcases List.mem_cons.1 hx with rfl | hx
      · omega
      · exact encF_bytes k _ x hx
theorem enc_bytes (v : Nat) : isBytes (enc v) := encF_bytes _ _
theorem enc_length (v : Nat) : (enc v).length ≤ 10 := encF_length _ _
theorem encF_pos (k v : Nat) : 0 < (encF (k + 1) v).length := by unfold encF; split <;> simp
theorem enc_pos (v : Nat) : 0 < (enc v).length := encF_pos 9 v
theorem bits_Put_loop (n : Nat) : ∀ (k m v : Nat) (xs : List Int), k < m → v < 2 ^ (7 * (k + 1)) → xs.length + (k + 1) ≤ 1073741824 →
    bits_Put_L1 n m (v : Int) xs = some ((xs ++ encF (k + 1) v, ()), ())
  | k, 0, v, xs, h, _, _ => by omega
  | k, m + 1, v, xs, h, hv, hl => by
    show bits_Put_B1 (bits_Put_L1 n m) (v : Int) xs = _
    unfold bits_Put_B1
    by_cases hc : v < 128
    · rw [cdn (by omega), cbp (by omega), wu8 (by omega) (by omega)]
      unfold encF; rw [if_pos hc]
    · rw [cdp (by omega), cbp (by omega), or128 _ (by omega)]
      have e1 : Int.fdiv (v : Int) (2 ^ 7) = ((v / 128 : Nat) : Int) := by
        rw [Int.fdiv_eq_ediv_of_nonneg _ (by decide)]; rfl
      have e2 : (v : Int) % 128 + 128 = ((v % 128 + 128 : Nat) : Int) := by omega
      rw [e1, e2]
      cases k with
      | zero => simp at hv; omega
      | succ k =>
        rw [bits_Put_loop n k m (v / 128) _ (by omega) ?_ (by rw [List.length_append, List.length_singleton]; omega)]
        · conv => rhs; unfold encF
          rw [if_neg hc, List.append_assoc, List.singleton_append]
        · have e3 : 2 ^ (7 * (k + 1 + 1)) = 2 ^ (7 * (k + 1)) * 128 := by rw [show 7 * (k + 1 + 1) = 7 * (k + 1) + 7 by omega, Nat.pow_add]
          rw [e3] at hv
          exact Nat.div_lt_of_lt_mul (by rw [Nat.mul_comm]; exact hv)
theorem bits_Put_eq' (b : List Int) (v : Nat) (hv : v < 9223372036854775808) (hl : b.length ≤ 1000000000) : bits_Put b (v : Int) = some ((b ++ enc v, ()), ()) := by
  show bits_Put_T (bits_Put_L1 1099511627776 1099511627776) b v = _
  unfold bits_Put_T slices_Clone_byte
  rw [cbp (by omega)]
  simp only [Option.bind_some]
  rw [wu64 (by omega) (by omega)]
  exact bits_Put_loop _ 9 _ v b (by omega) (Nat.lt_of_lt_of_le hv (by decide)) (by omega)
theorem bits_PutText_eq' (b : List Int) (s : ByteArray) (hs : s.size ≤ 1000000) (hl : b.length ≤ 1000000) : bits_PutText b s = some ((b ++ (enc s.size ++ bytes s), ()), ()) := by
  unfold bits_PutText
  rw [bits_Put_eq' b s.size (by omega) (by omega)]
  simp only [Option.bind_some]
  have := enc_length s.size
  have h2 := bytes_length s
  rw [cbp (by
    show (b ++ enc s.size).length + (bytes s).length ≤ _
    rw [List.length_append]; omega), List.append_assoc]
  rfl
theorem ref_PutNum_loop (n : Nat) : ∀ (k m v : Nat) (xs : List Int), k < m → v < 2 ^ (7 * (k + 1)) → v < 9223372036854775808 → xs.length + (k + 1) ≤ 1073741824 →
    pleachref10_PutNum_L1 n m (v : Int) xs = some ((xs ++ encF (k + 1) v, ()), ())
  | k, 0, v, xs, h, _, _, _ => by omega
  | k, m + 1, v, xs, h, hv, h63, hl => by
    show pleachref10_PutNum_B1 (pleachref10_PutNum_L1 n m) (v : Int) xs = _
    unfold pleachref10_PutNum_B1
    by_cases hc : v < 128
    · rw [cdn (by omega), cbp (by omega), wu8 (by omega) (by omega)]
      unfold encF; rw [if_pos hc]
    · have t1 : Int.tdiv (v : Int) 128 = ((v / 128 : Nat) : Int) := by rw [Int.tdiv_eq_ediv_of_nonneg (by omega)]; omega
      have t2 : Int.tmod (v : Int) 128 = ((v % 128 : Nat) : Int) := by rw [Int.tmod_eq_emod_of_nonneg (by omega)]; omega
      rw [cdp (by omega), cbp (by omega), t1, t2, wi64 (x := ((v / 128 : Nat) : Int)) (by omega) (by omega), wi64 (by omega) (by omega), wu8 (by omega) (by omega)]
      have e2 : ((v % 128 : Nat) : Int) + 128 = ((v % 128 + 128 : Nat) : Int) := by omega
      rw [e2]
      cases k with
      | zero => simp at hv; omega
      | succ k =>
        rw [ref_PutNum_loop n k m (v / 128) _ (by omega) ?_ (by omega) (by rw [List.length_append, List.length_singleton]; omega)]
        · conv => rhs; unfold encF
          rw [if_neg hc, List.append_assoc, List.singleton_append]
        · have e3 : 2 ^ (7 * (k + 1 + 1)) = 2 ^ (7 * (k + 1)) * 128 := by rw [show 7 * (k + 1 + 1) = 7 * (k + 1) + 7 by omega, Nat.pow_add]
          rw [e3] at hv
          exact Nat.div_lt_of_lt_mul (by rw [Nat.mul_comm]; exact hv)
theorem ref_PutNum_eq' (b : List Int) (v : Nat) (hv : v < 9223372036854775808) (hl : b.length ≤ 1000000000) : pleachref10_PutNum b (v : Int) = some ((b ++ enc v, ()), ()) := by
  show pleachref10_PutNum_T (pleachref10_PutNum_L1 1099511627776 1099511627776) b v = _
  unfold pleachref10_PutNum_T
  rw [cbp (by omega), List.nil_append]
  exact ref_PutNum_loop _ 9 _ v b (by omega) (Nat.lt_of_lt_of_le hv (by decide)) hv (by omega)
theorem ref_PutText_eq' (b : List Int) (s : ByteArray) (hs : s.size ≤ 1000000) (hl : b.length ≤ 1000000) : pleachref10_PutText b s = some ((b ++ (enc s.size ++ bytes s), ()), ()) := by
  unfold pleachref10_PutText
  rw [ref_PutNum_eq' b s.size (by omega) (by omega)]
  simp only [Option.bind_some]
  have := enc_length s.size
  have h2 := bytes_length s
  rw [cbp (by
    show (b ++ enc s.size).length + (bytes s).length ≤ _
    rw [List.length_append]; omega), List.append_assoc]
  rfl
def takeRes (r : Option (Nat × Nat)) : (Int × Int × IV × Unit) × Unit :=
  match r with
  | some (v, n) => (((v : Int), (n : Int), IV.nil, ()), ())
  | none => ((0, 0, IV.mk 78 [], ()), ())
theorem pow7 {i : Nat} (h : i ≤ 5) : 128 ^ i ≤ 34359738368 := by
  have := Nat.pow_le_pow_right (n := 128) (by decide) h
  exact Nat.le_trans this (by decide)
theorem bits_take_loop (n : Nat) (b : List Int) (hb : isBytes b) (hl : b.length ≤ 4611686018427387904) : ∀ (k m i v : Nat), k + i = 5 → k < m → v < 128 ^ i →
    bits_take_L1 n m b (v : Int) (i : Int) = some (takeRes (decF k i v (128 ^ i) (b.drop i)))
  | k, 0, i, v, _, h, _ => by omega
  | k, m + 1, i, v, hk, h, hv => by
    show bits_take_B1 (bits_take_L1 n m) b (v : Int) (i : Int) = _
    unfold bits_take_B1
    by_cases h1 : i < b.length
    · rw [cdp (by omega)]
      by_cases h2 : i < 5
      · obtain ⟨k, rfl⟩ : ∃ k', k = k' + 1 := ⟨k - 1, by omega⟩
        rw [cdp (by omega), cand, cdp (by omega), cdp (by omega), wi64 (x := 7 * (i : Int)) (by omega) (by omega), cdp (by omega)]
        have hd := getD_drop h1
        obtain ⟨x0, x1⟩ := getD_byte hb h1
        rw [hd]
        have ei : (i : Int).toNat = i := rfl
        rw [ei]
        generalize hx : List.getD b i 0 = x at *
        rw [and127 x x0 x1, wi64 (x := x % 128) (by omega) (by omega), wi64 (x := (i : Int) + 1) (by omega) (by omega)]
        have hp : (128 : Nat) ^ i = 2 ^ (7 * i) := by rw [Nat.pow_mul]
        have hp4 : (128 : Nat) ^ i ≤ 268435456 := by
          have := Nat.pow_le_pow_right (n := 128) (by decide) (show i ≤ 4 by omega)
          exact Nat.le_trans this (by decide)
        have e7 : (7 * (i : Int)).toNat = 7 * i := by omega
        have ex : x % 128 = ((x.toNat % 128 : Nat) : Int) := by omega
        have hmul : x.toNat % 128 * 2 ^ (7 * i) ≤ 127 * 268435456 := by
          rw [← hp]; exact Nat.mul_le_mul (by omega) hp4
        rw [e7, ex, orshift v (x.toNat % 128) (7 * i) (by rw [← hp]; exact hv) (by omega) (by omega), ← hp]
        have hmul' : x.toNat % 128 * 128 ^ i ≤ 127 * 268435456 := by rw [hp]; exact hmul
        generalize hw : v + x.toNat % 128 * 128 ^ i = w at *
        by_cases h3 : 128 ≤ x
        · rw [cdp (by omega)]
          have e8 : (i : Int) + 1 = ((i + 1 : Nat) : Int) := by omega
          rw [e8, bits_take_loop n b hb hl k m (i + 1) w (by omega) (by omega) ?_]
          · conv => rhs; unfold decF
            rw [if_pos h3, hw, Nat.pow_succ]
          · rw [Nat.pow_succ, ← hw]
            have : (x.toNat % 128 + 1) * 128 ^ i ≤ 128 * 128 ^ i := Nat.mul_le_mul_right _ (by omega)
            rw [Nat.succ_mul] at this
            omega
        · have exm : x.toNat % 128 = x.toNat := by omega
          rw [exm] at hw
          rw [cdn (by omega)]
          conv => rhs; unfold decF
          rw [if_neg h3, hw]
          have e8 : (i : Int) + 1 = ((i + 1 : Nat) : Int) := by omega
          by_cases h4 : 0 < i
          · rw [cdp (by omega)]
            by_cases h5 : x = 0
            · rw [ceqp h5, if_pos (.inl ⟨h4, h5⟩)]; rfl
            · rw [ceqn h5]
              by_cases h6 : 1073741824 < w
              · rw [cdp (by omega), if_pos (.inr h6)]; rfl
              · rw [cdn (by omega), if_neg (by omega), e8]; rfl
          · rw [cdn (by omega)]
            by_cases h6 : 1073741824 < w
            · rw [cdp (by omega), if_pos (.inr h6)]; rfl
            · rw [cdn (by omega), if_neg (by omega), e8]; rfl
      · rw [cdn (by omega)]
        obtain rfl : k = 0 := by omega
        rfl
    · rw [cdn (by omega), List.drop_eq_nil_of_le (by omega)]
      cases k <;> rfl
def decI (r : Option (Nat × Nat)) : Int × Int × Bool × Unit :=
  match r with
  | some (v, n) => ((v : Int), (n : Int), true, ())
  | none => (0, 0, false, ())
theorem decI_none : decI none = (0, 0, false, ()) := rfl
theorem decI_some (v n : Nat) : decI (some (v, n)) = ((v : Int), (n : Int), true, ()) := rfl
theorem bits_Take_eq' (b : List Int) (hb : isBytes b) (hl : b.length ≤ 4611686018427387904) : bits_Take b = some (decI (dec b), ()) := by
  unfold bits_Take
  have h : bits_take b = some (takeRes (dec b)) := bits_take_loop 1099511627776 b hb hl 5 1099511627776 0 0 rfl (by omega) (by decide)
  rw [h]
  cases dec b with
  | none => rfl
  | some p => rfl
theorem ref_TakeNum_loop (n : Nat) (b : List Int) (hb : isBytes b) (hl : b.length ≤ 4611686018427387904) : ∀ (k m i v : Nat), k + i = 5 → k < m → v < 128 ^ i →
    pleachref10_TakeNum_L1 n m b (v : Int) ((128 ^ i : Nat) : Int) (i : Int) = some (decI (decF k i v (128 ^ i) (b.drop i)), ())
  | k, 0, i, v, _, h, _ => by omega
  | k, m + 1, i, v, hk, h, hv => by
    show pleachref10_TakeNum_B1 (pleachref10_TakeNum_L1 n m) b (v : Int) ((128 ^ i : Nat) : Int) (i : Int) = _
    unfold pleachref10_TakeNum_B1
    by_cases h1 : i < b.length
    · rw [cdp (by omega)]
      by_cases h2 : i < 5
      · obtain ⟨k, rfl⟩ : ∃ k', k = k' + 1 := ⟨k - 1, by omega⟩
        simp only [cand]
        rw [cdp (by omega), cdp (by omega), cdp (by omega), cdp (by omega), cdp (by omega)]
        have hd := getD_drop h1
        obtain ⟨x0, x1⟩ := getD_byte hb h1
        rw [hd]
        have ei : (i : Int).toNat = i := rfl
        rw [ei]
        generalize hx : List.getD b i 0 = x at *
        have hp4 : (128 : Nat) ^ i ≤ 268435456 := by
          have := Nat.pow_le_pow_right (n := 128) (by decide) (show i ≤ 4 by omega)
          exact Nat.le_trans this (by decide)
        have ex : Int.tmod x 128 = ((x.toNat % 128 : Nat) : Int) := by rw [Int.tmod_eq_emod_of_nonneg (by omega)]; omega
        have hmul : x.toNat % 128 * 128 ^ i ≤ 127 * 268435456 := Nat.mul_le_mul (by omega) hp4
        have em : ((x.toNat % 128 : Nat) : Int) * ((128 ^ i : Nat) : Int) = ((x.toNat % 128 * 128 ^ i : Nat) : Int) := (Int.natCast_mul _ _).symm
        rw [ex, wi64 (x := ((x.toNat % 128 : Nat) : Int)) (by omega) (by omega), em, wi64 (x := ((x.toNat % 128 * 128 ^ i : Nat) : Int)) (by omega) (by omega)]
        have ew : (v : Int) + ((x.toNat % 128 * 128 ^ i : Nat) : Int) = ((v + x.toNat % 128 * 128 ^ i : Nat) : Int) := by omega
        rw [ew]
        generalize hw : v + x.toNat % 128 * 128 ^ i = w at *
        rw [wi64 (x := (w : Int)) (by omega) (by omega), wi64 (x := (i : Int) + 1) (by omega) (by omega)]
        have e8 : (i : Int) + 1 = ((i + 1 : Nat) : Int) := by omega
        by_cases h3 : 128 ≤ x
        · rw [cdn (by omega)]
          have e9 : IntKind.wrap .i64 (((128 ^ i : Nat) : Int) * 128) = ((128 ^ (i + 1) : Nat) : Int) := by
            rw [wi64 (by omega) (by omega), Nat.pow_succ, Int.natCast_mul]; rfl
          rw [e8, e9, ref_TakeNum_loop n b hb hl k m (i + 1) w (by omega) (by omega) ?_]
          · conv => rhs; unfold decF
            rw [if_pos h3, hw, Nat.pow_succ]
          · rw [Nat.pow_succ, ← hw]
            have : (x.toNat % 128 + 1) * 128 ^ i ≤ 128 * 128 ^ i := Nat.mul_le_mul_right _ (by omega)
            rw [Nat.succ_mul] at this
            omega
        · have exm : x.toNat % 128 = x.toNat := by omega
          rw [exm] at hw
          rw [cdp (by omega)]
          conv => rhs; unfold decF
          rw [if_neg h3, hw]
          by_cases h4 : 0 < i
          · rw [cdp (by omega), cdp (by omega), cdp (by omega)]
            by_cases h5 : x = 0
            · rw [ceqp h5, if_pos (.inl ⟨h4, h5⟩)]; rfl
            · rw [ceqn h5]
              by_cases h6 : 1073741824 < w
              · rw [cdp (by omega), if_pos (.inr h6)]; rfl
              · rw [cdn (by omega), if_neg (by omega), e8]; rfl
          · rw [cdn (by omega)]
            by_cases h6 : 1073741824 < w
            · rw [cdp (by omega), if_pos (.inr h6)]; rfl
            · rw [cdn (by omega), if_neg (by omega), e8]; rfl
      · rw [cdn (by omega)]
        obtain rfl : k = 0 := by omega
        rfl
    · rw [cdn (by omega), List.drop_eq_nil_of_le (by omega)]
      cases k <;> rfl
theorem ref_TakeNum_eq' (b : List Int) (hb : isBytes b) (hl : b.length ≤ 4611686018427387904) : pleachref10_TakeNum b = some (decI (dec b), ()) :=
  ref_TakeNum_loop 1099511627776 b hb hl 5 1099511627776 0 0 rfl (by omega) (by decide)
theorem decF_le : ∀ (k i v b : Nat) (l : List Int) (w n : Nat), isBytes l → decF k i v b l = some (w, n) → i < n ∧ n ≤ i + k ∧ n ≤ i + l.length ∧ w ≤ 1073741824 ∧ v ≤ w
  | 0, i, v, b, l, w, n, hl, h => by cases h
  | k + 1, i, v, b, [], w, n, hl, h => by cases h
  | k + 1, i, v, b, x :: r, w, n, hl, h => by
    have hx := hl x (List.mem_cons_self ..)
    unfold decF at h
    split at h
    · have := decF_le k (i + 1) _ _ r w n (fun y hy => hl y (List.mem_cons_of_mem _ hy)) h
      simp only [List.length_cons]
      have h0 : 0 ≤ x.toNat % 128 * b := Nat.zero_le _
      omega
    · split at h
      · cases h
      · rename_i hn
        simp only [Option.some.injEq, Prod.mk.injEq] at h
        obtain ⟨rfl, rfl⟩ := h
        simp only [List.length_cons]
        have h0 : 0 ≤ x.toNat * b := Nat.zero_le _
        omega
theorem dec_le {l : List Int} {w n : Nat} (hl : isBytes l) (h : dec l = some (w, n)) : 0 < n ∧ n ≤ 5 ∧ n ≤ l.length ∧ w ≤ 1073741824 := by
  have := decF_le 5 0 0 1 l w n hl h; omega
theorem decF_enc : ∀ (k i v b : Nat) (l : List Int) (w n : Nat), 0 < b → isBytes l → decF k i v b l = some (w, n) →
    ∃ u, w = v + u * b ∧ (0 < i → 0 < u) ∧ l.take (n - i) = encF k u ∧ (∀ j, k ≤ j → encF j u = encF k u)
  | 0, i, v, b, l, w, n, hb, hl, h => by cases h
  | k + 1, i, v, b, [], w, n, hb, hl, h => by cases h
  | k + 1, i, v, b, x :: r, w, n, hb, hl, h => by
    have hx := hl x (List.mem_cons_self ..)
    have hr : isBytes r := fun y hy => hl y (List.mem_cons_of_mem _ hy)
    unfold decF at h
    split at h
    · rename_i h1
      obtain ⟨u, hu, hp, ht, hj⟩ := decF_enc k (i + 1) _ _ r w n (by omega) hr h
      have hn := decF_le k (i + 1) _ _ r w n hr h
      have hu0 := hp (by omega)
      refine ⟨x.toNat % 128 + 128 * u, ?_, fun _ => by omega, ?_, fun j hj' => ?_⟩
      · rw [hu, Nat.add_mul, Nat.add_assoc]
        congr 2
        rw [Nat.mul_comm b 128, ← Nat.mul_assoc, Nat.mul_comm u 128]
      · rw [show n - i = n - (i + 1) + 1 by omega, List.take_succ_cons, ht]
        rw [encF_succ, if_neg (by omega)]
        have e1 : (x.toNat % 128 + 128 * u) / 128 = u := by omega
        have e2 : (((x.toNat % 128 + 128 * u) % 128 + 128 : Nat) : Int) = x := by omega
        rw [e1, e2]
      · obtain ⟨j, rfl⟩ : ∃ j', j = j' + 1 := ⟨j - 1, by omega⟩
        have e1 : (x.toNat % 128 + 128 * u) / 128 = u := by omega
        rw [encF_succ, encF_succ, if_neg (by omega), if_neg (by omega), e1, hj j (by omega)]
    · rename_i h1
      split at h
      · cases h
      · rename_i h2
        simp only [Option.some.injEq, Prod.mk.injEq] at h
        obtain ⟨rfl, rfl⟩ := h
        refine ⟨x.toNat, rfl, fun hi => by omega, ?_, fun j hj' => ?_⟩
        · rw [show i + 1 - i = 0 + 1 by omega, List.take_succ_cons, encF_succ, if_pos (by omega)]
          have : ((x.toNat : Nat) : Int) = x := by omega
          rw [this]; rfl
        · obtain ⟨j, rfl⟩ : ∃ j', j = j' + 1 := ⟨j - 1, by omega⟩
          rw [encF_succ, encF_succ, if_pos (by omega), if_pos (by omega)]
theorem dec_enc {l : List Int} {w n : Nat} (hl : isBytes l) (h : dec l = some (w, n)) : l.take n = enc w := by
  obtain ⟨u, hu, _, ht, hj⟩ := decF_enc 5 0 0 1 l w n (by decide) hl h
  have : u = w := by omega
  subst this
  rw [show n - 0 = n by omega] at ht
  rw [ht, enc, hj 10 (by decide)]
theorem enc_decF : ∀ (k j i v b u : Nat) (r : List Int), k + i = 5 → k ≤ j → u < 128 ^ k → 0 < b → (0 < i → 0 < u) → v + u * b ≤ 1073741824 → decF k i v b (encF j u ++ r) = some (v + u * b, i + (encF j u).length)
  | 0, j, i, v, b, u, r, h5, hj, hu, hb, hi, hw => by
    have : u = 0 := by simpa using hu
    have := hi (by omega)
    omega
  | k + 1, j, i, v, b, u, r, h5, hj, hu, hb, hi, hw => by
    obtain ⟨j, rfl⟩ : ∃ j', j = j' + 1 := ⟨j - 1, by omega⟩
    unfold encF
    by_cases h1 : u < 128
    · rw [if_pos h1, List.singleton_append]
      unfold decF
      have e : ((u : Nat) : Int).toNat = u := rfl
      rw [if_neg (by omega), e, if_neg (by omega)]
      rfl
    · rw [if_neg h1, List.cons_append]
      unfold decF
      have e : (((u % 128 + 128 : Nat) : Int).toNat) % 128 = u % 128 := by omega
      rw [if_pos (by omega), e]
      have e2 : v + u % 128 * b + u / 128 * (b * 128) = v + u * b := by
        have : u * b = (u % 128 + 128 * (u / 128)) * b := by rw [Nat.mod_add_div]
        rw [this, Nat.add_mul, Nat.add_assoc]
        congr 2
        rw [Nat.mul_comm b 128, ← Nat.mul_assoc, Nat.mul_comm (u / 128) 128]
      rw [enc_decF k j (i + 1) _ (b * 128) (u / 128) r (by omega) (by omega) (by rw [Nat.pow_succ] at hu; exact Nat.div_lt_of_lt_mul (by rw [Nat.mul_comm]; exact hu)) (by omega) (fun _ => by omega) (by rw [e2]; exact hw), e2]
      simp only [List.length_cons]
      rw [show i + 1 + (encF j (u / 128)).length = i + ((encF j (u / 128)).length + 1) by omega]
theorem enc_dec (u : Nat) (r : List Int) (h : u ≤ 1073741824) : dec (enc u ++ r) = some (u, (enc u).length) := by
  have := enc_decF 5 10 0 0 1 u r rfl (by decide) (Nat.lt_of_le_of_lt h (by decide)) (by decide) (by omega) (by omega)
  rw [show 0 + u * 1 = u by omega, show 0 + (encF 10 u).length = (encF 10 u).length by omega] at this
  exact this
theorem decF_cut : ∀ (k j i v b u : Nat) (r : List Int), (∃ q, q ≠ [] ∧ r ++ q = encF j u) → decF k i v b r = none
  | 0, j, i, v, b, u, r, h => rfl
  | k + 1, j, i, v, b, u, [], h => rfl
  | k + 1, 0, i, v, b, u, x :: r, ⟨q, hq, e⟩ => by cases e
  | k + 1, j + 1, i, v, b, u, x :: r, ⟨q, hq, e⟩ => by
    rw [encF_succ] at e
    split at e
    · rw [List.cons_append] at e
      have := (List.cons.inj e).2
      exact absurd (List.append_eq_nil_iff.1 this).2 hq
    · rw [List.cons_append] at e
      obtain ⟨e1, e2⟩ := List.cons.inj e
      unfold decF
      rw [if_pos (by omega)]
      exact decF_cut k j _ _ _ (u / 128) r ⟨q, hq, e2⟩
theorem dec_cut (u n : Nat) (h : n < (enc u).length) : dec ((enc u).take n) = none :=
  decF_cut 5 10 0 0 1 u _ ⟨(enc u).drop n, by rw [Ne, List.drop_eq_nil_iff]; omega, List.take_append_drop n _⟩
def decT (l : List Int) : Option (List Int × Nat) :=
  match dec l with
  | some (v, n) => if v ≤ l.length - n then some ((l.drop n).take v, n + v) else none
  | none => none
def decTI (r : Option (List Int × Nat)) : ByteArray × Int × Bool × Unit :=
  match r with
  | some (t, n) => (bytesOf t, (n : Int), true, ())
  | none => (⟨#[]⟩, 0, false, ())
theorem decTI_none : decTI none = (⟨#[]⟩, 0, false, ()) := rfl
theorem decTI_some (t : List Int) (n : Nat) : decTI (some (t, n)) = (bytesOf t, (n : Int), true, ()) := rfl
theorem takeText_eq (b : List Int) (hb : isBytes b) (hl : b.length ≤ 4611686018427387904) {T : Option ((Int × Int × Bool × Unit) × Unit)} (hT : T = some (decI (dec b), ())) :
    (Option.bind T fun (r1 : (Int × Int × Bool × Unit) × Unit) =>
 bif !r1.1.2.2.1 then
  some (((⟨#[]⟩ : ByteArray), (0 : Int), false, ()), ())
 else
 bif decide (r1.1.1 > IntKind.wrap .i64 ((b.length : Int) - r1.1.2.1)) then
  some (((⟨#[]⟩ : ByteArray), (0 : Int), false, ()), ())
 else
 bif (decide (0 ≤ r1.1.2.1) && decide (r1.1.2.1 ≤ IntKind.wrap .i64 (r1.1.2.1 + r1.1.1))) && decide (IntKind.wrap .i64 (r1.1.2.1 + r1.1.1) ≤ (b.length : Int)) then
  some ((bytesOf (List.drop r1.1.2.1.toNat (List.take ((IntKind.wrap .i64 (r1.1.2.1 + r1.1.1)).toNat) b)), IntKind.wrap .i64 (r1.1.2.1 + r1.1.1), true, ()), ())
 else none) = some (decTI (decT b), ()) := by
  subst hT
  unfold decT
  cases hd : dec b with
  | none => rfl
  | some p =>
    obtain ⟨v, n⟩ := p
    obtain ⟨h0, h1, h2, h3⟩ := dec_le hb hd
    simp only [Option.bind_some, decI, Bool.not_true, cond_false]
    rw [wi64 (x := (b.length : Int) - (n : Int)) (by omega) (by omega), wi64 (x := (n : Int) + (v : Int)) (by omega) (by omega)]
    by_cases hc : v ≤ b.length - n
    · rw [cdn (by omega)]
      simp only [cand]
      rw [cdp (by omega), cdp (by omega), cdp (by omega), if_pos hc]
      have e1 : ((n : Int) + (v : Int)).toNat = n + v := by omega
      have e2 : (n : Int).toNat = n := rfl
      rw [e1, e2]
      have e3 : List.drop n (List.take (n + v) b) = List.take v (List.drop n b) := by
        rw [List.take_drop]
      rw [e3]
      simp only [decTI]
      have e4 : (n : Int) + (v : Int) = ((n + v : Nat) : Int) := by omega
      rw [e4]
    · rw [cdp (by omega), if_neg hc]; rfl
theorem bits_TakeText_eq' (b : List Int) (hb : isBytes b) (hl : b.length ≤ 4611686018427387904) : bits_TakeText b = some (decTI (decT b), ()) :=
  takeText_eq b hb hl (bits_Take_eq' b hb hl)
theorem ref_TakeText_eq' (b : List Int) (hb : isBytes b) (hl : b.length ≤ 4611686018427387904) : pleachref10_TakeText b = some (decTI (decT b), ()) :=
  takeText_eq b hb hl (ref_TakeNum_eq' b hb hl)
def encT (t : List Int) : List Int := enc t.length ++ t
theorem decT_enc (t r : List Int) (h : t.length ≤ 1073741824) : decT (encT t ++ r) = some (t, (encT t).length) := by
  unfold decT encT
  rw [List.append_assoc, enc_dec _ _ h]
  simp only [List.length_append]
  rw [if_pos (by omega), List.drop_left, List.take_left]
theorem decT_cut (t : List Int) (n : Nat) (ht : isBytes t) (hl : t.length ≤ 1073741824) (h : n < (encT t).length) : decT ((encT t).take n) = none := by
  unfold decT encT
  by_cases hn : n < (enc t.length).length
  · rw [List.take_append_of_le_length (by omega), dec_cut _ _ hn]
  · have e : (enc t.length ++ t).take n = enc t.length ++ t.take (n - (enc t.length).length) := by
      rw [List.take_append, List.take_of_length_le (by omega)]
    rw [e, enc_dec _ _ hl]
    simp only [List.length_append, List.length_take]
    unfold encT at h
    rw [List.length_append] at h
    rw [if_neg (by omega)]
theorem decT_le {l t : List Int} {n : Nat} (hl : isBytes l) (h : decT l = some (t, n)) : 0 < n ∧ n ≤ l.length ∧ t.length ≤ 1073741824 ∧ isBytes t ∧ l.take n = encT t := by
  unfold decT at h
  cases hd : dec l with
  | none => rw [hd] at h; cases h
  | some p =>
    obtain ⟨v, m⟩ := p
    rw [hd] at h
    simp only at h
    obtain ⟨h0, h1, h2, h3⟩ := dec_le hl hd
    split at h
    · rename_i hc
      simp only [Option.some.injEq, Prod.mk.injEq] at h
      obtain ⟨rfl, rfl⟩ := h
      have hlen : ((l.drop m).take v).length = v := by rw [List.length_take, List.length_drop]; omega
      refine ⟨by omega, by omega, by omega, isBytes_take (isBytes_drop hl m) v, ?_⟩
      unfold encT
      rw [hlen, ← dec_enc hl hd, List.take_add]
    · cases h
end Go.PE
