/-
  Plain lemmas on the functions.
  Conditions: none.
-/
import Derived.Test.YtoidpccakojeaaaOpsAllPDist
set_option linter.unusedVariables false
set_option linter.unusedSimpArgs false
set_option maxRecDepth 20000
namespace Go.PE
theorem okS1 (r : Nat) (s : ByteArray) (hr : r ≤ 1073741824) (hs : s.size ≤ 1000) : OkStep (1, (r : Int), 0, 0, s) := by
  refine (stepP_ok (k := 1) (l := enc r ++ encT (bytes s)) (q := []) (by omega) (isBytes_append.2 ⟨enc_bytes r, isBytes_encT s⟩) (by rw [List.length_append]; have := enc_length r; have := encT_length s; omega) ?_).1
  have tt : otxt (encT (bytes s)) = some (bytes s, []) := by
    have := otxt_enc (bytes s) [] (by rw [bytes_length]; omega); rwa [List.append_nil] at this
  unfold stepP
  rw [if_pos rfl, onum_enc r _ hr]
  dsimp only [Option.bind_some]
  rw [tt]
  dsimp only [Option.bind_some]
  rw [bytesOf_bytes]
theorem nnS (v : Nat) (hv : v ≤ 1073741824) : onum (enc v) = some (v, []) := by
  have := onum_enc v [] hv; rwa [List.append_nil] at this
theorem okS2 (K : Int) (r : Nat) (k2 : K = 2 ∨ K = 3 ∨ K = 5) (hr : r ≤ 1073741824) : OkStep (K, (r : Int), 0, 0, (⟨#[]⟩ : ByteArray)) :=
  (stepP_ok (k := K) (l := enc r) (q := []) (by omega) (enc_bytes r) (by have := enc_length r; omega) (by
    unfold stepP
    rw [if_neg (by omega), if_pos k2, nnS r hr]; rfl)).1
theorem okS4 (s : ByteArray) (hs : s.size ≤ 1000) : OkStep (4, 0, 0, 0, s) := by
  refine (stepP_ok (k := 4) (l := encT (bytes s)) (q := []) (by omega) (isBytes_encT s) (by have := encT_length s; omega) ?_).1
  have tt : otxt (encT (bytes s)) = some (bytes s, []) := by
    have := otxt_enc (bytes s) [] (by rw [bytes_length]; omega); rwa [List.append_nil] at this
  unfold stepP
  rw [if_neg (by omega), if_neg (by omega), if_pos rfl, tt]
  dsimp only [Option.bind_some]
  rw [bytesOf_bytes]
theorem okS9 (i t : Nat) (hi : i ≤ 1073741824) (ht : t ≤ 1073741824) : OkStep (9, 0, (i : Int), (t : Int), (⟨#[]⟩ : ByteArray)) := by
  refine (stepP_ok (k := 9) (l := enc i ++ enc t) (q := []) (by omega) (isBytes_append.2 ⟨enc_bytes i, enc_bytes t⟩) (by rw [List.length_append]; have := enc_length i; have := enc_length t; omega) ?_).1
  unfold stepP
  rw [if_neg (by omega), if_neg (by omega), if_neg (by omega), if_pos rfl, onum_enc i _ hi]
  dsimp only [Option.bind_some]
  rw [nnS t ht]; rfl
theorem okS6 (K : Int) (i : Nat) (k6 : K = 6 ∨ K = 7 ∨ K = 8) (hi : i ≤ 1073741824) : OkStep (K, 0, (i : Int), 0, (⟨#[]⟩ : ByteArray)) := by
  refine (stepP_ok (k := K) (l := enc i) (q := []) (by omega) (enc_bytes i) (by have := enc_length i; omega) ?_).1
  unfold stepP
  rw [if_neg (by omega), if_neg (by omega), if_neg (by omega), if_neg (by omega), nnS i hi]; rfl
theorem refNew_loop (n : Nat) (d : List (List Int)) (h : OkD d) (k0 : Int) : ∀ (k m i : Nat) (acc : List (List Int)), i + k = 8 → k < m → acc = d.take i →
    pleachref7_New_L1 n m d (i : Int) 0 [] [] k0 acc [] = some (((k0, d, []), true, ()), ())
  | k, 0, i, _, _, hm, _ => by omega
  | 0, m + 1, i, acc, hk, hm, ha => by
    show pleachref7_New_B1 (pleachref7_New_L1 n m) d (i : Int) 0 [] [] k0 acc [] = _
    unfold pleachref7_New_B1
    have hl := h.len
    rw [cdn (by omega), ha, List.take_of_length_le (by omega)]
  | k + 1, m + 1, i, acc, hk, hm, ha => by
    show pleachref7_New_B1 (pleachref7_New_L1 n m) d (i : Int) 0 [] [] k0 acc [] = _
    unfold pleachref7_New_B1
    have hl := h.len
    have hr := h.rows i (by omega)
    have hal : acc.length ≤ 8 := by rw [ha, List.length_take]; omega
    rw [cdp (by omega), cand, cdp (by omega), cdp (by omega)]
    dsimp only [toNat_nat]
    rw [cbp (by omega), cbp (by omega), inext (by omega)]
    refine refNew_loop n d h k0 k m (i + 1) _ (by omega) (by omega) ?_
    have hi : i < d.length := by omega
    rw [ha, List.nil_append, getD_at hi, List.take_succ_eq_append_getElem hi]
theorem refNew_eq (d : List (List Int)) (h : OkD d) (k : Int) (hk : 1 ≤ k ∧ k ≤ 3) : pleachref7_New d k = some (((k, d, []), true, ()), ()) := by
  show pleachref7_New_T (pleachref7_New_L1 1099511627776 1099511627776) d k = _
  unfold pleachref7_New_T
  rw [mayDist_eq d h]
  dsimp only [Option.bind_some, nt, cond_false]
  rw [cdn (by omega), cdn (by omega)]
  exact refNew_loop 1099511627776 d h k 8 1099511627776 0 [] rfl (by omega) rfl
theorem refJoin1_rest (d : List (List Int)) (k : Int) : pleachref7_Join_L1 1099511627776 1099511627776 1 0 (IntKind.wrap .i64 (0 - 1)) k d [] 0 [] [] = some (((k, d, [[([1], 1)]]), ()), ()) := by kernel_rfl
theorem refJoin1 (d : List (List Int)) (h : OkD d) (k : Int) : pleachref7_Join (k, d, []) 1 = some (((k, d, [[([1], 1)]]), ()), ()) := by
  show pleachref7_Join_T (pleachref7_Join_L1 1099511627776 1099511627776) (k, d, []) 1 = _
  unfold pleachref7_Join_T
  rw [mayDist_eq d h]
  dsimp only [Option.bind_some, nt, cond_false]
  exact refJoin1_rest d k
theorem pk_world0 {s : List Int × Int} (h : PkOk s) : ∃ w s', pleachmade_Picks_World s = some ((w, ()), (s', ())) ∧ PkOk s' ∧ w.2.1 = [] := by
  obtain ⟨d, s1, e1, hd, h1⟩ := pk_dist h
  obtain ⟨r, s2, e2, hr, h2⟩ := pk_num h1 3 (by omega)
  unfold pleachmade_Picks_World
  rw [e1]; dsimp only [Option.bind_some]
  rw [e2]; dsimp only [Option.bind_some]
  rw [wi64 (x := 1 + (r : Int)) (by omega) (by omega)]
  unfold pleachref21_New
  rw [refNew_eq d hd _ (by omega)]; dsimp only [Option.bind_some, nt, cond_false]
  rw [refJoin1 d hd]; dsimp only [Option.bind_some]
  have e3 : ∃ n ok, pleachref19_Join (false, 0, (⟨#[]⟩ : ByteArray), (0, 0, 0, 0, 0, 0, [], 0, 0, 0, 0, 0, []), (0, 0, [], [], [], 0, 0), 0) 1 (⟨#[114, 111, 111, 116]⟩ : ByteArray) 0 = some ((n, ok, ()), ()) := ⟨(true, 1, (⟨#[114, 111, 111, 116]⟩ : ByteArray), (1, 1, 0, 0, 0, 0, [1], 0, 0, 0, 0, 0, []), (0, 0, [], [], [], 0, 0), 0), true, by kernel_rfl⟩
  obtain ⟨n, ok, e3⟩ := e3
  rw [e3]
  exact ⟨_, s2, rfl, h2, rfl⟩
theorem pk_step0 {s : List Int × Int} (h : PkOk s) (w) (hw : w.2.1 = []) : ∃ x s', pleachmade_Picks_Step s w = some ((x, ()), (s', ())) ∧ PkOk s' ∧ OkStep x ∧ x.2.2.2.2.size ≤ 1000 := by
  obtain ⟨r, s1, e1, hr, h1⟩ := pk_num h 8 (by omega)
  obtain ⟨n, s2, e2, hn, h2⟩ := pk_num h1 24 (by omega)
  unfold pleachmade_Picks_Step
  rw [e1]; dsimp only [Option.bind_some]
  rw [e2]; dsimp only [Option.bind_some]
  rw [wi64 (x := 1 + (r : Int)) (by omega) (by omega), hw]
  have er : (1 + (r : Int)) = ((1 + r : Nat) : Int) := by omega
  have em : IntKind.wrap .i64 ((if 200 < ((([] : List (Int × ByteArray × Bool)).length : Nat) : Int) then 200 else ((([] : List (Int × ByteArray × Bool)).length : Nat) : Int)) + 1) = 1 := by kernel_rfl
  rw [em, er]
  by_cases n1 : (n : Int) < 3
  · rw [cdp n1]
    obtain ⟨q, s3, e3, hq, h3⟩ := pk_num h2 4 (by omega)
    rw [e3]; dsimp only [Option.bind_some]
    rw [cand, cdp (by omega), cdp (by omega), cand, cdp (by omega), cdp (by omega)]
    have hz : (List.getD [(⟨#[97, 110, 110]⟩ : ByteArray), (⟨#[98, 195, 182, 98]⟩ : ByteArray), (⟨#[230, 151, 165, 230, 156, 172]⟩ : ByteArray), (⟨#[]⟩ : ByteArray)] (q : Int).toNat (⟨#[]⟩ : ByteArray)).size ≤ 1000 := by
      rw [toNat_nat]
      have : q = 0 ∨ q = 1 ∨ q = 2 ∨ q = 3 := by omega
      rcases this with rfl | rfl | rfl | rfl <;> decide
    exact ⟨_, s3, rfl, h3, okS1 _ _ (by omega) hz, hz⟩
  rw [cdn n1]
  by_cases n2 : (n : Int) = 3
  · rw [ceqp n2]; exact ⟨_, s2, rfl, h2, okS2 2 _ (by omega) (by omega), (by decide : (0 : Nat) ≤ 1000)⟩
  rw [ceqn n2]
  by_cases n3 : (n : Int) = 4
  · rw [ceqp n3]; exact ⟨_, s2, rfl, h2, okS2 3 _ (by omega) (by omega), (by decide : (0 : Nat) ≤ 1000)⟩
  rw [ceqn n3]
  by_cases n4 : (n : Int) < 7
  · rw [cdp n4]
    obtain ⟨t, s3, e3, ht, h3⟩ := pk_text h2
    rw [e3]; dsimp only [Option.bind_some]
    exact ⟨_, s3, rfl, h3, okS4 t (by omega), (by omega : t.size ≤ 1000)⟩
  rw [cdn n4]
  by_cases n5 : (n : Int) < 13
  · rw [cdp n5]; exact ⟨_, s2, rfl, h2, okS2 5 _ (by omega) (by omega), (by decide : (0 : Nat) ≤ 1000)⟩
  rw [cdn n5]
  obtain ⟨i, s3, e3, hi, h3⟩ := pk_num h2 1 (by omega)
  by_cases n6 : (n : Int) < 20
  · rw [cdp n6, e3]; dsimp only [Option.bind_some]
    exact ⟨_, s3, rfl, h3, okS6 6 _ (by omega) (by omega), (by decide : (0 : Nat) ≤ 1000)⟩
  rw [cdn n6]
  by_cases n7 : (n : Int) = 20
  · rw [ceqp n7, e3]; dsimp only [Option.bind_some]
    exact ⟨_, s3, rfl, h3, okS6 7 _ (by omega) (by omega), (by decide : (0 : Nat) ≤ 1000)⟩
  rw [ceqn n7]
  by_cases n8 : (n : Int) = 21
  · rw [ceqp n8, e3]; dsimp only [Option.bind_some]
    exact ⟨_, s3, rfl, h3, okS6 8 _ (by omega) (by omega), (by decide : (0 : Nat) ≤ 1000)⟩
  rw [ceqn n8]
  by_cases n9 : (n : Int) = 22
  · rw [ceqp n9, e3]; dsimp only [Option.bind_some]
    obtain ⟨p, s4, e4, hp, h4⟩ := pk_num h3 40 (by omega)
    rw [e4]; dsimp only [Option.bind_some]
    obtain ⟨q, s5, e5, hq, h5⟩ := pk_num h4 255 (by omega)
    rw [e5]; dsimp only [Option.bind_some]
    rw [wi64 (x := (p : Int) * 256) (by omega) (by omega), wi64 (x := (p : Int) * 256 + 1) (by omega) (by omega), wi64 (x := (p : Int) * 256 + 1 + (q : Int)) (by omega) (by omega)]
    have e6 : (p : Int) * 256 + 1 + (q : Int) = ((p * 256 + 1 + q : Nat) : Int) := by omega
    rw [e6]
    exact ⟨_, s5, rfl, h5, okS9 _ _ (by omega) (by omega), (by decide : (0 : Nat) ≤ 1000)⟩
  rw [ceqn n9]
  exact ⟨_, s2, rfl, h2, okS2 5 _ (by omega) (by omega), (by decide : (0 : Nat) ≤ 1000)⟩
theorem opsAll_end (b : List Int) (hb : isBytes b) (lb : b.length ≤ 200) (l made : List StepV) (hl : l.length ≤ 10) (hw : ∀ s ∈ l, wfStep s ∧ s.2.2.2.2.size ≤ 1000) (hm : made.length ≤ 20) (ho : ∀ s ∈ made, OkStep s ∧ s.2.2.2.2.size ≤ 1000) :
  (Option.bind (ops_Take b) fun (r42 : ((List StepV) × Unit) × Unit) =>
  Option.bind (pleachref10_TakeSteps b) fun (r43 : ((List StepV) × Unit) × Unit) =>
  Option.bind (pleachref10_SameSteps r42.1.1 r43.1.1) fun (r44 : (Bool × Unit) × Unit) =>
  bif r44.1.1 then
   Option.bind (ops_Put l) fun (r45 : ((List Int) × Unit) × Unit) =>
   Option.bind (pleachref10_PutSteps l) fun (r46 : ((List Int) × Unit) × Unit) =>
   bif strEq (bytesOf r45.1.1) (bytesOf r46.1.1) then
    Option.bind (ops_Put made) fun (r47 : ((List Int) × Unit) × Unit) =>
    Option.bind (ops_Take r47.1.1) fun (r48 : ((List StepV) × Unit) × Unit) =>
    Option.bind (pleachref10_SameSteps r48.1.1 made) fun (r49 : (Bool × Unit) × Unit) =>
    some ((r49.1.1, ()), ())
   else
    some ((false, ()), ())
  else
   some ((false, ()), ())) = some ((true, ()), ()) := by
  have l1 := takeS_length b
  have okw : ∀ s ∈ made, OkStep s := fun s hs => (ho s hs).1
  have l2 := putAll_length made (fun s hs => (okw s hs).wf)
  have t1 : takeS (putAll made) = made := by
    have := takeS_all made [] okw (fun x hx => by cases hx)
    rwa [List.append_nil, takeS_nil, List.append_nil] at this
  have l3 : (putAll made).length ≤ made.length * 1030 := by
    clear t1 l2 hm
    induction made with
    | nil => simp [putAll]
    | cons s r ih =>
      have h1 := put1?_length s
      have h2 := (ho s (List.mem_cons_self ..)).2
      have h3 := ih (fun t ht => ho t (List.mem_cons_of_mem _ ht)) (fun t ht => okw t (List.mem_cons_of_mem _ ht))
      have e : putAll (s :: r) = put1? s ++ putAll r := rfl
      rw [e, List.length_append, List.length_cons]; omega
  rw [ops_Take_eq' b hb (by omega), ref_TakeSteps_eq' b hb (by omega)]
  dsimp only [Option.bind_some]
  rw [same_eq' _ _ (by omega) (by omega)]
  dsimp only [Option.bind_some]
  rw [cdp rfl, ops_Put_eq' l (fun s hs => (hw s hs).1) (by omega), ref_PutSteps_eq' l hw (by omega)]
  dsimp only [Option.bind_some]
  rw [strEq_self, cond_true, ops_Put_eq' made (fun s hs => (okw s hs).wf) (by omega)]
  dsimp only [Option.bind_some]
  rw [ops_Take_eq' _ (putAll_bytes made) (by omega), t1]
  dsimp only [Option.bind_some]
  rw [same_eq' _ _ (by omega) (by omega)]
  dsimp only [Option.bind_some]
  rw [decide_eq_true rfl]
theorem opsAll_L3 (n : Nat) (b : List Int) (hb : isBytes b) (lb : b.length ≤ 200) (l : List StepV) (hl : l.length ≤ 10) (hw : ∀ s ∈ l, wfStep s ∧ s.2.2.2.2.size ≤ 1000) (a1 a3 a4 a5 a6) :
    ∀ (k m i : Nat) (s : List Int × Int) (made : List StepV), i + k = 20 → k < m → PkOk s → made.length = i → (∀ s ∈ made, OkStep s ∧ s.2.2.2.2.size ≤ 1000) →
    pleachlaw25_OpsAll_L3 n m b l (i : Int) s.1 s.2 a1 [] a3 a4 a5 a6 made = some ((true, ()), ())
  | k, 0, i, _, _, _, hm, _, _, _ => by omega
  | 0, m + 1, i, s, made, hk, hm, hp, hl2, ho => by
    show pleachlaw25_OpsAll_B3 (pleachlaw25_OpsAll_L3 n m) b l (i : Int) s.1 s.2 a1 [] a3 a4 a5 a6 made = _
    unfold pleachlaw25_OpsAll_B3
    rw [cdn (by omega)]
    exact opsAll_end b hb lb l made hl hw (by omega) ho
  | k + 1, m + 1, i, s, made, hk, hm, hp, hl2, ho => by
    show pleachlaw25_OpsAll_B3 (pleachlaw25_OpsAll_L3 n m) b l (i : Int) s.1 s.2 a1 [] a3 a4 a5 a6 made = _
    unfold pleachlaw25_OpsAll_B3
    obtain ⟨x, s', e, h1, h2, h3⟩ := pk_step0 hp (a1, [], a3, a4, a5, a6) rfl
    rw [cdp (by omega), show ((s.1, s.2) : List Int × Int) = s from rfl, e]
    dsimp only [Option.bind_some]
    rw [cbp (by omega), inext (by omega)]
    exact opsAll_L3 n b hb lb l hl hw a1 a3 a4 a5 a6 k m (i + 1) s' (made ++ [x]) (by omega) (by omega) h1 (by simp; omega) (fun t ht => by
      rcases List.mem_append.1 ht with ht | ht
      · exact ho t ht
      · rw [List.mem_singleton.1 ht]; exact ⟨h2, h3⟩)
theorem opsAll_L1 (n : Nat) (b : List Int) (hb : isBytes b) (lb : b.length ≤ 200) (picks : List Int) (hp : isBytes picks) (lp : picks.length ≤ 100) (l : List StepV) (hl : l.length ≤ 10) (hw : ∀ s ∈ l, (s.2.2.2.2.size ≤ 100 → wfStep s)) (hn : 30 ≤ n) :
    ∀ (k m i : Nat), i + k = l.length → k < m → (∀ s ∈ l.take i, s.2.2.2.2.size ≤ 100) →
    pleachlaw25_OpsAll_L1 n m b l picks (i : Int) = some ((true, ()), ())
  | k, 0, i, _, hm, _ => by omega
  | 0, m + 1, i, hk, hm, ht => by
    show pleachlaw25_OpsAll_B1 (pleachlaw25_OpsAll_L1 n m) (pleachlaw25_OpsAll_L2 n n) b l picks (i : Int) = _
    unfold pleachlaw25_OpsAll_B1
    rw [List.take_of_length_le (by omega)] at ht
    have hw2 : ∀ s ∈ l, wfStep s ∧ s.2.2.2.2.size ≤ 1000 := fun s hs => ⟨hw s hs (ht s hs), Nat.le_trans (ht s hs) (by omega)⟩
    obtain ⟨w, s', e, h1, h2⟩ := pk_world0 (pk_made hp (by omega))
    have em : pleachmade_Made picks = some ((((picks, 0), ()), ())) := rfl
    rw [cdn (by omega), em]
    dsimp only [Option.bind_some]
    rw [e]
    dsimp only [Option.bind_some]
    rw [h2]
    cases n with
    | zero => omega
    | succ q =>
    show pleachlaw25_OpsAll_B2 (pleachlaw25_OpsAll_L3 (q + 1) q) b l 0 s'.1 s'.2 _ _ _ _ [] _ [] = _
    unfold pleachlaw25_OpsAll_B2
    obtain ⟨x, s2, e2, g1, g2, g3⟩ := pk_step0 h1 (w.1, [], w.2.2.1, w.2.2.2.1, w.2.2.2.2.1, w.2.2.2.2.2) rfl
    rw [cdp (by omega), show ((s'.1, s'.2) : List Int × Int) = s' from rfl, e2]
    dsimp only [Option.bind_some]
    rw [cbp (by simp)]
    exact opsAll_L3 (q + 1) b hb lb l hl hw2 _ _ _ _ _ 19 q 1 s2 ([] ++ [x]) rfl (by omega) g1 rfl (fun t ht => by
      rw [List.nil_append, List.mem_singleton] at ht; rw [ht]; exact ⟨g2, g3⟩)
  | k + 1, m + 1, i, hk, hm, ht => by
    show pleachlaw25_OpsAll_B1 (pleachlaw25_OpsAll_L1 n m) (pleachlaw25_OpsAll_L2 n n) b l picks (i : Int) = _
    unfold pleachlaw25_OpsAll_B1
    have hi : i < l.length := by omega
    rw [cdp (by omega), cand, cdp (by omega), cdp (by omega)]
    have eg : List.getD l (i : Int).toNat (0, 0, 0, 0, (⟨#[]⟩ : ByteArray)) = l[i] := getD_at hi _
    by_cases hx : ((((List.getD l (i : Int).toNat (0, 0, 0, 0, (⟨#[]⟩ : ByteArray))).2).2).2).2.size ≤ 100
    · rw [cdn (by omega), inext (by omega)]
      refine opsAll_L1 n b hb lb picks hp lp l hl hw hn k m (i + 1) (by omega) (by omega) (fun s hs => ?_)
      rw [List.take_succ_eq_append_getElem hi] at hs
      rcases List.mem_append.1 hs with hs | hs
      · exact ht s hs
      · rw [List.mem_singleton.1 hs, ← eg]; exact hx
    · rw [cdp (by omega)]
theorem pleachlaw25_OpsAll_true {N M Q : Nat} (b : List Int) (l : List StepV) (picks : List Int)
    (h : wfPs [.val (.sl N (.int .u8)), .val (.sl M (.pair (.int .i64) (.pair (.int .i64) (.pair (.int .i64) (.pair (.int .i64) .str))))), .val (.sl Q (.int .u8))] (b, l, picks, ())) :
    pleachlaw25_OpsAll b l picks = some ((true, ()), ()) := by
  obtain ⟨hb, hl, hp, _⟩ := h
  have hb := wf_sl8o hb
  have hp := wf_sl8o hp
  show pleachlaw25_OpsAll_T (pleachlaw25_OpsAll_L1 1099511627776 1099511627776) b l picks = _
  unfold pleachlaw25_OpsAll_T
  rw [begun25]
  dsimp only [Option.bind_some, nt, cond_false]
  by_cases g1 : (b.length : Int) > 200
  · rw [cdp g1]
  by_cases g2 : (l.length : Int) > 10
  · rw [cdn g1, cdp g2]
  by_cases g3 : (picks.length : Int) > 100
  · rw [cdn g1, cdn g2, cdp g3]
  rw [cdn g1, cdn g2, cdn g3]
  refine opsAll_L1 1099511627776 b hb (by omega) picks hp (by omega) l (by omega) (fun s hs hz => ?_) (by omega) l.length 1099511627776 0 (by omega) (by omega) (fun s hs => by simp at hs)
  obtain ⟨w1, w2, w3, w4, w5⟩ := hl.2 s hs
  exact ⟨wf_i64.1 w1, wf_i64.1 w2, wf_i64.1 w3, wf_i64.1 w4, Nat.le_trans hz (by omega)⟩
end Go.PE
