/-
  Plain lemmas on the functions.
  Conditions: none.
-/
import Derived.Test.YtoidpccakojeaaaMsgAllPMsg
set_option linter.unusedVariables false
set_option linter.unusedSimpArgs false
set_option maxRecDepth 20000
namespace Go.PE
theorem walkOk_all : ∀ (p s : List Int), walkOk s p = true → ∀ x ∈ p, 1 ≤ x ∧ x ≤ 8
  | [], _, _, x, hx => by cases hx
  | y :: r, s, h, x, hx => by
    unfold walkOk at h
    rw [Bool.and_eq_true, Bool.and_eq_true] at h
    rcases List.mem_cons.1 hx with rfl | hx
    · exact inR_iff.1 h.1.1
    · exact walkOk_all r _ h.2 x hx
theorem mayPath_all {p : List Int} (h : mayPath p = true) : p.length ≤ 10 ∧ ∀ x ∈ p, 1 ≤ x ∧ x ≤ 8 := by
  unfold mayPath at h
  simp only [Bool.and_eq_true, decide_eq_true_eq] at h
  exact ⟨h.2.1, walkOk_all p [] h.2.2.2⟩
structure OkM (m : MsgV) : Prop where
  kd : 1 ≤ m.kd ∧ m.kd ≤ 9
  fr : 1 ≤ m.fr ∧ m.fr ≤ 8
  to : 1 ≤ m.to ∧ m.to ≤ 8
  inc : 1 ≤ m.inc ∧ m.inc ≤ 1073741824
  ep : 0 ≤ m.ep ∧ m.ep ≤ 1073741824
  ag : 0 ≤ m.ag ∧ m.ag ≤ 1073741824
  pl : m.pa.length ≤ 10
  pa : ∀ x ∈ m.pa, 1 ≤ x ∧ x ≤ 8
  lo : 0 ≤ m.lo ∧ m.lo ≤ 1000000
  hi : 0 ≤ m.hi ∧ m.hi ≤ 1000000
  tx : m.tx.size ≤ 12
theorem mayP_ok {m : MsgV} (h : mayP m = true) : OkM m := by
  unfold mayP at h
  simp only [Bool.and_eq_true, bne_iff_ne] at h
  obtain ⟨h1, ⟨h2, h3⟩, h4, h5, h6⟩ := h
  have eb0 : eb.size = 0 := rfl
  obtain ⟨kd, fr, to, inc, ep, ag, pa, lo, hi, tx⟩ := m
  unfold fieldsP at h6
  by_cases k2 : kd = 2
  · rw [if_pos k2] at h6
    simp only [Bool.and_eq_true, eqM_iff, Prod.mk.injEq, MsgV.ep, MsgV.ag, MsgV.pa, MsgV.lo, MsgV.hi] at h6
    obtain ⟨⟨a1, a2⟩, a3, a4, a5⟩ := h6
    have ⟨p1, p2⟩ := mayPath_all a3
    have e9 := a5.2.2.2.2.2.2.2.2.1; have e10 := a5.2.2.2.2.2.2.2.2.2
    exact ⟨inR_iff.1 h1, inR_iff.1 h2, inR_iff.1 h3, inR_iff.1 h5, inR_iff.1 a1, inR_iff.1 a2, p1, p2, inR_iff.1 a4, by show 0 ≤ hi ∧ hi ≤ 1000000; omega, by show tx.size ≤ 12; rw [e10, eb0]; omega⟩
  rw [if_neg k2] at h6
  by_cases k5 : kd = 5
  · rw [if_pos k5] at h6
    simp only [Bool.and_eq_true, eqM_iff, Prod.mk.injEq, MsgV.ep, MsgV.ag, MsgV.pa, MsgV.lo, MsgV.hi] at h6
    obtain ⟨⟨a1, a2⟩, a3, a4, a5⟩ := h6
    have ⟨p1, p2⟩ := mayPath_all a3
    have e8 := a5.2.2.2.2.2.2.2.1; have e10 := a5.2.2.2.2.2.2.2.2.2
    exact ⟨inR_iff.1 h1, inR_iff.1 h2, inR_iff.1 h3, inR_iff.1 h5, inR_iff.1 a1, inR_iff.1 a2, p1, p2, by show 0 ≤ lo ∧ lo ≤ 1000000; omega, inR_iff.1 a4, by show tx.size ≤ 12; rw [e10, eb0]; omega⟩
  rw [if_neg k5] at h6
  by_cases k7 : kd = 7
  · rw [if_pos k7] at h6
    simp only [Bool.and_eq_true, eqM_iff, Prod.mk.injEq, MsgV.ep, MsgV.ag, MsgV.pa, MsgV.lo, MsgV.hi, MsgV.tx, decide_eq_true_eq] at h6
    obtain ⟨a1, a2, a5⟩ := h6
    have a1 := inR_iff.1 a1
    have e5 := a5.2.2.2.2.1; have e6 := a5.2.2.2.2.2.1; have e7 := a5.2.2.2.2.2.2.1; have e9 := a5.2.2.2.2.2.2.2.2.1
    subst e7
    exact ⟨inR_iff.1 h1, inR_iff.1 h2, inR_iff.1 h3, inR_iff.1 h5, by show 0 ≤ ep ∧ ep ≤ _; omega, by show 0 ≤ ag ∧ ag ≤ _; omega, by simp [MsgV.pa], by intro x hx; simp [MsgV.pa] at hx, by show 0 ≤ lo ∧ lo ≤ 1000000; omega, by show 0 ≤ hi ∧ hi ≤ _; omega, by show tx.size ≤ 12; have a2 : (tx.size : Int) ≤ 12 := of_decide_eq_true a2; omega⟩
  rw [if_neg k7] at h6
  by_cases k8 : kd = 8 ∨ kd = 9
  · rw [if_pos k8] at h6
    simp only [Bool.and_eq_true, eqM_iff, Prod.mk.injEq, MsgV.ep, MsgV.ag, MsgV.pa, MsgV.lo, MsgV.hi, MsgV.tx, decide_eq_true_eq] at h6
    obtain ⟨a0, ⟨a1, a2⟩, a5⟩ := h6
    have a1 := inR_iff.1 a1; have a2 := inR_iff.1 a2
    have e5 := a5.2.2.2.2.1; have e6 := a5.2.2.2.2.2.1; have e7 := a5.2.2.2.2.2.2.1; have e10 := a5.2.2.2.2.2.2.2.2.2
    subst e7
    exact ⟨inR_iff.1 h1, inR_iff.1 h2, inR_iff.1 h3, inR_iff.1 h5, by show 0 ≤ ep ∧ ep ≤ _; omega, by show 0 ≤ ag ∧ ag ≤ _; omega, by simp [MsgV.pa], by intro x hx; simp [MsgV.pa] at hx, by show 0 ≤ lo ∧ lo ≤ 1000000; omega, by show 0 ≤ hi ∧ hi ≤ _; omega, by show tx.size ≤ 12; rw [e10, eb0]; omega⟩
  rw [if_neg k8] at h6
  simp only [eqM_iff, Prod.mk.injEq] at h6
  have e5 := h6.2.2.2.2.1; have e6 := h6.2.2.2.2.2.1; have e7 := h6.2.2.2.2.2.2.1; have e8 := h6.2.2.2.2.2.2.2.1; have e9 := h6.2.2.2.2.2.2.2.2.1; have e10 := h6.2.2.2.2.2.2.2.2.2
  subst e7
  exact ⟨inR_iff.1 h1, inR_iff.1 h2, inR_iff.1 h3, inR_iff.1 h5, by show 0 ≤ ep ∧ ep ≤ _; omega, by show 0 ≤ ag ∧ ag ≤ _; omega, by simp [MsgV.pa], by intro x hx; simp [MsgV.pa] at hx, by show 0 ≤ lo ∧ lo ≤ 1000000; omega, by show 0 ≤ hi ∧ hi ≤ _; omega, by show tx.size ≤ 12; rw [e10, eb0]; omega⟩
def encI (x : Int) : List Int := enc x.toNat
def encs : List Int → List Int
  | [] => []
  | x :: r => encI x ++ encs r
theorem encs_app : ∀ (a b : List Int), encs (a ++ b) = encs a ++ encs b
  | [], b => rfl
  | x :: r, b => by show encI x ++ encs (r ++ b) = _; rw [encs_app r b, ← List.append_assoc]; rfl
theorem encs_length : ∀ (a : List Int), (encs a).length ≤ 10 * a.length
  | [] => by simp [encs]
  | x :: r => by
    show (encI x ++ encs r).length ≤ _
    rw [List.length_append, List.length_cons]
    have := encs_length r; have := enc_length x.toNat
    unfold encI
    omega
theorem encs_bytes : ∀ (a : List Int), isBytes (encs a)
  | [] => by intro x hx; cases hx
  | x :: r => isBytes_append.2 ⟨enc_bytes _, encs_bytes r⟩
def numsM (m : MsgV) : List Int := ([m.kd, m.fr, m.to, m.inc, m.ep, m.ag, (m.pa.length : Int)] ++ m.pa) ++ [m.lo, m.hi]
def body (m : MsgV) : List Int := encs (numsM m) ++ encT (bytes m.tx)
def putM (m : MsgV) : List Int := if mayP m = true then body m ++ tail4 (crcV (body m)) else []
theorem encT_bytes {t : List Int} (h : isBytes t) : isBytes (encT t) := isBytes_append.2 ⟨enc_bytes _, h⟩
theorem body_bytes (m : MsgV) : isBytes (body m) := isBytes_append.2 ⟨encs_bytes _, encT_bytes (isBytes_bytes _)⟩
theorem OkM.nums {m : MsgV} (h : OkM m) : (numsM m).length = m.pa.length + 9 ∧ ∀ x ∈ numsM m, 0 ≤ x ∧ x ≤ 1073741824 := by
  refine ⟨by simp [numsM, MsgV.pa], ?_⟩
  intro x hx
  unfold numsM at hx
  simp only [List.mem_append, List.mem_cons, List.not_mem_nil, or_false] at hx
  have := h.kd; have := h.fr; have := h.to; have := h.inc; have := h.ep; have := h.ag; have := h.pl; have := h.lo; have := h.hi
  rcases hx with (hx | hx) | hx
  · omega
  · have := h.pa x hx; omega
  · omega
theorem OkM.body_len {m : MsgV} (h : OkM m) : (body m).length ≤ 1000 := by
  unfold body encT
  rw [List.length_append, List.length_append]
  have h1 := encs_length (numsM m); have h2 := h.nums.1; have h3 := enc_length (bytes m.tx).length; have h4 := bytes_length m.tx
  have := h.pl; have := h.tx
  omega
theorem putM_bytes (m : MsgV) : isBytes (putM m) := by
  unfold putM; split
  · exact isBytes_append.2 ⟨body_bytes m, tail4_bytes _⟩
  · intro x hx; cases hx
theorem tail4_len (s : Nat) : (tail4 s).length = 4 := rfl
theorem putM_len (m : MsgV) : (putM m).length ≤ 1004 := by
  unfold putM; split
  · rename_i h; have := (mayP_ok h).body_len; rw [List.length_append, tail4_len]; omega
  · simp
theorem msg_Put_loop (n : Nat) (tx : ByteArray) (ht : tx.size ≤ 100) (l : List Int) (hl : ∀ x ∈ l, 0 ≤ x ∧ x ≤ 1073741824) (h6 : l.length ≤ 1000) (a b c d e f : Int) (p : List Int) (g j : Int) : ∀ (k m i : Nat) (xs : List Int), isBytes xs → i + k = l.length → k < m → xs.length + 10 * k ≤ 100000 →
    msg_Put_L1 n m (l.length : Int) (i : Int) a b c d e f p g j tx xs l = some ((xs ++ encs (l.drop i) ++ encT (bytes tx) ++ tail4 (crcV (xs ++ encs (l.drop i) ++ encT (bytes tx))), ()), ())
  | k, 0, i, xs, _, _, h, _ => by omega
  | 0, m + 1, i, xs, hb, hk, h, hx => by
    show msg_Put_B1 (msg_Put_L1 n m) (l.length : Int) (i : Int) a b c d e f p g j tx xs l = _
    unfold msg_Put_B1
    have hlen : (xs ++ encT (bytes tx)).length ≤ 200000 := by
      unfold encT
      rw [List.length_append, List.length_append]; have := enc_length (bytes tx).length; have := bytes_length tx; omega
    have hby : isBytes (xs ++ encT (bytes tx)) := isBytes_append.2 ⟨hb, encT_bytes (isBytes_bytes _)⟩
    have e0 : xs ++ (enc tx.size ++ bytes tx) = xs ++ encT (bytes tx) := by unfold encT; rw [bytes_length]
    rw [cdn (by omega), bits_PutText_eq' xs tx (by omega) (by omega), List.drop_eq_nil_of_le (by omega), e0]
    dsimp only [Option.bind_some]
    rw [crc_eq _ hby (by omega)]
    dsimp only [Option.bind_some]
    rw [cbp (by omega), tail4_eq (crcV_lt hby)]
    simp only [encs, List.append_nil]
  | k + 1, m + 1, i, xs, hb, hk, h, hx => by
    show msg_Put_B1 (msg_Put_L1 n m) (l.length : Int) (i : Int) a b c d e f p g j tx xs l = _
    unfold msg_Put_B1
    have hi : i < l.length := by omega
    have hv := hl l[i] (List.getElem_mem hi)
    rw [cdp (by omega), cand, cdp (by omega), cdp (by omega), cand, cdp (by omega), cdp (by omega), toNat_nat, getD_at hi, List.drop_eq_getElem_cons hi]
    generalize l[i] = x at *
    obtain ⟨x, rfl⟩ : ∃ y : Nat, x = (y : Int) := ⟨x.toNat, by omega⟩
    rw [bits_Put_eq' xs x (by omega) (by omega)]
    dsimp only [Option.bind_some]
    have := enc_length x
    rw [inext (by omega), msg_Put_loop n tx ht l hl h6 a b c d e f p g j k m (i + 1) (xs ++ enc x) (isBytes_append.2 ⟨hb, enc_bytes x⟩) (by omega) (by omega) (by rw [List.length_append]; omega)]
    have e1 : xs ++ enc x ++ encs (l.drop (i + 1)) = xs ++ encs ((x : Int) :: l.drop (i + 1)) := by rw [List.append_assoc]; rfl
    rw [e1]
theorem msg_Put_eq' (m : MsgV) (h6 : m.pa.length ≤ 1000000000) : msg_Put m = some ((putM m, ()), ()) := by
  show msg_Put_T (msg_Put_L1 1099511627776 1099511627776) m = _
  unfold msg_Put_T
  rw [msg_May_eq' m h6]
  dsimp only [Option.bind_some]
  unfold putM
  cases hm : mayP m with
  | false => rfl
  | true =>
    have ho := mayP_ok hm
    have hp : m.2.2.2.2.2.2.1.length ≤ 10 := ho.pl
    have h1 := msg_Put_loop 1099511627776 m.tx (by have := ho.tx; omega) (numsM m) ho.nums.2 (by have := ho.nums.1; have := ho.pl; omega) m.1 m.2.1 m.2.2.1 m.2.2.2.1 m.2.2.2.2.1 m.2.2.2.2.2.1 m.2.2.2.2.2.2.1 m.2.2.2.2.2.2.2.1 m.2.2.2.2.2.2.2.2.1 (numsM m).length 1099511627776 0 [] (by intro x hx; cases hx) (by omega) (by have := ho.nums.1; have := ho.pl; omega) (by have := ho.nums.1; have := ho.pl; simp; omega)
    rw [nt, if_pos rfl]
    simp only [cond_false]
    rw [cbp (by omega), cbp (by rw [List.length_append]; simp; omega)]
    rw [List.drop_zero] at h1
    exact h1
def numP (o : Option (List Int)) : Nat × Option (List Int) :=
  match o with
  | none => (0, none)
  | some l => match dec l with
    | none => (0, none)
    | some (v, n) => (v, some (l.drop n))
def textP (o : Option (List Int)) : ByteArray × Option (List Int) :=
  match o with
  | none => (⟨#[]⟩, none)
  | some l => match decT l with
    | none => (⟨#[]⟩, none)
    | some (t, n) => (bytesOf t, some (l.drop n))
def stepsP : Nat → Option (List Int) → List Int → List Int × Option (List Int)
  | 0, o, acc => (acc, o)
  | k + 1, none, acc => (acc, none)
  | k + 1, some l, acc => stepsP k (numP (some l)).2 (acc ++ [((numP (some l)).1 : Int)])
structure RS (s : List Int × IV) (o : Option (List Int)) : Prop where
  by' : isBytes s.1
  len : s.1.length ≤ 1000000000
  is' : match o with | some l => s.1 = l ∧ s.2 = IV.nil | none => ∃ a, s.2 = IV.mk 112 a
theorem reader_num {s : List Int × IV} {o : Option (List Int)} (h : RS s o) (what : ByteArray) :
    ∃ s', msg_reader_num s what = some ((((numP o).1 : Int), ()), (s', ())) ∧ RS s' (numP o).2 := by
  obtain ⟨hb, hl, hs⟩ := h
  obtain ⟨l, e⟩ := s
  cases o with
  | none =>
    obtain ⟨a, rfl⟩ := hs
    exact ⟨_, rfl, hb, hl, a, rfl⟩
  | some l' =>
    obtain ⟨h1, h2⟩ := hs
    simp only at h1 h2 hb hl
    subst h1 h2
    have eT := bits_Take_eq' l hb (by omega)
    have e1 : ((l.length : Int)).toNat = l.length := rfl
    unfold msg_reader_num numP
    dsimp only [IV.isNil]
    cases hd : dec l with
    | none =>
      rw [hd, decI_none] at eT
      rw [eT]
      dsimp only [Option.bind_some, nt, nf, cond_false, cond_true]
      rw [cand, cand]
      rw [cdp (by omega), cdp (by omega), cdp (by omega)]
      refine ⟨_, rfl, ?_, ?_, ?_⟩
      · rw [e1, List.take_length]; exact hb
      · rw [e1, List.take_length]; exact hl
      · exact ⟨_, rfl⟩
    | some p =>
      obtain ⟨v, n⟩ := p
      obtain ⟨h0, h1, h2, h3⟩ := dec_le hb hd
      rw [hd, decI_some] at eT
      rw [eT]
      dsimp only [Option.bind_some, nt, nf, cond_false, cond_true]
      rw [cand, cand]
      rw [cdp (by omega), cdp (by omega), cdp (by omega), e1, List.take_length, toNat_nat]
      exact ⟨_, rfl, isBytes_drop hb n, by simp only [List.length_drop]; omega, rfl, rfl⟩
theorem reader_text {s : List Int × IV} {o : Option (List Int)} (h : RS s o) (what : ByteArray) :
    ∃ s', msg_reader_text s what = some (((textP o).1, ()), (s', ())) ∧ RS s' (textP o).2 := by
  obtain ⟨hb, hl, hs⟩ := h
  obtain ⟨l, e⟩ := s
  cases o with
  | none =>
    obtain ⟨a, rfl⟩ := hs
    exact ⟨_, rfl, hb, hl, a, rfl⟩
  | some l' =>
    obtain ⟨h1, h2⟩ := hs
    simp only at h1 h2 hb hl
    subst h1 h2
    have eT := bits_TakeText_eq' l hb (by omega)
    have e1 : ((l.length : Int)).toNat = l.length := rfl
    unfold msg_reader_text textP
    dsimp only [IV.isNil]
    cases hd : decT l with
    | none =>
      rw [hd, decTI_none] at eT
      rw [eT]
      dsimp only [Option.bind_some, nt, nf, cond_false, cond_true]
      rw [cand, cand]
      rw [cdp (by omega), cdp (by omega), cdp (by omega)]
      refine ⟨_, rfl, ?_, ?_, ?_⟩
      · rw [e1, List.take_length]; exact hb
      · rw [e1, List.take_length]; exact hl
      · exact ⟨_, rfl⟩
    | some p =>
      obtain ⟨t, n⟩ := p
      obtain ⟨h0, h1, h2⟩ := decT_le hb hd
      rw [hd, decTI_some] at eT
      rw [eT]
      dsimp only [Option.bind_some, nt, nf, cond_false, cond_true]
      rw [cand, cand]
      rw [cdp (by omega), cdp (by omega), cdp (by omega), e1, List.take_length, toNat_nat]
      exact ⟨_, rfl, isBytes_drop hb n, by simp only [List.length_drop]; omega, rfl, rfl⟩
def endP (o : Option (List Int)) : (Int × Int × ByteArray) × Option (List Int) :=
  let a := numP o; let b := numP a.2; let t := textP b.2
  (((a.1 : Int), (b.1 : Int), t.1), t.2)
theorem reader_end {s : List Int × IV} {o : Option (List Int)} (h : RS s o) (w1 w2 w3 : ByteArray) {R : Type} (K : Int → Int → ByteArray → (List Int × IV) → Option R) :
    ∃ s', (Option.bind (msg_reader_num s w1) fun (r25 : (Int × Unit) × (((List Int) × IV) × Unit)) =>
  Option.bind (msg_reader_num r25.2.1 w2) fun (r26 : (Int × Unit) × (((List Int) × IV) × Unit)) =>
  Option.bind (msg_reader_text r26.2.1 w3) fun (r27 : (ByteArray × Unit) × (((List Int) × IV) × Unit)) =>
  K r25.1.1 r26.1.1 r27.1.1 r27.2.1) = K (endP o).1.1 (endP o).1.2.1 (endP o).1.2.2 s' ∧ RS s' (endP o).2 := by
  obtain ⟨s1, e1, h1⟩ := reader_num h w1
  obtain ⟨s2, e2, h2⟩ := reader_num h1 w2
  obtain ⟨s3, e3, h3⟩ := reader_text h2 w3
  refine ⟨s3, ?_, h3⟩
  rw [e1]; dsimp only [Option.bind_some]
  rw [e2]; dsimp only [Option.bind_some]
  rw [e3]; rfl
theorem reader_steps (n : Nat) (a b c d e f g j : Int) (tx : ByteArray) : ∀ (k m : Nat) (s : List Int × IV) (o : Option (List Int)) (acc : List Int), RS s o → k < m → acc.length + k ≤ 1073741824 →
    ∃ s', msg_reader_msg_L1 n m (k : Int) s.1 s.2 a b c d e f g j tx acc =
      some (((a, b, c, d, e, f, (stepsP k o acc).1, (endP (stepsP k o acc).2).1.1, (endP (stepsP k o acc).2).1.2.1, (endP (stepsP k o acc).2).1.2.2), ()), (s', ())) ∧ RS s' (endP (stepsP k o acc).2).2
  | k, 0, s, o, acc, _, h, _ => by omega
  | 0, m + 1, s, o, acc, hs, h, hl => by
    show ∃ s', msg_reader_msg_B1 (msg_reader_msg_L1 n m) ((0 : Nat) : Int) s.1 s.2 a b c d e f g j tx acc = _ ∧ _
    unfold msg_reader_msg_B1
    rw [cdn (by omega)]
    exact reader_end hs _ _ _ (fun x y z w => some (((a, b, c, d, e, f, acc, x, y, z), ()), (w, ())))
  | k + 1, m + 1, s, o, acc, hs, h, hl => by
    show ∃ s', msg_reader_msg_B1 (msg_reader_msg_L1 n m) ((k + 1 : Nat) : Int) s.1 s.2 a b c d e f g j tx acc = _ ∧ _
    unfold msg_reader_msg_B1
    rw [cdp (by omega)]
    cases o with
    | none =>
      obtain ⟨x, hx⟩ := hs.is'
      have e0 : (s.1, s.2) = s := rfl
      rw [hx]
      simp only [IV.isNil, cond_false]
      have := reader_end hs (⟨#[108, 111]⟩ : ByteArray) (⟨#[104, 105]⟩ : ByteArray) (⟨#[116, 101, 120, 116]⟩ : ByteArray) (fun x y z w => some (((a, b, c, d, e, f, acc, x, y, z), ()), (w, ())))
      have e1 : s = (s.1, IV.mk 112 x) := by rw [← hx]
      rw [e1] at this
      exact this
    | some l =>
      obtain ⟨h1, h2⟩ := hs.is'
      obtain ⟨s1, e1, r1⟩ := reader_num hs (⟨#[115, 116, 101, 112]⟩ : ByteArray)
      have e0 : s = (s.1, s.2) := rfl
      rw [e0] at e1
      rw [e1]
      rw [h2]
      simp only [IV.isNil, cond_true, Option.bind_some]
      rw [cbp (by omega), wi64 (by omega) (by omega)]
      have ek : ((k + 1 : Nat) : Int) - 1 = (k : Int) := by omega
      rw [ek]
      exact reader_steps n a b c d e f g j tx k m s1 _ _ r1 (by omega) (by rw [List.length_append, List.length_singleton]; omega)
theorem L2_L1 (n m : Nat) (v : Int) (w : Bool) (l : List Int) (e : IV) (a b c d x f g j : Int) (tx : ByteArray) (acc : List Int) :
    msg_reader_msg_L2 n (m + 1) v w l e a b c d x f g j tx acc = msg_reader_msg_L1 n (m + 1) v l e a b c d x f g j tx acc := rfl
def msgP (l : List Int) : MsgV × Option (List Int) :=
  let a1 := numP (some l); let a2 := numP a1.2; let a3 := numP a2.2; let a4 := numP a3.2; let a5 := numP a4.2; let a6 := numP a5.2; let a7 := numP a6.2
  let p := if a7.1 > 64 then ([], none) else stepsP a7.1 a7.2 []
  let e := endP p.2
  (((a1.1 : Int), (a2.1 : Int), (a3.1 : Int), (a4.1 : Int), (a5.1 : Int), (a6.1 : Int), p.1, e.1.1, e.1.2.1, e.1.2.2), e.2)
theorem stepsP_none : ∀ (k : Nat) (acc : List Int), stepsP k none acc = (acc, none)
  | 0, _ => rfl
  | _ + 1, _ => rfl
theorem stepsP_len : ∀ (k : Nat) (o : Option (List Int)) (acc : List Int), (stepsP k o acc).1.length ≤ acc.length + k
  | 0, o, acc => by simp [stepsP]
  | k + 1, none, acc => by simp [stepsP]
  | k + 1, some l, acc => by
    have := stepsP_len k (numP (some l)).2 (acc ++ [((numP (some l)).1 : Int)])
    rw [List.length_append, List.length_singleton] at this
    show (stepsP k (numP (some l)).2 (acc ++ [((numP (some l)).1 : Int)])).1.length ≤ _
    omega
theorem msgP_len (l : List Int) : (msgP l).1.pa.length ≤ 64 := by
  unfold msgP MsgV.pa
  dsimp only
  split
  · simp
  · rename_i h
    have := stepsP_len (numP (numP (numP (numP (numP (numP (numP (some l)).2).2).2).2).2).2).1 (numP (numP (numP (numP (numP (numP (numP (some l)).2).2).2).2).2).2).2 []
    simp only [List.length_nil] at this
    omega
theorem numP_le (o : Option (List Int)) (h : ∀ l, o = some l → isBytes l) : (numP o).1 ≤ 1073741824 := by
  unfold numP
  split
  · simp
  · rename_i l
    split
    · simp
    · rename_i v n hd
      exact (dec_le (h l rfl) hd).2.2.2
theorem RS.byo {s : List Int × IV} {o : Option (List Int)} (h : RS s o) : ∀ l, o = some l → isBytes l := by
  intro l e; subst e
  obtain ⟨h1, h2⟩ := h.is'
  rw [← h1]; exact h.by'
theorem reader_msg (l : List Int) (hb : isBytes l) (hl : l.length ≤ 1000000000) :
    ∃ s', msg_reader_msg (l, IV.nil) = some (((msgP l).1, ()), (s', ())) ∧ RS s' (msgP l).2 := by
  have h0 : RS (l, IV.nil) (some l) := ⟨hb, hl, rfl, rfl⟩
  show ∃ s', msg_reader_msg_T (msg_reader_msg_L1 1099511627776 1099511627776) (msg_reader_msg_L2 1099511627776 1099511627776) (l, IV.nil) = _ ∧ _
  unfold msg_reader_msg_T msgP
  dsimp only
  obtain ⟨s1, e1, h1⟩ := reader_num h0 (⟨#[107, 105, 110, 100]⟩ : ByteArray)
  rw [e1]; dsimp only [Option.bind_some]
  obtain ⟨s2, e2, h2⟩ := reader_num h1 (⟨#[102, 114, 111, 109]⟩ : ByteArray)
  rw [e2]; dsimp only [Option.bind_some]
  obtain ⟨s3, e3, h3⟩ := reader_num h2 (⟨#[116, 111]⟩ : ByteArray)
  rw [e3]; dsimp only [Option.bind_some]
  obtain ⟨s4, e4, h4⟩ := reader_num h3 (⟨#[105, 110, 99]⟩ : ByteArray)
  rw [e4]; dsimp only [Option.bind_some]
  obtain ⟨s5, e5, h5⟩ := reader_num h4 (⟨#[101, 112, 111, 99, 104]⟩ : ByteArray)
  rw [e5]; dsimp only [Option.bind_some]
  obtain ⟨s6, e6, h6⟩ := reader_num h5 (⟨#[97, 103, 101]⟩ : ByteArray)
  rw [e6]; dsimp only [Option.bind_some]
  obtain ⟨s7, e7, h7⟩ := reader_num h6 (⟨#[119, 97, 121]⟩ : ByteArray)
  rw [e7]; dsimp only [Option.bind_some]
  generalize hq : numP (numP (numP (numP (numP (numP (numP (some l)).2).2).2).2).2).2 = q at *
  have hv : q.1 ≤ 1073741824 := by rw [← hq]; exact numP_le _ h6.byo
  by_cases hc : q.1 > 64
  · rw [cdp (by omega), if_pos hc]
    have hn : RS (s7.1, IV.mk 112 [.str (⟨#[119, 97, 121]⟩ : ByteArray)]) none := ⟨h7.by', h7.len, _, rfl⟩
    have := reader_steps 1099511627776 ((numP (some l)).1 : Int) ((numP (numP (some l)).2).1 : Int) ((numP (numP (numP (some l)).2).2).1 : Int) ((numP (numP (numP (numP (some l)).2).2).2).1 : Int) ((numP (numP (numP (numP (numP (some l)).2).2).2).2).1 : Int) ((numP (numP (numP (numP (numP (numP (some l)).2).2).2).2).2).1 : Int) 0 0 (⟨#[]⟩ : ByteArray) q.1 1099511627776 _ none [] hn (by omega) (by simp; omega)
    rw [stepsP_none] at this
    exact this
  · rw [cdn (by omega), if_neg hc, L2_L1 1099511627776 1099511627775]
    exact reader_steps 1099511627776 ((numP (some l)).1 : Int) ((numP (numP (some l)).2).1 : Int) ((numP (numP (numP (some l)).2).2).1 : Int) ((numP (numP (numP (numP (some l)).2).2).2).1 : Int) ((numP (numP (numP (numP (numP (some l)).2).2).2).2).1 : Int) ((numP (numP (numP (numP (numP (numP (some l)).2).2).2).2).2).1 : Int) 0 0 (⟨#[]⟩ : ByteArray) q.1 1099511627776 s7 q.2 [] h7 (by omega) (by simp; omega)
end Go.PE
