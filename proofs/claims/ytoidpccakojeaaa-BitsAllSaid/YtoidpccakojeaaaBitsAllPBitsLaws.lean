/-
  Plain lemmas on the functions.
  Conditions: none.
-/
import Derived.Test.YtoidpccakojeaaaBitsAllPBits
set_option linter.unusedVariables false
set_option linter.unusedSimpArgs false
namespace Go.PE
theorem begun11 : pleachlaw11_begun = some ((true, ()), ()) := by kernel_rfl
theorem wf_sl8 {N : Nat} {l : List Int} (h : wfTy (.sl N (.int .u8)) l) : isBytes l := fun x hx => wf_u8.1 (h.2 x hx)
theorem pleachlaw11_BitsAll_true {N : Nat} (v : Int) (s : ByteArray) (b front : List Int) (h : wfPs [.val (.int .u32), .val .str, .val (.sl N (.int .u8)), .val (.sl N (.int .u8))] (v, s, b, front, ())) :
    pleachlaw11_BitsAll v s b front = some ((true, ()), ()) := by
  obtain ⟨hv, hs, hb, hf, _⟩ := h
  have hv : 0 ≤ v ∧ v < 4294967296 := wf_u32.1 hv
  have hb : isBytes b := wf_sl8 hb
  have hf : isBytes front := wf_sl8 hf
  unfold pleachlaw11_BitsAll
  rw [begun11]
  dsimp only [Option.bind_some, nt, cond_false]
  by_cases h1 : s.size ≤ 200
  case neg => rw [cdp (by omega)]
  rw [cdn (by omega)]
  by_cases h2 : b.length ≤ 20
  case neg => rw [cdp (by omega)]
  rw [cdn (by omega)]
  by_cases h3 : front.length ≤ 5
  case neg => rw [cdp (by omega)]
  rw [cdn (by omega), wi64 (by omega) (by omega)]
  obtain ⟨u, hu⟩ : ∃ u : Nat, Int.tmod v 1073741825 = (u : Int) := ⟨(Int.tmod v 1073741825).toNat, by rw [Int.tmod_eq_emod_of_nonneg (by omega)]; omega⟩
  have hu2 : u ≤ 1073741824 := by rw [Int.tmod_eq_emod_of_nonneg (by omega)] at hu; omega
  rw [hu, bits_Put_eq' _ _ (by omega) (by omega), ref_PutNum_eq' _ _ (by omega) (by omega), bits_PutText_eq' _ _ (by omega) (by omega), ref_PutText_eq' _ _ (by omega) (by omega),
    bits_Take_eq' _ hb (by omega), ref_TakeNum_eq' _ hb (by omega), bits_TakeText_eq' _ hb (by omega), ref_TakeText_eq' _ hb (by omega)]
  simp [strEq_self]
theorem pleachlaw11_BitsBack_true {N : Nat} (v : Int) (s : ByteArray) (behind : List Int) (cut : Int) (b : List Int) (h : wfPs [.val (.int .u32), .val .str, .val (.sl N (.int .u8)), .val (.int .u8), .val (.sl N (.int .u8))] (v, s, behind, cut, b, ())) :
    pleachlaw11_BitsBack v s behind cut b = some ((true, ()), ()) := by
  obtain ⟨hv, hs, hbh, hc, hb, _⟩ := h
  have hv : 0 ≤ v ∧ v < 4294967296 := wf_u32.1 hv
  have hc : 0 ≤ cut ∧ cut < 256 := wf_u8.1 hc
  have hb : isBytes b := wf_sl8 hb
  have hbh : isBytes behind := wf_sl8 hbh
  unfold pleachlaw11_BitsBack
  rw [begun11]
  dsimp only [Option.bind_some, nt, cond_false]
  by_cases h1 : s.size ≤ 200
  case neg => rw [cdp (by omega)]
  rw [cdn (by omega)]
  by_cases h2 : behind.length ≤ 20
  case neg => rw [cdp (by omega)]
  rw [cdn (by omega)]
  by_cases h3 : b.length ≤ 10
  case neg => rw [cdp (by omega)]
  rw [cdn (by omega), wi64 (x := v) (by omega) (by omega), wi64 (x := cut) (by omega) (by omega)]
  obtain ⟨u, hu⟩ : ∃ u : Nat, Int.tmod v 1073741825 = (u : Int) := ⟨(Int.tmod v 1073741825).toNat, by rw [Int.tmod_eq_emod_of_nonneg (by omega)]; omega⟩
  have hu2 : u ≤ 1073741824 := by rw [Int.tmod_eq_emod_of_nonneg (by omega)] at hu; omega
  have hsz := bytes_length s
  have eT : enc s.size ++ bytes s = encT (bytes s) := by unfold encT; rw [hsz]
  have p1 := enc_pos u
  have l1 := enc_length u
  have p2 : 0 < (encT (bytes s)).length := by unfold encT; rw [List.length_append]; have := enc_pos (bytes s).length; omega
  have l2 : (encT (bytes s)).length ≤ 210 := by unfold encT; rw [List.length_append]; have := enc_length (bytes s).length; omega
  have b1 := enc_bytes u
  have b2 : isBytes (encT (bytes s)) := isBytes_append.2 ⟨enc_bytes _, isBytes_bytes s⟩
  rw [hu, bits_Put_eq' _ _ (by omega) (by simp), bits_PutText_eq' _ _ (by omega) (by simp), eT]
  dsimp only [Option.bind_some, List.nil_append]
  rw [ceqn (by omega), ceqn (by omega), cbp (by omega), cbp (by omega), bits_Take_eq' _ (isBytes_append.2 ⟨b1, hbh⟩) (by rw [List.length_append]; omega), enc_dec u _ hu2]
  dsimp only [Option.bind_some]
  rw [cbp (by omega), cbp (by omega), bits_TakeText_eq' _ (isBytes_append.2 ⟨b2, hbh⟩) (by rw [List.length_append]; omega), decT_enc _ _ (by omega)]
  dsimp only [Option.bind_some]
  have m1 : ∀ n : Nat, 0 < n → ∃ k : Nat, k < n ∧ Int.tmod cut (n : Int) = (k : Int) := fun n hn => by
    have e := Int.tmod_eq_emod_of_nonneg (a := cut) (b := (n : Int)) (by omega)
    have a := Int.emod_nonneg cut (b := (n : Int)) (by omega)
    have c := Int.emod_lt_of_pos cut (b := (n : Int)) (by omega)
    exact ⟨(Int.tmod cut (n : Int)).toNat, by omega, by omega⟩
  obtain ⟨k1, hk1, ek1⟩ := m1 _ p1
  obtain ⟨k2, hk2, ek2⟩ := m1 _ p2
  rw [ek1, ek2]
  simp only [cnot, cand]
  have e1 : (k1 : Int).toNat = k1 := rfl
  have e2 : (k2 : Int).toNat = k2 := rfl
  rw [ceqn (by omega), cdp (by omega), cdp (by omega), e1, List.drop_zero, bits_Take_eq' _ (isBytes_take b1 k1) (by rw [List.length_take]; omega), dec_cut _ _ hk1]
  dsimp only [Option.bind_some]
  rw [ceqn (by omega), cdp (by omega), cdp (by omega), e2, List.drop_zero, bits_TakeText_eq' _ (isBytes_take b2 k2) (by rw [List.length_take]; omega), decT_cut _ _ (isBytes_bytes s) (by omega) hk2, bits_Take_eq' _ hb (by omega)]
  dsimp only [Option.bind_some, decI_none, decI_some, decTI_none, decTI_some, cond_true, cond_false]
  rw [cnen rfl, cnen rfl, bytesOf_bytes, strEq_self]
  simp only [cond_true]
  rw [cnen rfl]
  cases hd : dec b with
  | none => rfl
  | some p =>
    obtain ⟨w, n⟩ := p
    obtain ⟨d0, d1, d2, d3⟩ := dec_le hb hd
    dsimp +instances only [decI_some, cond_true]
    have e3 : (n : Int).toNat = n := rfl
    rw [cdp (by omega), cdp (by omega), cdp (by omega), cdp (by omega), bits_Put_eq' _ _ (by omega) (by simp), e3, List.drop_zero, dec_enc hb hd]
    dsimp only [Option.bind_some, List.nil_append]
    rw [cdp (by omega), cdp (by omega), strEq_self]
end Go.PE
