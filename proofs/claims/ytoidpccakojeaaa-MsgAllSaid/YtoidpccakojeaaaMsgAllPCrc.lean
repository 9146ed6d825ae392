/-
  Plain lemmas on the functions.
  Conditions: none.
-/
import Derived.Test.YtoidpccakojeaaaMsgAllPLoops
set_option linter.unusedVariables false
set_option linter.unusedSimpArgs false
set_option maxRecDepth 20000
namespace Go.PE
def crcStep (c : Nat) : Nat := if c % 2 = 1 then (c / 2) ^^^ 3988292384 else c / 2
def crcN : Nat → Nat → Nat
  | 0, c => c
  | k + 1, c => crcN k (crcStep c)
def crcL : Nat → List Int → Nat
  | c, [] => c
  | c, x :: r => crcL (crcN 8 (c ^^^ x.toNat)) r
def crcV (l : List Int) : Nat := crcL 4294967295 l ^^^ 4294967295
theorem xor32 {a b : Nat} (ha : a < 4294967296) (hb : b < 4294967296) : a ^^^ b < 4294967296 := Nat.xor_lt_two_pow (n := 32) ha hb
theorem crcStep_lt {c : Nat} (h : c < 4294967296) : crcStep c < 4294967296 := by
  unfold crcStep; split
  · exact xor32 (by omega) (by omega)
  · omega
theorem crcN_lt : ∀ (k : Nat) {c : Nat}, c < 4294967296 → crcN k c < 4294967296
  | 0, c, h => h
  | k + 1, c, h => crcN_lt k (crcStep_lt h)
theorem crcL_lt : ∀ (l : List Int) {c : Nat}, isBytes l → c < 4294967296 → crcL c l < 4294967296
  | [], c, _, h => h
  | x :: r, c, hb, h => crcL_lt r (fun y hy => hb y (List.mem_cons_of_mem _ hy)) (crcN_lt 8 (xor32 h (by have := hb x (List.mem_cons_self ..); omega)))
theorem crcV_lt {l : List Int} (h : isBytes l) : crcV l < 4294967296 := xor32 (crcL_lt l h (by omega)) (by omega)
theorem xor_cancel {a b c : Nat} (h : a ^^^ c = b ^^^ c) : a = b := by
  have := congrArg (· ^^^ c) h
  simpa [Nat.xor_assoc] using this
theorem xor_cancel' {a b c : Nat} (h : c ^^^ a = c ^^^ b) : a = b := by
  rw [Nat.xor_comm c a, Nat.xor_comm c b] at h; exact xor_cancel h
theorem crcStep_top {c : Nat} (h : c < 4294967296) : (crcStep c).testBit 31 = decide (c % 2 = 1) := by
  have h1 : (c / 2).testBit 31 = false := Nat.testBit_lt_two_pow (by omega)
  have h2 : (3988292384 : Nat).testBit 31 = true := by decide
  unfold crcStep
  split
  · rename_i hc; rw [Nat.testBit_xor, h1, h2, decide_eq_true hc]; rfl
  · rename_i hc; rw [h1, decide_eq_false hc]
theorem crcStep_inj {a b : Nat} (ha : a < 4294967296) (hb : b < 4294967296) (h : crcStep a = crcStep b) : a = b := by
  have ht := crcStep_top ha
  rw [h, crcStep_top hb] at ht
  have hp : (b % 2 = 1) ↔ (a % 2 = 1) := decide_eq_decide.1 ht
  unfold crcStep at h
  by_cases hc : a % 2 = 1
  · rw [if_pos hc, if_pos (hp.2 hc)] at h
    have := xor_cancel h
    have := hp.2 hc
    omega
  · have hd : ¬ b % 2 = 1 := fun x => hc (hp.1 x)
    rw [if_neg hc, if_neg hd] at h
    omega
theorem crcN_inj : ∀ (k : Nat) {a b : Nat}, a < 4294967296 → b < 4294967296 → crcN k a = crcN k b → a = b
  | 0, a, b, _, _, h => h
  | k + 1, a, b, ha, hb, h => crcStep_inj ha hb (crcN_inj k (crcStep_lt ha) (crcStep_lt hb) h)
theorem crcL_inj : ∀ (l : List Int) {a b : Nat}, isBytes l → a < 4294967296 → b < 4294967296 → crcL a l = crcL b l → a = b
  | [], a, b, _, _, _, h => h
  | x :: r, a, b, hl, ha, hb, h => by
    have hx := hl x (List.mem_cons_self ..)
    have hr : isBytes r := fun y hy => hl y (List.mem_cons_of_mem _ hy)
    have h1 := crcL_inj r hr (crcN_lt 8 (xor32 ha (by omega))) (crcN_lt 8 (xor32 hb (by omega))) h
    exact xor_cancel (crcN_inj 8 (xor32 ha (by omega)) (xor32 hb (by omega)) h1)
theorem crcL_turn : ∀ (l : List Int) (i : Nat) (y : Int) {c : Nat}, isBytes l → c < 4294967296 → i < l.length → 0 ≤ y ∧ y < 256 → crcL c (l.set i y) = crcL c l → List.getD l i 0 = y
  | [], i, y, c, _, _, h, _, _ => by simp at h
  | x :: r, 0, y, c, hl, hc, h, hy, e => by
    have hx := hl x (List.mem_cons_self ..)
    have hr : isBytes r := fun y hy => hl y (List.mem_cons_of_mem _ hy)
    have h1 := crcL_inj r hr (crcN_lt 8 (xor32 hc (by omega))) (crcN_lt 8 (xor32 hc (by omega))) e
    have h2 := xor_cancel' (crcN_inj 8 (xor32 hc (by omega)) (xor32 hc (by omega)) h1)
    show x = y
    omega
  | x :: r, i + 1, y, c, hl, hc, h, hy, e => by
    have hx := hl x (List.mem_cons_self ..)
    have hr : isBytes r := fun y hy => hl y (List.mem_cons_of_mem _ hy)
    exact crcL_turn r i y hr (crcN_lt 8 (xor32 hc (by omega))) (by simpa using h) hy e
theorem crcV_turn {l : List Int} {i : Nat} {y : Int} (hl : isBytes l) (h : i < l.length) (hy : 0 ≤ y ∧ y < 256) (e : crcV (l.set i y) = crcV l) : List.getD l i 0 = y :=
  crcL_turn l i y hl (by omega) h hy (xor_cancel e)
def tail4 (s : Nat) : List Int := [((s / 16777216 % 256 : Nat) : Int), ((s / 65536 % 256 : Nat) : Int), ((s / 256 % 256 : Nat) : Int), ((s % 256 : Nat) : Int)]
theorem tail4_inj {a b : Nat} (ha : a < 4294967296) (hb : b < 4294967296) (h : tail4 a = tail4 b) : a = b := by
  simp only [tail4, List.cons.injEq, and_true] at h
  omega
theorem tail4_bytes (s : Nat) : isBytes (tail4 s) := by
  intro x hx
  simp only [tail4, List.mem_cons, List.not_mem_nil, or_false] at hx
  omega
theorem xorI {a b : Nat} (ha : a < 4294967296) (hb : b < 4294967296) : IntKind.wrap .u32 ((BitVec.ofInt 32 (a : Int) ^^^ BitVec.ofInt 32 (b : Int)).toNat) = ((a ^^^ b : Nat) : Int) := by
  have h := xor32 ha hb
  rw [BitVec.toNat_xor, BitVec.toNat_ofInt, BitVec.toNat_ofInt]
  have e1 : ((a : Int) % ((2 ^ 32 : Nat) : Int)).toNat = a := by omega
  have e2 : ((b : Int) % ((2 ^ 32 : Nat) : Int)).toNat = b := by omega
  rw [e1, e2, wu32 (by omega) (by omega)]
theorem and1I {a : Nat} (ha : a < 4294967296) : IntKind.wrap .u32 ((BitVec.ofInt 32 (a : Int) &&& BitVec.ofInt 32 1).toNat) = ((a % 2 : Nat) : Int) := by
  rw [BitVec.toNat_and, BitVec.toNat_ofInt]
  have e1 : ((a : Int) % ((2 ^ 32 : Nat) : Int)).toNat = a := by omega
  have e2 : (BitVec.ofInt 32 1).toNat = 1 := by decide
  rw [e1, e2, Nat.and_one_is_mod, wu32 (by omega) (by omega)]
theorem crc_inner (n : Nat) (L : Int → List Int → Int → Int → Option ((Int × Unit) × Unit)) (m1 : Nat) (l : List Int) (len i : Int) : ∀ (k m c j : Nat), j + k = 8 → k < m → c < 4294967296 →
    crc_Sum_L2 n m1 L m (c : Int) l len i (j : Int) = L ((crcN k c : Nat) : Int) l len (IntKind.wrap .i64 (i + 1))
  | k, 0, c, j, _, h, _ => by omega
  | 0, m + 1, c, j, hk, h, hc => by
    show crc_Sum_B2 (crc_Sum_L2 n m1 L m) L (c : Int) l len i (j : Int) = _
    unfold crc_Sum_B2
    rw [cdn (by omega)]; rfl
  | k + 1, m + 1, c, j, hk, h, hc => by
    show crc_Sum_B2 (crc_Sum_L2 n m1 L m) L (c : Int) l len i (j : Int) = _
    unfold crc_Sum_B2
    have e1 : Int.fdiv (c : Int) (2 ^ 1) = ((c / 2 : Nat) : Int) := by
      rw [Int.fdiv_eq_ediv_of_nonneg _ (by decide)]; rfl
    have e2 : IntKind.wrap .u32 ((BitVec.ofInt 32 ((c / 2 : Nat) : Int) ^^^ BitVec.ofInt 32 3988292384).toNat) = ((c / 2 ^^^ 3988292384 : Nat) : Int) := xorI (b := 3988292384) (by omega) (by omega)
    rw [cdp (by omega), and1I hc, e1, e2, inext (by omega), ceq]
    have ec : crcN (k + 1) c = crcN k (crcStep c) := rfl
    rw [ec]
    by_cases hp : c % 2 = 1
    · have es : crcStep c = c / 2 ^^^ 3988292384 := if_pos hp
      rw [if_pos (by omega), es]
      exact crc_inner n L m1 l len i k m _ (j + 1) (by omega) (by omega) (es ▸ crcStep_lt hc)
    · have es : crcStep c = c / 2 := if_neg hp
      rw [if_neg (by omega), es]
      exact crc_inner n L m1 l len i k m _ (j + 1) (by omega) (by omega) (by omega)
theorem crc_outer (l : List Int) (hb : isBytes l) (h6 : l.length ≤ 1000000000) : ∀ (k m i c : Nat), i + k = l.length → k < m → c < 4294967296 →
    crc_Sum_L1 1099511627776 m (c : Int) l (l.length : Int) (i : Int) = some ((((crcL c (l.drop i) ^^^ 4294967295 : Nat) : Int), ()), ())
  | k, 0, i, c, _, h, _ => by omega
  | 0, m + 1, i, c, hk, h, hc => by
    show crc_Sum_B1 (crc_Sum_L2 1099511627776 m (crc_Sum_L1 1099511627776 m) 1099511627776) (c : Int) l (l.length : Int) (i : Int) = _
    unfold crc_Sum_B1
    have e2 : IntKind.wrap .u32 ((BitVec.ofInt 32 (c : Int) ^^^ BitVec.ofInt 32 4294967295).toNat) = ((c ^^^ 4294967295 : Nat) : Int) := xorI (b := 4294967295) hc (by omega)
    rw [cdn (by omega), e2, List.drop_eq_nil_of_le (by omega)]; rfl
  | k + 1, m + 1, i, c, hk, h, hc => by
    show crc_Sum_B1 (crc_Sum_L2 1099511627776 m (crc_Sum_L1 1099511627776 m) 1099511627776) (c : Int) l (l.length : Int) (i : Int) = _
    unfold crc_Sum_B1
    have hi : i < l.length := by omega
    have hx := hb l[i] (List.getElem_mem hi)
    rw [cdp (by omega), cand, cdp (by omega), cdp (by omega), toNat_nat, getD_at hi, List.drop_eq_getElem_cons hi]
    generalize l[i] = x at *
    obtain ⟨x, rfl⟩ : ∃ y : Nat, x = (y : Int) := ⟨x.toNat, by omega⟩
    rw [wu32 (x := (x : Int)) (by omega) (by omega), xorI hc (by omega)]
    have hlt : c ^^^ x < 4294967296 := xor32 hc (by omega)
    have := crc_inner 1099511627776 (crc_Sum_L1 1099511627776 m) m l (l.length : Int) (i : Int) 8 1099511627776 (c ^^^ x) 0 rfl (by omega) hlt
    have e0 : ((0 : Nat) : Int) = 0 := rfl
    rw [e0] at this
    rw [this, inext (by omega), crc_outer l hb h6 k m (i + 1) _ (by omega) (by omega) (crcN_lt 8 hlt)]
    rfl
theorem crc_eq (l : List Int) (hb : isBytes l) (h6 : l.length ≤ 1000000000) : crc_Sum l = some ((((crcV l : Nat) : Int), ()), ()) := by
  have := crc_outer l hb h6 l.length 1099511627776 0 4294967295 (by omega) (by omega) (by omega)
  rw [List.drop_zero] at this
  exact this
theorem tail4_eq {s : Nat} (h : s < 4294967296) : [IntKind.wrap .u8 (Int.fdiv (s : Int) (2 ^ 24)), IntKind.wrap .u8 (Int.fdiv (s : Int) (2 ^ 16)), IntKind.wrap .u8 (Int.fdiv (s : Int) (2 ^ 8)), IntKind.wrap .u8 (s : Int)] = tail4 s := by
  simp only [wu8_mod, Int.fdiv_eq_ediv_of_nonneg _ (show (0 : Int) ≤ 2 ^ 24 by decide), Int.fdiv_eq_ediv_of_nonneg _ (show (0 : Int) ≤ 2 ^ 16 by decide), Int.fdiv_eq_ediv_of_nonneg _ (show (0 : Int) ≤ 2 ^ 8 by decide)]
  rfl
end Go.PE
