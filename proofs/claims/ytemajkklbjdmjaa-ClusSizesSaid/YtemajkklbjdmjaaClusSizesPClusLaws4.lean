/-
  Plain lemmas on the functions.
  Conditions: none.
-/
import Derived.Test.YtemajkklbjdmjaaClusSizesPClusFun4
set_option linter.unusedVariables false
set_option linter.unusedSimpArgs false
set_option maxRecDepth 20000
namespace Go.PE
def marks8 (l : List Int) (s : List Bool) : List Bool := l.foldl (fun s x => s.set x.toNat true) s
theorem marks8_len : ∀ (l : List Int) (s : List Bool), (marks8 l s).length = s.length
  | [], s => rfl
  | x :: r, s => by
    show (marks8 r (s.set x.toNat true)).length = _
    rw [marks8_len r, List.length_set]
theorem marks8_other : ∀ (l : List Int) (s : List Bool) (y : Int), (∀ x ∈ l, x.toNat ≠ y.toNat) → List.getD (marks8 l s) y.toNat false = List.getD s y.toNat false
  | [], s, y, _ => rfl
  | x :: r, s, y, h => by
    show List.getD (marks8 r (s.set x.toNat true)) y.toNat false = _
    rw [marks8_other r _ y (fun z hz => h z (List.mem_cons_of_mem _ hz)), List.getD_eq_getElem?_getD, List.getD_eq_getElem?_getD, List.getElem?_set_ne (h x (List.mem_cons_self ..))]
theorem szm_3 (n m1 : Nat) (r1 : List (Int × Int × Int) → Int → Int → Int → List (List Int) → List Cl → List Bool → Option ((Bool × Unit) × Unit)) (m2 : Nat) (r2 : List (Int × Int × Int) → List (List Int) → Int → List Cl → Int → Int → Int → Int → List Bool → List Bool → Option ((Bool × Unit) × Unit)) (l : List (Int × Int × Int)) (d : List (List Int)) (k : Int) (cs : List Cl) (nn i : Int) (p : Int) (w : List Int) (hw : Ris w) (b : List Bool) (hb : b.length = 9) (hbw : ∀ y ∈ w, List.getD b y.toNat false = true)
    {a33 : List Int} {a34 a35 a36 a37 : Int} {a38 : Bool} {a39 : List Cl} {a40 : Int} {a41 a42 : Bool} {a43 : List Int} {a44 a45 : Int} {a46 a47 : Bool} {a48 : List Cl} {a49 : Int} {a50 : Cl} {a51 a52 : Int} {a53 : List (List Int)} {a54 : List Int} {a55 : Int} {a56 : Bool} : ∀ (g m x got : Nat) (s : List Bool), x + g = w.length → g < m → s.length = 9 → (∀ y ∈ w.drop x, List.getD s y.toNat false = false) → got ≤ 100 + x →
    pleachlaw8_ClusSizes_L3 n m1 r1 m2 r2 m l d k cs nn i (got : Int) p w (x : Int) a33 a34 a35 a36 a37 a38 a39 a40 a41 a42 a43 a44 a45 a46 a47 a48 a49 a50 a51 a52 a53 a54 a55 a56 b s = r2 l d k cs nn i ((got + g : Nat) : Int) (IntKind.wrap .i64 (p + 1)) b (marks8 (w.drop x) s)
  | g, 0, x, got, s, _, h, _, _, _ => by omega
  | 0, m + 1, x, got, s, hg, hm, hs, hx, h1 => by
    show pleachlaw8_ClusSizes_B3 (pleachlaw8_ClusSizes_L3 n m1 r1 m2 r2 m) r2 l d k cs nn i (got : Int) p w (x : Int) a33 a34 a35 a36 a37 a38 a39 a40 a41 a42 a43 a44 a45 a46 a47 a48 a49 a50 a51 a52 a53 a54 a55 a56 b s = _
    unfold pleachlaw8_ClusSizes_B3
    rw [cdn (by omega), List.drop_eq_nil_of_le (by omega)]; rfl
  | g + 1, m + 1, x, got, s, hg, hm, hs, hx, h1 => by
    show pleachlaw8_ClusSizes_B3 (pleachlaw8_ClusSizes_L3 n m1 r1 m2 r2 m) r2 l d k cs nn i (got : Int) p w (x : Int) a33 a34 a35 a36 a37 a38 a39 a40 a41 a42 a43 a44 a45 a46 a47 a48 a49 a50 a51 a52 a53 a54 a55 a56 b s = _
    have hi : x < w.length := by omega
    have h8 := hw.le8
    have hr := hw.range (List.getElem_mem hi)
    have hbx := hbw _ (List.getElem_mem hi)
    rw [List.drop_eq_getElem_cons hi] at hx ⊢
    have hd : (w[x] :: w.drop (x + 1)).Pairwise (· < ·) := by rw [← List.drop_eq_getElem_cons hi]; exact hw.pw.drop
    have hd := (List.pairwise_cons.1 hd).1
    have g2 := hx _ (List.mem_cons_self ..)
    have hrest := fun y (h : y ∈ w.drop (x + 1)) => hx y (List.mem_cons_of_mem _ h)
    have ih := szm_3 (a33 := a33) (a34 := a34) (a35 := a35) (a36 := a36) (a37 := a37) (a38 := a38) (a39 := a39) (a40 := a40) (a41 := a41) (a42 := a42) (a43 := a43) (a44 := a44) (a45 := a45) (a46 := a46) (a47 := a47) (a48 := a48) (a49 := a49) (a50 := a50) (a51 := a51) (a52 := a52) (a53 := a53) (a54 := a54) (a55 := a55) (a56 := a56) n m1 r1 m2 r2 l d k cs nn i p w hw b hb hbw g m (x + 1) (got + 1) (s.set w[x].toNat true) (by omega) (by omega) (by rw [List.length_set]; exact hs) (fun y hy => by
      have := hd y hy
      rw [List.getD_eq_getElem?_getD, List.getElem?_set_ne (by omega), ← List.getD_eq_getElem?_getD]
      exact hrest y hy) (by omega)
    have en : got + 1 + g = got + (g + 1) := by omega
    rw [en] at ih
    have hprev : 0 < x → List.getD w (x - 1) 0 < w[x] := fun h0 => by
      have hj : x - 1 < w.length := by omega
      rw [getD_at hj]
      exact List.pairwise_iff_getElem.1 hw.pw (x - 1) x hj hi (by omega)
    unfold pleachlaw8_ClusSizes_B3
    have cx : (decide ((0 : Int) ≤ (x : Int)) && decide ((x : Int) < (w.length : Int))) = true := by simp only [Bool.and_eq_true, decide_eq_true_eq]; omega
    have eg : IntKind.wrap .i64 ((got : Int) + 1) = ((got + 1 : Nat) : Int) := inext (by omega)
    rw [cdp (by omega), toNat_nat, getD_at hi, inext (i := x) (by omega), eg]
    have c1 : decide (w[x] < 9) = true := decide_eq_true (by omega)
    have c2 : decide (w[x] < (b.length : Int)) = true := decide_eq_true (by omega)
    have c3 : decide (w[x] < (s.length : Int)) = true := decide_eq_true (by omega)
    have c4 : decide ((0 : Int) ≤ w[x]) = true := decide_eq_true (by omega)
    have c5 : decide (w[x] < 1) = false := decide_eq_false (by omega)
    have c6 : decide (w[x] > 8) = false := decide_eq_false (by omega)
    simp only [cx, c1, c2, c3, c4, c5, c6, hbx, g2, Bool.and_self, cond_true, cond_false, nt, nf]
    by_cases h0 : x = 0
    · rw [cdn (by omega)]
      exact ih
    · have ew : IntKind.wrap .i64 ((x : Int) - 1) = ((x - 1 : Nat) : Int) := by rw [wi64 (by omega) (by omega)]; omega
      rw [cdp (by omega), ew, ct (by simp only [Bool.and_eq_true, decide_eq_true_eq]; omega), toNat_nat, cdn (by have := hprev (by omega); omega)]
      exact ih
theorem szm_4 (n m1 : Nat) (r1 : List (Int × Int × Int) → Int → Int → Int → List (List Int) → List Cl → List Bool → Option ((Bool × Unit) × Unit)) (m2 : Nat) (r2 : List (Int × Int × Int) → List (List Int) → Int → List Cl → Int → Int → Int → Int → List Bool → List Bool → Option ((Bool × Unit) × Unit)) (l : List (Int × Int × Int)) (d : List (List Int)) (k : Int) (cs : List Cl) (nn i : Int) (p : Int) (w : List Int) (hw : Ris w) (b : List Bool) (hb : b.length = 9) (hbw : ∀ y ∈ w, List.getD b y.toNat false = true)
    {a33 : List Int} {a34 a35 a36 a37 : Int} {a38 : Bool} {a39 : List Cl} {a40 : Int} {a41 a42 a43 : Bool} {a44 : List Cl} {a45 : Int} {a46 : Cl} {a47 a48 : Int} {a49 : List (List Int)} {a50 : List Int} {a51 : Int} {a52 : Bool} : ∀ (g m x got : Nat) (s : List Bool), x + g = w.length → g < m → s.length = 9 → (∀ y ∈ w.drop x, List.getD s y.toNat false = false) → got ≤ 100 + x →
    pleachlaw8_ClusSizes_L4 n m1 r1 m2 r2 m l d k cs nn i (got : Int) p w (x : Int) a33 a34 a35 a36 a37 a38 a39 a40 a41 a42 a43 a44 a45 a46 a47 a48 a49 a50 a51 a52 b s = r2 l d k cs nn i ((got + g : Nat) : Int) (IntKind.wrap .i64 (p + 1)) b (marks8 (w.drop x) s)
  | g, 0, x, got, s, _, h, _, _, _ => by omega
  | 0, m + 1, x, got, s, hg, hm, hs, hx, h1 => by
    show pleachlaw8_ClusSizes_B4 (pleachlaw8_ClusSizes_L4 n m1 r1 m2 r2 m) r2 l d k cs nn i (got : Int) p w (x : Int) a33 a34 a35 a36 a37 a38 a39 a40 a41 a42 a43 a44 a45 a46 a47 a48 a49 a50 a51 a52 b s = _
    unfold pleachlaw8_ClusSizes_B4
    rw [cdn (by omega), List.drop_eq_nil_of_le (by omega)]; rfl
  | g + 1, m + 1, x, got, s, hg, hm, hs, hx, h1 => by
    show pleachlaw8_ClusSizes_B4 (pleachlaw8_ClusSizes_L4 n m1 r1 m2 r2 m) r2 l d k cs nn i (got : Int) p w (x : Int) a33 a34 a35 a36 a37 a38 a39 a40 a41 a42 a43 a44 a45 a46 a47 a48 a49 a50 a51 a52 b s = _
    have hi : x < w.length := by omega
    have h8 := hw.le8
    have hr := hw.range (List.getElem_mem hi)
    have hbx := hbw _ (List.getElem_mem hi)
    rw [List.drop_eq_getElem_cons hi] at hx ⊢
    have hd : (w[x] :: w.drop (x + 1)).Pairwise (· < ·) := by rw [← List.drop_eq_getElem_cons hi]; exact hw.pw.drop
    have hd := (List.pairwise_cons.1 hd).1
    have g2 := hx _ (List.mem_cons_self ..)
    have hrest := fun y (h : y ∈ w.drop (x + 1)) => hx y (List.mem_cons_of_mem _ h)
    have ih := szm_4 (a33 := a33) (a34 := a34) (a35 := a35) (a36 := a36) (a37 := a37) (a38 := a38) (a39 := a39) (a40 := a40) (a41 := a41) (a42 := a42) (a43 := a43) (a44 := a44) (a45 := a45) (a46 := a46) (a47 := a47) (a48 := a48) (a49 := a49) (a50 := a50) (a51 := a51) (a52 := a52) n m1 r1 m2 r2 l d k cs nn i p w hw b hb hbw g m (x + 1) (got + 1) (s.set w[x].toNat true) (by omega) (by omega) (by rw [List.length_set]; exact hs) (fun y hy => by
      have := hd y hy
      rw [List.getD_eq_getElem?_getD, List.getElem?_set_ne (by omega), ← List.getD_eq_getElem?_getD]
      exact hrest y hy) (by omega)
    have en : got + 1 + g = got + (g + 1) := by omega
    rw [en] at ih
    have hprev : 0 < x → List.getD w (x - 1) 0 < w[x] := fun h0 => by
      have hj : x - 1 < w.length := by omega
      rw [getD_at hj]
      exact List.pairwise_iff_getElem.1 hw.pw (x - 1) x hj hi (by omega)
    unfold pleachlaw8_ClusSizes_B4
    have cx : (decide ((0 : Int) ≤ (x : Int)) && decide ((x : Int) < (w.length : Int))) = true := by simp only [Bool.and_eq_true, decide_eq_true_eq]; omega
    have eg : IntKind.wrap .i64 ((got : Int) + 1) = ((got + 1 : Nat) : Int) := inext (by omega)
    rw [cdp (by omega), toNat_nat, getD_at hi, inext (i := x) (by omega), eg]
    have c1 : decide (w[x] < 9) = true := decide_eq_true (by omega)
    have c2 : decide (w[x] < (b.length : Int)) = true := decide_eq_true (by omega)
    have c3 : decide (w[x] < (s.length : Int)) = true := decide_eq_true (by omega)
    have c4 : decide ((0 : Int) ≤ w[x]) = true := decide_eq_true (by omega)
    have c5 : decide (w[x] < 1) = false := decide_eq_false (by omega)
    have c6 : decide (w[x] > 8) = false := decide_eq_false (by omega)
    simp only [cx, c1, c2, c3, c4, c5, c6, hbx, g2, Bool.and_self, cond_true, cond_false, nt, nf]
    by_cases h0 : x = 0
    · rw [cdn (by omega)]
      exact ih
    · have ew : IntKind.wrap .i64 ((x : Int) - 1) = ((x - 1 : Nat) : Int) := by rw [wi64 (by omega) (by omega)]; omega
      rw [cdp (by omega), ew, ct (by simp only [Bool.and_eq_true, decide_eq_true_eq]; omega), toNat_nat, cdn (by have := hprev (by omega); omega)]
      exact ih
theorem szm_7 (n m1 : Nat) (r1 : List (Int × Int × Int) → List (List Int) → Int → List Cl → Int → Int → List Bool → Option ((Bool × Unit) × Unit)) (m2 : Nat) (r2 : List (Int × Int × Int) → List (List Int) → Int → List Cl → Int → Int → Int → Int → List Bool → List Bool → Option ((Bool × Unit) × Unit)) (l : List (Int × Int × Int)) (d : List (List Int)) (k : Int) (cs : List Cl) (nn i : Int) (p : Int) (w : List Int) (hw : Ris w) (b : List Bool) (hb : b.length = 9) (hbw : ∀ y ∈ w, List.getD b y.toNat false = true)
    {a33 : List Int} {a34 a35 a36 a37 : Int} {a38 : Bool} {a39 : List Cl} {a40 : Int} {a41 a42 : Bool} {a43 : List Int} {a44 a45 : Int} {a46 a47 : Bool} {a48 : List Cl} {a49 : Int} {a50 : Cl} {a51 a52 : Int} {a53 : List (List Int)} {a54 : List Int} {a55 : Int} {a56 : Bool} : ∀ (g m x got : Nat) (s : List Bool), x + g = w.length → g < m → s.length = 9 → (∀ y ∈ w.drop x, List.getD s y.toNat false = false) → got ≤ 100 + x →
    pleachlaw8_ClusSizes_L7 n m1 r1 m2 r2 m l d k cs nn i (got : Int) p w (x : Int) a33 a34 a35 a36 a37 a38 a39 a40 a41 a42 a43 a44 a45 a46 a47 a48 a49 a50 a51 a52 a53 a54 a55 a56 b s = r2 l d k cs nn i ((got + g : Nat) : Int) (IntKind.wrap .i64 (p + 1)) b (marks8 (w.drop x) s)
  | g, 0, x, got, s, _, h, _, _, _ => by omega
  | 0, m + 1, x, got, s, hg, hm, hs, hx, h1 => by
    show pleachlaw8_ClusSizes_B7 (pleachlaw8_ClusSizes_L7 n m1 r1 m2 r2 m) r2 l d k cs nn i (got : Int) p w (x : Int) a33 a34 a35 a36 a37 a38 a39 a40 a41 a42 a43 a44 a45 a46 a47 a48 a49 a50 a51 a52 a53 a54 a55 a56 b s = _
    unfold pleachlaw8_ClusSizes_B7
    rw [cdn (by omega), List.drop_eq_nil_of_le (by omega)]; rfl
  | g + 1, m + 1, x, got, s, hg, hm, hs, hx, h1 => by
    show pleachlaw8_ClusSizes_B7 (pleachlaw8_ClusSizes_L7 n m1 r1 m2 r2 m) r2 l d k cs nn i (got : Int) p w (x : Int) a33 a34 a35 a36 a37 a38 a39 a40 a41 a42 a43 a44 a45 a46 a47 a48 a49 a50 a51 a52 a53 a54 a55 a56 b s = _
    have hi : x < w.length := by omega
    have h8 := hw.le8
    have hr := hw.range (List.getElem_mem hi)
    have hbx := hbw _ (List.getElem_mem hi)
    rw [List.drop_eq_getElem_cons hi] at hx ⊢
    have hd : (w[x] :: w.drop (x + 1)).Pairwise (· < ·) := by rw [← List.drop_eq_getElem_cons hi]; exact hw.pw.drop
    have hd := (List.pairwise_cons.1 hd).1
    have g2 := hx _ (List.mem_cons_self ..)
    have hrest := fun y (h : y ∈ w.drop (x + 1)) => hx y (List.mem_cons_of_mem _ h)
    have ih := szm_7 (a33 := a33) (a34 := a34) (a35 := a35) (a36 := a36) (a37 := a37) (a38 := a38) (a39 := a39) (a40 := a40) (a41 := a41) (a42 := a42) (a43 := a43) (a44 := a44) (a45 := a45) (a46 := a46) (a47 := a47) (a48 := a48) (a49 := a49) (a50 := a50) (a51 := a51) (a52 := a52) (a53 := a53) (a54 := a54) (a55 := a55) (a56 := a56) n m1 r1 m2 r2 l d k cs nn i p w hw b hb hbw g m (x + 1) (got + 1) (s.set w[x].toNat true) (by omega) (by omega) (by rw [List.length_set]; exact hs) (fun y hy => by
      have := hd y hy
      rw [List.getD_eq_getElem?_getD, List.getElem?_set_ne (by omega), ← List.getD_eq_getElem?_getD]
      exact hrest y hy) (by omega)
    have en : got + 1 + g = got + (g + 1) := by omega
    rw [en] at ih
    have hprev : 0 < x → List.getD w (x - 1) 0 < w[x] := fun h0 => by
      have hj : x - 1 < w.length := by omega
      rw [getD_at hj]
      exact List.pairwise_iff_getElem.1 hw.pw (x - 1) x hj hi (by omega)
    unfold pleachlaw8_ClusSizes_B7
    have cx : (decide ((0 : Int) ≤ (x : Int)) && decide ((x : Int) < (w.length : Int))) = true := by simp only [Bool.and_eq_true, decide_eq_true_eq]; omega
    have eg : IntKind.wrap .i64 ((got : Int) + 1) = ((got + 1 : Nat) : Int) := inext (by omega)
    rw [cdp (by omega), toNat_nat, getD_at hi, inext (i := x) (by omega), eg]
    have c1 : decide (w[x] < 9) = true := decide_eq_true (by omega)
    have c2 : decide (w[x] < (b.length : Int)) = true := decide_eq_true (by omega)
    have c3 : decide (w[x] < (s.length : Int)) = true := decide_eq_true (by omega)
    have c4 : decide ((0 : Int) ≤ w[x]) = true := decide_eq_true (by omega)
    have c5 : decide (w[x] < 1) = false := decide_eq_false (by omega)
    have c6 : decide (w[x] > 8) = false := decide_eq_false (by omega)
    simp only [cx, c1, c2, c3, c4, c5, c6, hbx, g2, Bool.and_self, cond_true, cond_false, nt, nf]
    by_cases h0 : x = 0
    · rw [cdn (by omega)]
      exact ih
    · have ew : IntKind.wrap .i64 ((x : Int) - 1) = ((x - 1 : Nat) : Int) := by rw [wi64 (by omega) (by omega)]; omega
      rw [cdp (by omega), ew, ct (by simp only [Bool.and_eq_true, decide_eq_true_eq]; omega), toNat_nat, cdn (by have := hprev (by omega); omega)]
      exact ih
theorem szm_8 (n m1 : Nat) (r1 : List (Int × Int × Int) → List (List Int) → Int → List Cl → Int → Int → List Bool → Option ((Bool × Unit) × Unit)) (m2 : Nat) (r2 : List (Int × Int × Int) → List (List Int) → Int → List Cl → Int → Int → Int → Int → List Bool → List Bool → Option ((Bool × Unit) × Unit)) (l : List (Int × Int × Int)) (d : List (List Int)) (k : Int) (cs : List Cl) (nn i : Int) (p : Int) (w : List Int) (hw : Ris w) (b : List Bool) (hb : b.length = 9) (hbw : ∀ y ∈ w, List.getD b y.toNat false = true)
    {a33 : List Int} {a34 a35 a36 a37 : Int} {a38 : Bool} {a39 : List Cl} {a40 : Int} {a41 a42 a43 : Bool} {a44 : List Cl} {a45 : Int} {a46 : Cl} {a47 a48 : Int} {a49 : List (List Int)} {a50 : List Int} {a51 : Int} {a52 : Bool} : ∀ (g m x got : Nat) (s : List Bool), x + g = w.length → g < m → s.length = 9 → (∀ y ∈ w.drop x, List.getD s y.toNat false = false) → got ≤ 100 + x →
    pleachlaw8_ClusSizes_L8 n m1 r1 m2 r2 m l d k cs nn i (got : Int) p w (x : Int) a33 a34 a35 a36 a37 a38 a39 a40 a41 a42 a43 a44 a45 a46 a47 a48 a49 a50 a51 a52 b s = r2 l d k cs nn i ((got + g : Nat) : Int) (IntKind.wrap .i64 (p + 1)) b (marks8 (w.drop x) s)
  | g, 0, x, got, s, _, h, _, _, _ => by omega
  | 0, m + 1, x, got, s, hg, hm, hs, hx, h1 => by
    show pleachlaw8_ClusSizes_B8 (pleachlaw8_ClusSizes_L8 n m1 r1 m2 r2 m) r2 l d k cs nn i (got : Int) p w (x : Int) a33 a34 a35 a36 a37 a38 a39 a40 a41 a42 a43 a44 a45 a46 a47 a48 a49 a50 a51 a52 b s = _
    unfold pleachlaw8_ClusSizes_B8
    rw [cdn (by omega), List.drop_eq_nil_of_le (by omega)]; rfl
  | g + 1, m + 1, x, got, s, hg, hm, hs, hx, h1 => by
    show pleachlaw8_ClusSizes_B8 (pleachlaw8_ClusSizes_L8 n m1 r1 m2 r2 m) r2 l d k cs nn i (got : Int) p w (x : Int) a33 a34 a35 a36 a37 a38 a39 a40 a41 a42 a43 a44 a45 a46 a47 a48 a49 a50 a51 a52 b s = _
    have hi : x < w.length := by omega
    have h8 := hw.le8
    have hr := hw.range (List.getElem_mem hi)
    have hbx := hbw _ (List.getElem_mem hi)
    rw [List.drop_eq_getElem_cons hi] at hx ⊢
    have hd : (w[x] :: w.drop (x + 1)).Pairwise (· < ·) := by rw [← List.drop_eq_getElem_cons hi]; exact hw.pw.drop
    have hd := (List.pairwise_cons.1 hd).1
    have g2 := hx _ (List.mem_cons_self ..)
    have hrest := fun y (h : y ∈ w.drop (x + 1)) => hx y (List.mem_cons_of_mem _ h)
    have ih := szm_8 (a33 := a33) (a34 := a34) (a35 := a35) (a36 := a36) (a37 := a37) (a38 := a38) (a39 := a39) (a40 := a40) (a41 := a41) (a42 := a42) (a43 := a43) (a44 := a44) (a45 := a45) (a46 := a46) (a47 := a47) (a48 := a48) (a49 := a49) (a50 := a50) (a51 := a51) (a52 := a52) n m1 r1 m2 r2 l d k cs nn i p w hw b hb hbw g m (x + 1) (got + 1) (s.set w[x].toNat true) (by omega) (by omega) (by rw [List.length_set]; exact hs) (fun y hy => by
      have := hd y hy
      rw [List.getD_eq_getElem?_getD, List.getElem?_set_ne (by omega), ← List.getD_eq_getElem?_getD]
      exact hrest y hy) (by omega)
    have en : got + 1 + g = got + (g + 1) := by omega
    rw [en] at ih
    have hprev : 0 < x → List.getD w (x - 1) 0 < w[x] := fun h0 => by
      have hj : x - 1 < w.length := by omega
      rw [getD_at hj]
      exact List.pairwise_iff_getElem.1 hw.pw (x - 1) x hj hi (by omega)
    unfold pleachlaw8_ClusSizes_B8
    have cx : (decide ((0 : Int) ≤ (x : Int)) && decide ((x : Int) < (w.length : Int))) = true := by simp only [Bool.and_eq_true, decide_eq_true_eq]; omega
    have eg : IntKind.wrap .i64 ((got : Int) + 1) = ((got + 1 : Nat) : Int) := inext (by omega)
    rw [cdp (by omega), toNat_nat, getD_at hi, inext (i := x) (by omega), eg]
    have c1 : decide (w[x] < 9) = true := decide_eq_true (by omega)
    have c2 : decide (w[x] < (b.length : Int)) = true := decide_eq_true (by omega)
    have c3 : decide (w[x] < (s.length : Int)) = true := decide_eq_true (by omega)
    have c4 : decide ((0 : Int) ≤ w[x]) = true := decide_eq_true (by omega)
    have c5 : decide (w[x] < 1) = false := decide_eq_false (by omega)
    have c6 : decide (w[x] > 8) = false := decide_eq_false (by omega)
    simp only [cx, c1, c2, c3, c4, c5, c6, hbx, g2, Bool.and_self, cond_true, cond_false, nt, nf]
    by_cases h0 : x = 0
    · rw [cdn (by omega)]
      exact ih
    · have ew : IntKind.wrap .i64 ((x : Int) - 1) = ((x - 1 : Nat) : Int) := by rw [wi64 (by omega) (by omega)]; omega
      rw [cdp (by omega), ew, ct (by simp only [Bool.and_eq_true, decide_eq_true_eq]; omega), toNat_nat, cdn (by have := hprev (by omega); omega)]
      exact ih
theorem szc_2 (n : Nat) (hn : 100 < n) (m1 : Nat) (r1 : List (Int × Int × Int) → Int → Int → Int → List (List Int) → List Cl → List Bool → Option ((Bool × Unit) × Unit)) {d : List (List Int)} (h : OkD d) {k : Nat} (hk : 1 ≤ k) (hk2 : k ≤ 100) (l : List (Int × Int × Int)) (cs : List Cl) (hc : Clus (eD d) cs) (hs : Sized k cs) (i : Nat) (hi : i < 1000) (b : List Bool) (hb : b.length = 9) (hbw : ∀ y, isIn cs y → List.getD b y.toNat false = true) : ∀ (g m p got : Nat) (s : List Bool), p + g = cs.length → g < m → s.length = 9 → (∀ y, isIn (cs.drop p) y → List.getD s y.toNat false = false) → got + total (cs.drop p) = total cs →
    pleachlaw8_ClusSizes_L2 n m1 r1 m l d (k : Int) cs ((total cs : Nat) : Int) (i : Int) (got : Int) (p : Int) b s = (pleachlaw8_ClusSizes_L5 n m1) l d (k : Int) cs ((total cs : Nat) : Int) ((i + 1 : Nat) : Int) b
  | g, 0, p, got, s, _, h, _, _, _ => by omega
  | 0, m + 1, p, got, s, hg, hm, hs9, hx, ht => by
    show pleachlaw8_ClusSizes_B2 (pleachlaw8_ClusSizes_L3 n m1 r1 m (pleachlaw8_ClusSizes_L2 n m1 r1 m) n) (pleachlaw8_ClusSizes_L4 n m1 r1 m (pleachlaw8_ClusSizes_L2 n m1 r1 m) n) (pleachlaw8_ClusSizes_L5 n m1) l d (k : Int) cs ((total cs : Nat) : Int) (i : Int) (got : Int) (p : Int) b s = _
    have : total (cs.drop p) = 0 := by rw [List.drop_eq_nil_of_le (by omega)]; rfl
    unfold pleachlaw8_ClusSizes_B2
    rw [cdn (by omega), cnen (by omega), inext (by omega)]
  | g + 1, m + 1, p, got, s, hg, hm, hs9, hx, ht => by
    show pleachlaw8_ClusSizes_B2 (pleachlaw8_ClusSizes_L3 n m1 r1 m (pleachlaw8_ClusSizes_L2 n m1 r1 m) n) (pleachlaw8_ClusSizes_L4 n m1 r1 m (pleachlaw8_ClusSizes_L2 n m1 r1 m) n) (pleachlaw8_ClusSizes_L5 n m1) l d (k : Int) cs ((total cs : Nat) : Int) (i : Int) (got : Int) (p : Int) b s = _
    have hp : p < cs.length := by omega
    have h8 := hc.len_le
    have ht8 := hc.total_le
    have hci := hc.ris _ (List.getElem_mem hp)
    have hci8 := hci.1.le8
    have hsz := hs.1 _ (List.getElem_mem hp)
    have hsz2 := fun q => hs.2 q _ (List.getElem_mem hp)
    have e0 : List.getD cs p ([], 0) = cs[p] := getD_at hp _
    have hpos := List.length_pos_iff.2 hci.2.1
    have hdc : Clus (eD d) (cs[p] :: cs.drop (p + 1)) := by
      rw [← List.drop_eq_getElem_cons hp]
      exact ⟨fun c hcm => hc.ris c (List.mem_of_mem_drop hcm), hc.apart.drop⟩
    have hap := (Clus.cons.1 hdc).2.1
    rw [List.drop_eq_getElem_cons hp] at hx ht
    rw [total_cons] at ht
    have ih := szc_2 n hn m1 r1 h hk hk2 l cs hc hs i hi b hb hbw g m (p + 1) (got + cs[p].1.length) (marks8 cs[p].1 s) (by omega) (by omega) (by rw [marks8_len]; exact hs9) (fun x hxx => by
      rw [marks8_other]
      · exact hx x (isIn_cons.2 (.inr hxx))
      · intro y hy e
        have h1 := hci.1.range hy
        obtain ⟨cc, hcc, hm⟩ := hxx
        have h2 := (hdc.ris cc (List.mem_cons_of_mem _ hcc)).1.range hm
        have : y = x := by omega
        subst this
        exact hap y hy ⟨cc, hcc, hm⟩) (by omega)
    have hbm : ∀ y ∈ cs[p].1, List.getD b y.toNat false = true := fun y hy => hbw y ⟨_, List.getElem_mem hp, hy⟩
    have hsm : ∀ y ∈ cs[p].1.drop 0, List.getD s y.toNat false = false := fun y hy => by
      rw [List.drop_zero] at hy; exact hx y (isIn_cons.2 (.inl hy))
    have z0 : (0 : Int) = ((0 : Nat) : Int) := rfl
    have hw : IntKind.wrap .i64 ((IntKind.wrap .i64 (3 * (k : Int))) - 1) = ((3 * k - 1 : Nat) : Int) := by rw [wi64 (x := 3 * (k : Int)) (by omega) (by omega), wi64 (by omega) (by omega)]; omega
    unfold pleachlaw8_ClusSizes_B2
    rw [toNat_nat, e0, cdp (by omega), ct (by simp only [Bool.and_eq_true, decide_eq_true_eq]; omega), cdn (by omega), cdn (by rw [hw]; omega)]
    by_cases h1 : 1 < cs.length
    · have := hsz2 h1
      rw [cdp (by omega), cdn (by omega), ct (by simp only [Bool.and_eq_true, decide_eq_true_eq]; omega), ref_Mid_is h _ (fun x hx => hci.1.range hx) (by omega)]
      dsimp only [Option.bind_some]
      rw [cnen hci.2.2]
      refine (szm_3 n m1 r1 m (pleachlaw8_ClusSizes_L2 n m1 r1 m) l d (k : Int) cs ((total cs : Nat) : Int) (i : Int) (p : Int) cs[p].1 hci.1 b hb hbm cs[p].1.length n 0 got s (by omega) (by omega) hs9 hsm (by omega)).trans ?_
      rw [inext (by omega), List.drop_zero]
      exact ih
    · rw [cdn (by omega), ct (by simp only [Bool.and_eq_true, decide_eq_true_eq]; omega), ref_Mid_is h _ (fun x hx => hci.1.range hx) (by omega)]
      dsimp only [Option.bind_some]
      rw [cnen hci.2.2]
      refine (szm_4 n m1 r1 m (pleachlaw8_ClusSizes_L2 n m1 r1 m) l d (k : Int) cs ((total cs : Nat) : Int) (i : Int) (p : Int) cs[p].1 hci.1 b hb hbm cs[p].1.length n 0 got s (by omega) (by omega) hs9 hsm (by omega)).trans ?_
      rw [inext (by omega), List.drop_zero]
      exact ih
theorem szc_6 (n : Nat) (hn : 100 < n) (m1 : Nat) (r1 : List (Int × Int × Int) → List (List Int) → Int → List Cl → Int → Int → List Bool → Option ((Bool × Unit) × Unit)) {d : List (List Int)} (h : OkD d) {k : Nat} (hk : 1 ≤ k) (hk2 : k ≤ 100) (l : List (Int × Int × Int)) (cs : List Cl) (hc : Clus (eD d) cs) (hs : Sized k cs) (i : Nat) (hi : i < 1000) (b : List Bool) (hb : b.length = 9) (hbw : ∀ y, isIn cs y → List.getD b y.toNat false = true) : ∀ (g m p got : Nat) (s : List Bool), p + g = cs.length → g < m → s.length = 9 → (∀ y, isIn (cs.drop p) y → List.getD s y.toNat false = false) → got + total (cs.drop p) = total cs →
    pleachlaw8_ClusSizes_L6 n m1 r1 m l d (k : Int) cs ((total cs : Nat) : Int) (i : Int) (got : Int) (p : Int) b s = r1 l d (k : Int) cs ((total cs : Nat) : Int) ((i + 1 : Nat) : Int) b
  | g, 0, p, got, s, _, h, _, _, _ => by omega
  | 0, m + 1, p, got, s, hg, hm, hs9, hx, ht => by
    show pleachlaw8_ClusSizes_B6 (pleachlaw8_ClusSizes_L7 n m1 r1 m (pleachlaw8_ClusSizes_L6 n m1 r1 m) n) (pleachlaw8_ClusSizes_L8 n m1 r1 m (pleachlaw8_ClusSizes_L6 n m1 r1 m) n) r1 l d (k : Int) cs ((total cs : Nat) : Int) (i : Int) (got : Int) (p : Int) b s = _
    have : total (cs.drop p) = 0 := by rw [List.drop_eq_nil_of_le (by omega)]; rfl
    unfold pleachlaw8_ClusSizes_B6
    rw [cdn (by omega), cnen (by omega), inext (by omega)]
  | g + 1, m + 1, p, got, s, hg, hm, hs9, hx, ht => by
    show pleachlaw8_ClusSizes_B6 (pleachlaw8_ClusSizes_L7 n m1 r1 m (pleachlaw8_ClusSizes_L6 n m1 r1 m) n) (pleachlaw8_ClusSizes_L8 n m1 r1 m (pleachlaw8_ClusSizes_L6 n m1 r1 m) n) r1 l d (k : Int) cs ((total cs : Nat) : Int) (i : Int) (got : Int) (p : Int) b s = _
    have hp : p < cs.length := by omega
    have h8 := hc.len_le
    have ht8 := hc.total_le
    have hci := hc.ris _ (List.getElem_mem hp)
    have hci8 := hci.1.le8
    have hsz := hs.1 _ (List.getElem_mem hp)
    have hsz2 := fun q => hs.2 q _ (List.getElem_mem hp)
    have e0 : List.getD cs p ([], 0) = cs[p] := getD_at hp _
    have hpos := List.length_pos_iff.2 hci.2.1
    have hdc : Clus (eD d) (cs[p] :: cs.drop (p + 1)) := by
      rw [← List.drop_eq_getElem_cons hp]
      exact ⟨fun c hcm => hc.ris c (List.mem_of_mem_drop hcm), hc.apart.drop⟩
    have hap := (Clus.cons.1 hdc).2.1
    rw [List.drop_eq_getElem_cons hp] at hx ht
    rw [total_cons] at ht
    have ih := szc_6 n hn m1 r1 h hk hk2 l cs hc hs i hi b hb hbw g m (p + 1) (got + cs[p].1.length) (marks8 cs[p].1 s) (by omega) (by omega) (by rw [marks8_len]; exact hs9) (fun x hxx => by
      rw [marks8_other]
      · exact hx x (isIn_cons.2 (.inr hxx))
      · intro y hy e
        have h1 := hci.1.range hy
        obtain ⟨cc, hcc, hm⟩ := hxx
        have h2 := (hdc.ris cc (List.mem_cons_of_mem _ hcc)).1.range hm
        have : y = x := by omega
        subst this
        exact hap y hy ⟨cc, hcc, hm⟩) (by omega)
    have hbm : ∀ y ∈ cs[p].1, List.getD b y.toNat false = true := fun y hy => hbw y ⟨_, List.getElem_mem hp, hy⟩
    have hsm : ∀ y ∈ cs[p].1.drop 0, List.getD s y.toNat false = false := fun y hy => by
      rw [List.drop_zero] at hy; exact hx y (isIn_cons.2 (.inl hy))
    have z0 : (0 : Int) = ((0 : Nat) : Int) := rfl
    have hw : IntKind.wrap .i64 ((IntKind.wrap .i64 (3 * (k : Int))) - 1) = ((3 * k - 1 : Nat) : Int) := by rw [wi64 (x := 3 * (k : Int)) (by omega) (by omega), wi64 (by omega) (by omega)]; omega
    unfold pleachlaw8_ClusSizes_B6
    rw [toNat_nat, e0, cdp (by omega), ct (by simp only [Bool.and_eq_true, decide_eq_true_eq]; omega), cdn (by omega), cdn (by rw [hw]; omega)]
    by_cases h1 : 1 < cs.length
    · have := hsz2 h1
      rw [cdp (by omega), cdn (by omega), ct (by simp only [Bool.and_eq_true, decide_eq_true_eq]; omega), ref_Mid_is h _ (fun x hx => hci.1.range hx) (by omega)]
      dsimp only [Option.bind_some]
      rw [cnen hci.2.2]
      refine (szm_7 n m1 r1 m (pleachlaw8_ClusSizes_L6 n m1 r1 m) l d (k : Int) cs ((total cs : Nat) : Int) (i : Int) (p : Int) cs[p].1 hci.1 b hb hbm cs[p].1.length n 0 got s (by omega) (by omega) hs9 hsm (by omega)).trans ?_
      rw [inext (by omega), List.drop_zero]
      exact ih
    · rw [cdn (by omega), ct (by simp only [Bool.and_eq_true, decide_eq_true_eq]; omega), ref_Mid_is h _ (fun x hx => hci.1.range hx) (by omega)]
      dsimp only [Option.bind_some]
      rw [cnen hci.2.2]
      refine (szm_8 n m1 r1 m (pleachlaw8_ClusSizes_L6 n m1 r1 m) l d (k : Int) cs ((total cs : Nat) : Int) (i : Int) (p : Int) cs[p].1 hci.1 b hb hbm cs[p].1.length n 0 got s (by omega) (by omega) hs9 hsm (by omega)).trans ?_
      rw [inext (by omega), List.drop_zero]
      exact ih
theorem isIn_range8 {D : Int → Int → Int} {cs : List Cl} (h : Clus D cs) {x : Int} (hx : isIn cs x) : 1 ≤ x ∧ x ≤ 8 := by
  obtain ⟨c, hc, hm⟩ := hx
  exact (h.ris c hc).1.range hm
theorem sizes8_L5 (n : Nat) (hn : 100 < n) {d : List (List Int)} (hd : OkD d) {k : Nat} (hk : 1 ≤ k) (hk2 : k ≤ 100) (l : List (Int × Int × Int)) (hl : ∀ x ∈ l, (0 ≤ x.1 ∧ x.1 < 256) ∧ (0 ≤ x.2.1 ∧ x.2.1 < 256) ∧ (0 ≤ x.2.2 ∧ x.2.2 < 256)) (h6 : l.length ≤ 100) : ∀ (c m i : Nat) (cs : List Cl) (b : List Bool), i + c = l.length → c < m → Clus (eD d) cs → Sized k cs → b.length = 9 → (∀ y, 1 ≤ y ∧ y ≤ 8 → (List.getD b y.toNat false = true ↔ isIn cs y)) →
    pleachlaw8_ClusSizes_L5 n m l d (k : Int) cs ((total cs : Nat) : Int) (i : Int) b = some ((true, ()), ())
  | c, 0, i, cs, b, _, h, _, _, _, _ => by omega
  | 0, m + 1, i, cs, b, hcl, hm, hc, hs, hb9, hb => by
    show pleachlaw8_ClusSizes_B5 (pleachlaw8_ClusSizes_L6 n m (pleachlaw8_ClusSizes_L5 n m) n) l d (k : Int) cs ((total cs : Nat) : Int) (i : Int) b = _
    unfold pleachlaw8_ClusSizes_B5
    rw [cdn (by omega)]
  | c + 1, m + 1, i, cs, b, hcl, hm, hc, hs, hb9, hb => by
    show pleachlaw8_ClusSizes_B5 (pleachlaw8_ClusSizes_L6 n m (pleachlaw8_ClusSizes_L5 n m) n) l d (k : Int) cs ((total cs : Nat) : Int) (i : Int) b = _
    have hi : i < l.length := by omega
    obtain ⟨g1, g2, g3⟩ := hl _ (List.getElem_mem hi)
    have hlen := hc.len_le
    have ht8 := hc.total_le
    have c0 : (decide ((0 : Int) ≤ (i : Int)) && decide ((i : Int) < (l.length : Int))) = true := by simp only [Bool.and_eq_true, decide_eq_true_eq]; omega
    unfold pleachlaw8_ClusSizes_B5
    rw [cdp (by omega), toNat_nat, getD_at hi]
    simp only [c0, cond_true]
    generalize l[i] = x at *
    have t3 : Int.tmod x.2.2 3 = x.2.2 % 3 := Int.tmod_eq_emod_of_nonneg g3.1
    have t8 : IntKind.wrap .i64 (1 + (IntKind.wrap .i64 (Int.tmod x.1 8))) = 1 + x.1 % 8 := by
      rw [Int.tmod_eq_emod_of_nonneg g1.1, wi64 (x := x.1 % 8) (by omega) (by omega), wi64 (by omega) (by omega)]
    rw [t8]
    have hid : 1 ≤ 1 + x.1 % 8 ∧ 1 + x.1 % 8 ≤ 8 := by omega
    generalize 1 + x.1 % 8 = id at *
    have cb : ((decide ((0 : Int) ≤ id) && decide (id < 9)) && decide (id < (b.length : Int))) = true := by simp only [Bool.and_eq_true, decide_eq_true_eq]; omega
    have cb2 : (decide ((0 : Int) ≤ id) && decide (id < (b.length : Int))) = true := by simp only [Bool.and_eq_true, decide_eq_true_eq]; omega
    simp only [cb, cb2, cond_true]
    have z0 : (0 : Int) = ((0 : Nat) : Int) := rfl
    have rep9 : ∀ y : Int, List.getD (List.replicate 9 false) y.toNat false = false := fun y => by
      rw [List.getD_eq_getElem?_getD, List.getElem?_replicate]; split <;> rfl
    have key : ∀ (cs' : List Cl) (v : Bool), Clus (eD d) cs' → Sized k cs' → (∀ y, 1 ≤ y ∧ y ≤ 8 → (List.getD (b.set id.toNat v) y.toNat false = true ↔ isIn cs' y)) →
        pleachlaw8_ClusSizes_L6 n m (pleachlaw8_ClusSizes_L5 n m) n l d (k : Int) cs' ((total cs' : Nat) : Int) (i : Int) 0 0 (b.set id.toNat v) (List.replicate 9 false) = some ((true, ()), ()) := fun cs' v hc' hs' hb' => by
      have hlen' := hc'.len_le
      have q := szc_6 n hn m (pleachlaw8_ClusSizes_L5 n m) hd hk hk2 l cs' hc' hs' i (by omega) (b.set id.toNat v) (by rw [List.length_set]; exact hb9) (fun y hy => (hb' y (isIn_range8 hc' hy)).2 hy) cs'.length n 0 0 (List.replicate 9 false) (by omega) (by omega) (by simp) (fun y _ => rep9 y) (by rw [List.drop_zero]; omega)
      rw [← z0] at q
      rw [q]
      exact sizes8_L5 n hn hd hk hk2 l hl h6 c m (i + 1) cs' (b.set id.toNat v) (by omega) (by omega) hc' hs' (by rw [List.length_set]; exact hb9) hb'
    have hset : ∀ (v : Bool) (y : Int), 1 ≤ y ∧ y ≤ 8 → List.getD (b.set id.toNat v) y.toNat false = if y = id then v else List.getD b y.toNat false := fun v y hy => by
      rw [List.getD_eq_getElem?_getD, List.getD_eq_getElem?_getD]
      by_cases e : y = id
      · subst e; rw [List.getElem?_set_self (by omega), if_pos rfl]; rfl
      · rw [List.getElem?_set_ne (by omega), if_neg e]
    by_cases hj : x.2.2 % 3 > 0
    · rw [cdp (by omega)]
      have hmx : (if 1 > (cs.length : Int) then (1 : Int) else (cs.length : Int)) = ((max cs.length 1 : Nat) : Int) := by
        by_cases g : 1 > (cs.length : Int)
        · rw [if_pos g]; omega
        · rw [if_neg g]; omega
      rw [hmx, wi64 (x := x.2.1) (by omega) (by omega), Int.tmod_eq_emod_of_nonneg g2.1]
      have hm1 : (1 : Int) ≤ ((max cs.length 1 : Nat) : Int) := by omega
      have hne : ((((max cs.length 1 : Nat) : Int)) == 0) = false := beq_eq_false_iff_ne.2 (by omega)
      have a1 := Int.emod_nonneg x.2.1 (show ((max cs.length 1 : Nat) : Int) ≠ 0 by omega)
      have a2 := Int.emod_lt_of_pos x.2.1 (show (0 : Int) < ((max cs.length 1 : Nat) : Int) by omega)
      rw [hne, nf, cond_true]
      have hat : cs = [] ∨ 0 ≤ x.2.1 % ((max cs.length 1 : Nat) : Int) ∧ x.2.1 % ((max cs.length 1 : Nat) : Int) < (cs.length : Int) := by
        by_cases hn0 : cs = []
        · exact .inl hn0
        · have := List.length_pos_iff.2 hn0
          exact .inr ⟨a1, by omega⟩
      generalize x.2.1 % ((max cs.length 1 : Nat) : Int) = at_ at *
      have hJ := joinF_clus (D := eD d) hk (at_ := at_) (id := id) hid.1 hid.2 hc
      have hJ3 := hJ.2.2 hat
      have hJ8 := hJ.1.total_le
      rw [clus_Join_is hd hk hk2 cs hc _ _ hid]
      dsimp only [Option.bind_some]
      have kk := key (joinF (eD d) k cs at_ id) true hJ.1 (hJ.2.1 hs) (fun y hy => by
        rw [hset true y hy, hJ3.1 y]
        by_cases e : y = id
        · rw [if_pos e]; exact ⟨fun _ => .inr e, fun _ => rfl⟩
        · rw [if_neg e, hb y hy]; exact ⟨.inl, fun h => h.resolve_right e⟩)
      cases hq : List.getD b id.toNat false with
      | false =>
        have hno : ¬ 0 ≤ homeF cs id := fun h => by have := (hb id hid).2 (homeF_pos.1 h); rw [hq] at this; cases this
        have ht := hJ3.2
        rw [if_neg hno] at ht
        have ew : IntKind.wrap .i64 (((total cs : Nat) : Int) + 1) = ((total (joinF (eD d) k cs at_ id) : Nat) : Int) := by rw [wi64 (by omega) (by omega)]; omega
        rw [nf, cond_true, ew]
        exact kk
      | true =>
        have hyes : 0 ≤ homeF cs id := homeF_pos.2 ((hb id hid).1 hq)
        have ht := hJ3.2
        rw [if_pos hyes, Nat.add_zero] at ht
        rw [nt, cond_false, ← ht]
        exact kk
    · rw [cdn (by omega)]
      have hL := leaveF_clus (D := eD d) hk (id := id) hc
      have hL8 := hL.1.total_le
      rw [clus_Leave_is hd hk hk2 cs hc]
      dsimp only [Option.bind_some]
      have kk := key (leaveF (eD d) k cs id) false hL.1 (hL.2.1 hs) (fun y hy => by
        rw [hset false y hy, hL.2.2.1 y]
        by_cases e : y = id
        · rw [if_pos e]; exact ⟨fun h => (nomatch h), fun h => absurd e h.2⟩
        · rw [if_neg e, hb y hy]; exact ⟨fun h => ⟨h, e⟩, fun h => h.1⟩)
      cases hq : List.getD b id.toNat false with
      | false =>
        have hno : ¬ 0 ≤ homeF cs id := fun h => by have := (hb id hid).2 (homeF_pos.1 h); rw [hq] at this; cases this
        have ht := hL.2.2.2
        rw [if_neg hno, Nat.add_zero] at ht
        rw [cond_false, ← ht]
        exact kk
      | true =>
        have hyes : 0 ≤ homeF cs id := homeF_pos.2 ((hb id hid).1 hq)
        have ht := hL.2.2.2
        rw [if_pos hyes] at ht
        have ew : IntKind.wrap .i64 (((total cs : Nat) : Int) - 1) = ((total (leaveF (eD d) k cs id) : Nat) : Int) := by rw [wi64 (by omega) (by omega)]; omega
        rw [cond_true, ew]
        exact kk
theorem sizes8_L1 (n : Nat) (hn : 100 < n) {d : List (List Int)} (hd : OkD d) {k : Nat} (hk : 1 ≤ k) (hk2 : k ≤ 100) (l : List (Int × Int × Int)) (hl : ∀ x ∈ l, (0 ≤ x.1 ∧ x.1 < 256) ∧ (0 ≤ x.2.1 ∧ x.2.1 < 256) ∧ (0 ≤ x.2.2 ∧ x.2.2 < 256)) (h6 : l.length ≤ 100) (c m i : Nat) (cs : List Cl) (b : List Bool) (hcl : i + (c + 1) = l.length) (hm : c < m) (hc : Clus (eD d) cs) (hs : Sized k cs) (hb9 : b.length = 9) (hb : ∀ y, 1 ≤ y ∧ y ≤ 8 → (List.getD b y.toNat false = true ↔ isIn cs y)) :
    pleachlaw8_ClusSizes_L1 n (m + 1) l (k : Int) ((total cs : Nat) : Int) (i : Int) d cs b = some ((true, ()), ()) := by
    show pleachlaw8_ClusSizes_B1 (pleachlaw8_ClusSizes_L2 n m (pleachlaw8_ClusSizes_L1 n m) n) l (k : Int) ((total cs : Nat) : Int) (i : Int) d cs b = _
    have hi : i < l.length := by omega
    obtain ⟨g1, g2, g3⟩ := hl _ (List.getElem_mem hi)
    have hlen := hc.len_le
    have ht8 := hc.total_le
    have c0 : (decide ((0 : Int) ≤ (i : Int)) && decide ((i : Int) < (l.length : Int))) = true := by simp only [Bool.and_eq_true, decide_eq_true_eq]; omega
    unfold pleachlaw8_ClusSizes_B1
    rw [cdp (by omega), toNat_nat, getD_at hi]
    simp only [c0, cond_true]
    generalize l[i] = x at *
    have t3 : Int.tmod x.2.2 3 = x.2.2 % 3 := Int.tmod_eq_emod_of_nonneg g3.1
    have t8 : IntKind.wrap .i64 (1 + (IntKind.wrap .i64 (Int.tmod x.1 8))) = 1 + x.1 % 8 := by
      rw [Int.tmod_eq_emod_of_nonneg g1.1, wi64 (x := x.1 % 8) (by omega) (by omega), wi64 (by omega) (by omega)]
    rw [t8]
    have hid : 1 ≤ 1 + x.1 % 8 ∧ 1 + x.1 % 8 ≤ 8 := by omega
    generalize 1 + x.1 % 8 = id at *
    have cb : ((decide ((0 : Int) ≤ id) && decide (id < 9)) && decide (id < (b.length : Int))) = true := by simp only [Bool.and_eq_true, decide_eq_true_eq]; omega
    have cb2 : (decide ((0 : Int) ≤ id) && decide (id < (b.length : Int))) = true := by simp only [Bool.and_eq_true, decide_eq_true_eq]; omega
    simp only [cb, cb2, cond_true]
    have z0 : (0 : Int) = ((0 : Nat) : Int) := rfl
    have rep9 : ∀ y : Int, List.getD (List.replicate 9 false) y.toNat false = false := fun y => by
      rw [List.getD_eq_getElem?_getD, List.getElem?_replicate]; split <;> rfl
    have key : ∀ (cs' : List Cl) (v : Bool), Clus (eD d) cs' → Sized k cs' → (∀ y, 1 ≤ y ∧ y ≤ 8 → (List.getD (b.set id.toNat v) y.toNat false = true ↔ isIn cs' y)) →
        pleachlaw8_ClusSizes_L2 n m (pleachlaw8_ClusSizes_L1 n m) n l d (k : Int) cs' ((total cs' : Nat) : Int) (i : Int) 0 0 (b.set id.toNat v) (List.replicate 9 false) = some ((true, ()), ()) := fun cs' v hc' hs' hb' => by
      have hlen' := hc'.len_le
      have q := szc_2 n hn m (pleachlaw8_ClusSizes_L1 n m) hd hk hk2 l cs' hc' hs' i (by omega) (b.set id.toNat v) (by rw [List.length_set]; exact hb9) (fun y hy => (hb' y (isIn_range8 hc' hy)).2 hy) cs'.length n 0 0 (List.replicate 9 false) (by omega) (by omega) (by simp) (fun y _ => rep9 y) (by rw [List.drop_zero]; omega)
      rw [← z0] at q
      rw [q]
      exact sizes8_L5 n hn hd hk hk2 l hl h6 c m (i + 1) cs' (b.set id.toNat v) (by omega) (by omega) hc' hs' (by rw [List.length_set]; exact hb9) hb'
    have hset : ∀ (v : Bool) (y : Int), 1 ≤ y ∧ y ≤ 8 → List.getD (b.set id.toNat v) y.toNat false = if y = id then v else List.getD b y.toNat false := fun v y hy => by
      rw [List.getD_eq_getElem?_getD, List.getD_eq_getElem?_getD]
      by_cases e : y = id
      · subst e; rw [List.getElem?_set_self (by omega), if_pos rfl]; rfl
      · rw [List.getElem?_set_ne (by omega), if_neg e]
    by_cases hj : x.2.2 % 3 > 0
    · rw [cdp (by omega)]
      have hmx : (if 1 > (cs.length : Int) then (1 : Int) else (cs.length : Int)) = ((max cs.length 1 : Nat) : Int) := by
        by_cases g : 1 > (cs.length : Int)
        · rw [if_pos g]; omega
        · rw [if_neg g]; omega
      rw [hmx, wi64 (x := x.2.1) (by omega) (by omega), Int.tmod_eq_emod_of_nonneg g2.1]
      have hm1 : (1 : Int) ≤ ((max cs.length 1 : Nat) : Int) := by omega
      have hne : ((((max cs.length 1 : Nat) : Int)) == 0) = false := beq_eq_false_iff_ne.2 (by omega)
      have a1 := Int.emod_nonneg x.2.1 (show ((max cs.length 1 : Nat) : Int) ≠ 0 by omega)
      have a2 := Int.emod_lt_of_pos x.2.1 (show (0 : Int) < ((max cs.length 1 : Nat) : Int) by omega)
      rw [hne, nf, cond_true]
      have hat : cs = [] ∨ 0 ≤ x.2.1 % ((max cs.length 1 : Nat) : Int) ∧ x.2.1 % ((max cs.length 1 : Nat) : Int) < (cs.length : Int) := by
        by_cases hn0 : cs = []
        · exact .inl hn0
        · have := List.length_pos_iff.2 hn0
          exact .inr ⟨a1, by omega⟩
      generalize x.2.1 % ((max cs.length 1 : Nat) : Int) = at_ at *
      have hJ := joinF_clus (D := eD d) hk (at_ := at_) (id := id) hid.1 hid.2 hc
      have hJ3 := hJ.2.2 hat
      have hJ8 := hJ.1.total_le
      rw [clus_Join_is hd hk hk2 cs hc _ _ hid]
      dsimp only [Option.bind_some]
      have kk := key (joinF (eD d) k cs at_ id) true hJ.1 (hJ.2.1 hs) (fun y hy => by
        rw [hset true y hy, hJ3.1 y]
        by_cases e : y = id
        · rw [if_pos e]; exact ⟨fun _ => .inr e, fun _ => rfl⟩
        · rw [if_neg e, hb y hy]; exact ⟨.inl, fun h => h.resolve_right e⟩)
      cases hq : List.getD b id.toNat false with
      | false =>
        have hno : ¬ 0 ≤ homeF cs id := fun h => by have := (hb id hid).2 (homeF_pos.1 h); rw [hq] at this; cases this
        have ht := hJ3.2
        rw [if_neg hno] at ht
        have ew : IntKind.wrap .i64 (((total cs : Nat) : Int) + 1) = ((total (joinF (eD d) k cs at_ id) : Nat) : Int) := by rw [wi64 (by omega) (by omega)]; omega
        rw [nf, cond_true, ew]
        exact kk
      | true =>
        have hyes : 0 ≤ homeF cs id := homeF_pos.2 ((hb id hid).1 hq)
        have ht := hJ3.2
        rw [if_pos hyes, Nat.add_zero] at ht
        rw [nt, cond_false, ← ht]
        exact kk
    · rw [cdn (by omega)]
      have hL := leaveF_clus (D := eD d) hk (id := id) hc
      have hL8 := hL.1.total_le
      rw [clus_Leave_is hd hk hk2 cs hc]
      dsimp only [Option.bind_some]
      have kk := key (leaveF (eD d) k cs id) false hL.1 (hL.2.1 hs) (fun y hy => by
        rw [hset false y hy, hL.2.2.1 y]
        by_cases e : y = id
        · rw [if_pos e]; exact ⟨fun h => (nomatch h), fun h => absurd e h.2⟩
        · rw [if_neg e, hb y hy]; exact ⟨fun h => ⟨h, e⟩, fun h => h.1⟩)
      cases hq : List.getD b id.toNat false with
      | false =>
        have hno : ¬ 0 ≤ homeF cs id := fun h => by have := (hb id hid).2 (homeF_pos.1 h); rw [hq] at this; cases this
        have ht := hL.2.2.2
        rw [if_neg hno, Nat.add_zero] at ht
        rw [cond_false, ← ht]
        exact kk
      | true =>
        have hyes : 0 ≤ homeF cs id := homeF_pos.2 ((hb id hid).1 hq)
        have ht := hL.2.2.2
        rw [if_pos hyes] at ht
        have ew : IntKind.wrap .i64 (((total cs : Nat) : Int) - 1) = ((total (leaveF (eD d) k cs id) : Nat) : Int) := by rw [wi64 (by omega) (by omega)]; omega
        rw [cond_true, ew]
        exact kk
theorem wf_u8x3' {x : Int × Int × Int} (h : wfTy (.pair (.int .u8) (.pair (.int .u8) (.int .u8))) x) : (0 ≤ x.1 ∧ x.1 < 256) ∧ (0 ≤ x.2.1 ∧ x.2.1 < 256) ∧ (0 ≤ x.2.2 ∧ x.2.2 < 256) :=
  ⟨wf_u8.1 h.1, wf_u8.1 h.2.1, wf_u8.1 h.2.2⟩
theorem pleachlaw8_ClusSizes_true {N M : Nat} (picks : List Int) (l : List (Int × Int × Int)) (least : Int) (h : wfPs [.val (.sl N (.int .u8)), .val (.sl M (.pair (.int .u8) (.pair (.int .u8) (.int .u8)))), .val (.int .u8)] (picks, l, least, ())) : pleachlaw8_ClusSizes picks l least = some ((true, ()), ()) := by
  obtain ⟨hp, hm, hle, _⟩ := h
  have hb : isBytes picks := wf_sl8' hp
  have hl : ∀ x ∈ l, (0 ≤ x.1 ∧ x.1 < 256) ∧ (0 ≤ x.2.1 ∧ x.2.1 < 256) ∧ (0 ≤ x.2.2 ∧ x.2.2 < 256) := fun x hx => wf_u8x3' (hm.2 x hx)
  have hle : 0 ≤ least ∧ least < 256 := wf_u8.1 hle
  show pleachlaw8_ClusSizes_T (pleachlaw8_ClusSizes_L1 1099511627776 1099511627776) picks l least = _
  unfold pleachlaw8_ClusSizes_T
  rw [begun8]
  dsimp only [Option.bind_some, nt, nf, cond_false, cond_true]
  by_cases h1 : picks.length > 30
  · rw [cdp (by omega)]
  rw [cdn (by omega)]
  by_cases h2 : l.length > 25
  · rw [cdp (by omega)]
  rw [cdn (by omega)]
  unfold pleachmade_Made
  dsimp only [Option.bind_some]
  obtain ⟨d, s1, e1, hd, _⟩ := pk_dist (pk_made hb (by omega))
  obtain ⟨k, k1, k2, ek⟩ := least_is hle
  rw [e1, ek]; dsimp only [Option.bind_some]
  have rep9 : ∀ y : Int, 1 ≤ y ∧ y ≤ 8 → (List.getD (List.replicate 9 false) y.toNat false = true ↔ isIn [] y) := fun y _ => by
    have e : List.getD (List.replicate 9 false) y.toNat false = false := by rw [List.getD_eq_getElem?_getD, List.getElem?_replicate]; split <;> rfl
    rw [e]; exact ⟨fun h => (nomatch h), fun h => absurd h isIn_nil⟩
  have key : ∀ n m : Nat, 100 < n → 200 < m → pleachlaw8_ClusSizes_L1 n m l (k : Int) 0 0 d [] (List.replicate 9 false) = some ((true, ()), ()) := by
    intro n m hn hm
    obtain ⟨m, rfl⟩ : ∃ m', m = m' + 1 := ⟨m - 1, by omega⟩
    cases l with
    | nil =>
      show pleachlaw8_ClusSizes_B1 (pleachlaw8_ClusSizes_L2 n m (pleachlaw8_ClusSizes_L1 n m) n) [] (k : Int) 0 0 d [] (List.replicate 9 false) = _
      unfold pleachlaw8_ClusSizes_B1
      rw [cdn (by simp)]
    | cons x r =>
      exact sizes8_L1 n hn hd k1 (by omega) (x :: r) hl (by omega) r.length m 0 [] (List.replicate 9 false) (by rw [List.length_cons]; omega) (by rw [List.length_cons] at h2; omega) Clus.nil ⟨fun _ hc => (nomatch hc), fun h => by simp at h⟩ (by simp) rep9
  exact key _ _ (by omega) (by omega)
end Go.PE
