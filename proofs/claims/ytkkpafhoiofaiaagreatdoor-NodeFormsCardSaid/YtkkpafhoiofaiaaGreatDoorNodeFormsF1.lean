/-
  Functions of the program, each as the evaluator answers it, and its contract.
  Conditions: none.
-/
import Derived.Test.YtkkpafhoiofaiaaGreatDoorNodeFormsT
import Derived.WalkKit
import Derived.BigCall
import Derived.Lib.OthersKept
set_option linter.unusedVariables false
set_option maxRecDepth 100000
namespace Go.PE
open Go.Proofs

noncomputable def unicode_utf8_RuneLen_Γ : Ctx := []
def unicode_utf8_RuneLen_fi : Fi := { keep := [], vty := [], vals := [], live := [(0, [0, 16, 17]), (1, [0, 3, 16, 17]), (2, [2]), (3, [0, 6, 16, 17]), (4, [2]), (5, [0, 9, 16, 17]), (6, [2]), (7, [0, 12]), (8, [2]), (9, [0, 19]), (10, [2]), (11, [22]), (12, [2]), (13, [2])] }
noncomputable def unicode_utf8_RuneLen (r_0 : Int) : Option ((Int × Unit) × Unit) :=
 bif decide (r_0 < 0) then
  some (((-1), ()), ())
 else
 bif decide (r_0 ≤ 127) then
  some ((1, ()), ())
 else
 bif decide (r_0 ≤ 2047) then
  some ((2, ()), ())
 else
 bif decide (55296 ≤ r_0) then
  bif decide (r_0 ≤ 57343) then
   some (((-1), ()), ())
  else
  bif decide (r_0 ≤ 65535) then
   some ((3, ()), ())
  else
  bif decide (r_0 ≤ 1114111) then
   some ((4, ()), ())
  else
   some (((-1), ()), ())
 else
 bif decide (r_0 ≤ 65535) then
  some ((3, ()), ())
 else
 bif decide (r_0 ≤ 1114111) then
  some ((4, ()), ())
 else
  some (((-1), ()), ())
theorem unicode_utf8_RuneLen_eq (r_0 : Int) : evFn unicode_utf8_RuneLen_Γ tab unicode_utf8_RuneLen_fi 1 [.val t21] [⟨t2, [false], none⟩] Tryz.f235 (r_0, ()) = unicode_utf8_RuneLen r_0 := by kernel_rfl
noncomputable def unicode_utf8_RuneLen_e : Ent := ⟨[.val t21], [⟨t2, [false], none⟩], fun x => unicode_utf8_RuneLen x.1⟩
theorem unicode_utf8_RuneLen_good : Good tab.ty Tryz.prog 235 unicode_utf8_RuneLen_e := by
  refine fn_good (Γ := unicode_utf8_RuneLen_Γ) (fi := unicode_utf8_RuneLen_fi) (n := 1) follows gnil tabok Tryz.func235 (by kernel_rfl) (by kernel_rfl) (fun x r h => ?_)
  obtain ⟨r_0, _u⟩ := x
  exact (unicode_utf8_RuneLen_eq r_0).trans h
noncomputable def unicode_utf8_DecodeRuneInString_Γ : Ctx := []
def unicode_utf8_DecodeRuneInString_fi : Fi := { keep := [], vty := [], vals := [], live := [(0, [0, 7, 8, 9]), (1, [0, 10]), (2, [2, 3]), (3, [2, 3])] }
noncomputable def unicode_utf8_DecodeRuneInString (s_0 : ByteArray) : Option ((Int × Int × Unit) × Unit) :=
 bif !(strEq s_0 (⟨#[]⟩ : ByteArray)) then
  bif decide (0 < (s_0.size : Int)) then
   bif decide (((s_0.data.getD 0 0).toNat : Int) < 128) then
    bif decide (0 < (s_0.size : Int)) then
     some ((IntKind.wrap .i32 ((s_0.data.getD 0 0).toNat : Int), 1, ()), ())
    else none
   else none
  else none
 else none
theorem unicode_utf8_DecodeRuneInString_eq (s_0 : ByteArray) : evFn unicode_utf8_DecodeRuneInString_Γ tab unicode_utf8_DecodeRuneInString_fi 1 [.val t9] [⟨t21, [false], none⟩, ⟨t2, [false], none⟩] Tryz.f236 (s_0, ()) = unicode_utf8_DecodeRuneInString s_0 := by kernel_rfl
noncomputable def unicode_utf8_DecodeRuneInString_e : Ent := ⟨[.val t9], [⟨t21, [false], none⟩, ⟨t2, [false], none⟩], fun x => unicode_utf8_DecodeRuneInString x.1⟩
theorem unicode_utf8_DecodeRuneInString_good : Good tab.ty Tryz.prog 236 unicode_utf8_DecodeRuneInString_e := by
  refine fn_good (Γ := unicode_utf8_DecodeRuneInString_Γ) (fi := unicode_utf8_DecodeRuneInString_fi) (n := 1) follows gnil tabok Tryz.func236 (by kernel_rfl) (by kernel_rfl) (fun x r h => ?_)
  obtain ⟨s_0, _u⟩ := x
  exact (unicode_utf8_DecodeRuneInString_eq s_0).trans h
noncomputable def text_Letters_fn1_Γ : Ctx := []
def text_Letters_fn1_fi : Fi := { keep := [], vty := [], vals := [], live := [(0, [3, 0]), (1, [3]), (2, [3, 7])] }
noncomputable def text_Letters_fn1 (letter_0 : Int) (x_1 : Int) (x_2 : Int) (x_3 : List Int) : Option ((Bool × Unit) × ((List Int) × Unit)) :=
 bif Nat.ble (x_3.length + 1) 1073741824 then
  some ((true, ()), (x_3 ++ [letter_0], ()))
 else none
theorem text_Letters_fn1_eq (letter_0 : Int) (x_1 : Int) (x_2 : Int) (x_3 : List Int) : evFn text_Letters_fn1_Γ tab text_Letters_fn1_fi 1 [.val t2, .val t2, .val t2, .box 23 t23 [true]] [⟨t4, [false], none⟩] Tryz.f160 (letter_0, x_1, x_2, x_3, ()) = text_Letters_fn1 letter_0 x_1 x_2 x_3 := by kernel_rfl
noncomputable def text_Letters_fn1_e : Ent := ⟨[.val t2, .val t2, .val t2, .box 23 t23 [true]], [⟨t4, [false], none⟩], fun x => text_Letters_fn1 x.1 x.2.1 x.2.2.1 x.2.2.2.1⟩
theorem text_Letters_fn1_good : Good tab.ty Tryz.prog 160 text_Letters_fn1_e := by
  refine fn_good (Γ := text_Letters_fn1_Γ) (fi := text_Letters_fn1_fi) (n := 1) follows gnil tabok Tryz.func160 (by kernel_rfl) (by kernel_rfl) (fun x r h => ?_)
  obtain ⟨letter_0, x_1, x_2, x_3, _u⟩ := x
  exact (text_Letters_fn1_eq letter_0 x_1 x_2 x_3).trans h
section
open Go.RowKit
def asciiB (s : ByteArray) : Bool := s.data.toList.all fun b => Nat.blt b.toNat 128
def lettersA (s : ByteArray) : List Int := s.data.toList.map fun b => (b.toNat : Int)
theorem asciiB_at {s : ByteArray} (h : asciiB s = true) {i : Nat} (hi : i < s.size) : (s[i]'hi).toNat < 128 := by
  have := List.all_eq_true.1 h (s.data.toList[i]'(by simpa using hi)) (List.getElem_mem _)
  exact Nat.le_of_ble_eq_true this
theorem lettersA_take {s : ByteArray} {i : Nat} (hi : i < s.size) : (lettersA s).take (i + 1) = (lettersA s).take i ++ [((s[i]'hi).toNat : Int)] := by
  have hl : i < (lettersA s).length := by simpa [lettersA] using hi
  rw [List.take_succ_eq_append_getElem hl]
  simp [lettersA]
  rfl
theorem lettersA_len (s : ByteArray) : (lettersA s).length = s.size := by simp [lettersA]
abbrev IntSl : Ty := .sl 3 (.int .i64)
def BoxAt (w : World) (B : Nat) (xs : List Int) (Bl : List Nat) : Prop :=
  VarRel tab.ty (fun _ => False) w IntSl [true] xs (.pointer (some ⟨B, 0, none⟩)) Bl
theorem intRow_any {S : Nat → Prop} {w w' : World} : ∀ {xs : List Int} {cs : List Value}, RowCells tab.ty S w (.int .i64) xs cs → RowCells tab.ty (fun _ => False) w' (.int .i64) xs cs
  | [], cs, h => h
  | x :: r, cs, h => by
    obtain ⟨c, cr, hc, h1, h2⟩ := h
    exact ⟨c, cr, hc, h1, intRow_any h2⟩
theorem BoxAt.mv {S : Nat → Prop} {w w' : World} {B : Nat} {xs : List Int} {Bl : List Nat} (h : VarRel tab.ty S w IntSl [true] xs (.pointer (some ⟨B, 0, none⟩)) Bl) (hk : ∀ j ∈ Bl, w'.heap[j]? = w.heap[j]?) : BoxAt w' B xs Bl := by
  obtain ⟨b, T, cs, B', hv, hh, hB, hown⟩ := h
  obtain ⟨c, cr, B1, B2, e1, e2, h1, h2⟩ := hown
  obtain ⟨h0, ⟨cells, hr, hc⟩, hb⟩ := h1
  subst hB; subst e2; subst hb
  refine ⟨b, T, cs, _, hv, (hk b (by simp)).trans hh, rfl, c, cr, _, B2, e1, rfl, ⟨h0, ⟨cells, ⟨hr.1, ?_⟩, intRow_any hc⟩, rfl⟩, h2⟩
  rcases hr.2 with hn | ⟨g, cap, cur, rfl, hg, hh', rest⟩
  · exact .inl hn
  · exact .inr ⟨g, cap, cur, rfl, hg, (hk g (by simp [blk])).trans hh', rest⟩
theorem runeLen_at (c : Nat) (hc : c < 128) (W : World) : Calls Tryz.prog 235 #[.int .i32 (c : Int)] W fun e W' => e = .returned (.int .i64 1) ∧ Fr (fun _ => False) W W' := by
  have hG : unicode_utf8_RuneLen_e.G ((c : Int), ()) = some (((1 : Int), ()), ()) := by
    show unicode_utf8_RuneLen (c : Int) = _
    unfold unicode_utf8_RuneLen
    rw [show decide ((c : Int) < 0) = false from decide_eq_false (by omega), show decide ((c : Int) ≤ 127) = true from decide_eq_true (by omega)]
    rfl
  refine (unicode_utf8_RuneLen_good.2 W (fun _ => False) ((c : Int), ()) [.int .i32 (c : Int)] [] (((1 : Int), ()), ()) (fun _ h => h.elim) ⟨_, _, [], [], rfl, rfl, ⟨.inr ⟨rfl, rfl⟩, rfl⟩, rfl, rfl⟩ List.nodup_nil (by simp) hG).mono ?_
  rintro e W' ⟨vs, S', B1, B2, rfl, hr, _, _, _, _, _, hf⟩
  obtain ⟨v, vr, b1, b2, rfl, _, h1, rfl, _⟩ := hr
  obtain ⟨cs, _, hcs, hcs2⟩ := h1
  have := hcs rfl; subst this
  obtain ⟨c1, cr, _, _, e1, _, h3, _⟩ := hcs2
  have h3 : Rep tab.ty S' W' (.int .i64) (1 : Int) [c1] ∧ _ = [] := h3
  obtain ⟨rfl, _⟩ := List.cons.inj e1
  have h4 : [v] = [Value.int .i64 1] := h3.1
  obtain ⟨rfl, _⟩ := List.cons.inj h4
  exact ⟨rfl, hf.mono (fun k hk => by cases hk)⟩
theorem decode_at (s : ByteArray) (c : Nat) (h0 : s.size ≠ 0) (hs : (s.data.getD 0 0).toNat = c) (hc : c < 128) (W : World) : Calls Tryz.prog 236 #[.string s] W fun e W' => e = .returned (.tuple #[.int .i32 (c : Int), .int .i64 1]) ∧ Fr (fun _ => False) W W' := by
  have hG : unicode_utf8_DecodeRuneInString_e.G (s, ()) = some (((c : Int), (1 : Int), ()), ()) := by
    show unicode_utf8_DecodeRuneInString s = _
    unfold unicode_utf8_DecodeRuneInString
    have e1 : strEq s (⟨#[]⟩ : ByteArray) = false := by
      rw [← Bool.not_eq_true]
      intro h
      have : s.data.toList = [] := by simpa [strEq] using h
      exact h0 (by have := congrArg List.length this; rw [Array.length_toList] at this; exact this)
    rw [e1, show decide (0 < (s.size : Int)) = true from decide_eq_true (by omega), hs, show decide ((c : Int) < 128) = true from decide_eq_true (by omega)]
    have : IntKind.wrap .i32 (c : Int) = (c : Int) := by
      have h1 : (c : Int) % 4294967296 = c := by omega
      rw [IntKind.wrap_i32]; omega
    rw [this]
    rfl
  refine (unicode_utf8_DecodeRuneInString_good.2 W (fun _ => False) (s, ()) [.string s] [] (((c : Int), (1 : Int), ()), ()) (fun _ h => h.elim) ⟨_, _, [], [], rfl, rfl, ⟨.inr ⟨rfl, rfl⟩, rfl⟩, rfl, rfl⟩ List.nodup_nil (by simp) hG).mono ?_
  rintro e W' ⟨vs, S', B1, B2, rfl, hr, _, _, _, _, _, hf⟩
  obtain ⟨v, vr, b1, b2, rfl, _, h1, v2, vr2, _, _, rfl, _, h2, rfl, _⟩ := hr
  obtain ⟨cs, _, hcs, hcs2⟩ := h1
  have := hcs rfl; subst this
  obtain ⟨c1, cr, _, _, e1, _, h3, _⟩ := hcs2
  have h3 : Rep tab.ty S' W' (.int .i32) (c : Int) [c1] ∧ _ = [] := h3
  obtain ⟨rfl, _⟩ := List.cons.inj e1
  have h4 : [v] = [Value.int .i32 (c : Int)] := h3.1
  obtain ⟨rfl, _⟩ := List.cons.inj h4
  obtain ⟨cs, _, hcs, hcs2⟩ := h2
  have := hcs rfl; subst this
  obtain ⟨c1, cr, _, _, e1, _, h3, _⟩ := hcs2
  have h3 : Rep tab.ty S' W' (.int .i64) (1 : Int) [c1] ∧ _ = [] := h3
  obtain ⟨rfl, _⟩ := List.cons.inj e1
  have h4 : [v2] = [Value.int .i64 1] := h3.1
  obtain ⟨rfl, _⟩ := List.cons.inj h4
  exact ⟨rfl, hf.mono (fun k hk => by cases hk)⟩
theorem fn1_at (x a b : Int) (B : Nat) (xs : List Int) (Bl : List Nat) (W : World) (hB : BoxAt W B xs Bl) (hn : Bl.Nodup) (hlt : ∀ j ∈ Bl, j < W.heap.size) (hx : xs.length + 1 ≤ 1073741824) :
    Calls Tryz.prog 160 #[.int .i64 x, .int .i64 a, .int .i64 b, .pointer (some ⟨B, 0, none⟩)] W fun e W' => e = .returned (.bool true) ∧ ∃ Bl', BoxAt W' B (xs ++ [x]) Bl' ∧ Bl'.Nodup ∧ (∀ j ∈ Bl', j < W'.heap.size ∧ (W.heap.size ≤ j ∨ j ∈ Bl)) ∧ Fr (fun j => j ∈ Bl) W W' := by
  have hG : text_Letters_fn1_e.G (x, a, b, xs, ()) = some ((true, ()), (xs ++ [x], ())) := by
    show text_Letters_fn1 x a b xs = _
    unfold text_Letters_fn1
    rw [show Nat.ble (xs.length + 1) 1073741824 = true from nble_iff.2 hx]
    rfl
  refine (text_Letters_fn1_good.2 W (fun _ => False) (x, a, b, xs, ()) [.int .i64 x, .int .i64 a, .int .i64 b, .pointer (some ⟨B, 0, none⟩)] Bl ((true, ()), (xs ++ [x], ())) (fun _ h => h.elim)
    ⟨_, _, [], Bl, rfl, rfl, ⟨.inr ⟨rfl, rfl⟩, rfl⟩, _, _, [], Bl, rfl, rfl, ⟨.inr ⟨rfl, rfl⟩, rfl⟩, _, _, [], Bl, rfl, rfl, ⟨.inr ⟨rfl, rfl⟩, rfl⟩, _, _, Bl, [], rfl, (List.append_nil _).symm, hB, rfl, rfl⟩ hn (fun k hk => ⟨fun h => h, hlt k hk⟩) hG).mono ?_
  rintro e W' ⟨vs, S', B1, B2, rfl, hr, ho, hnd, hbl, _, _, hf⟩
  obtain ⟨v, vr, b1, b2, rfl, _, h1, rfl, _⟩ := hr
  obtain ⟨cs, _, hcs, hcs2⟩ := h1
  have := hcs rfl; subst this
  obtain ⟨c1, cr, _, _, e1, _, h3, _⟩ := hcs2
  have h3 : Rep tab.ty S' W' .bool true [c1] ∧ _ = [] := h3
  obtain ⟨rfl, _⟩ := List.cons.inj e1
  have h4 : [v] = [Value.bool true] := h3.1
  obtain ⟨rfl, _⟩ := List.cons.inj h4
  obtain ⟨v3, vr3, c1, c2, e3, rfl, hv3, hc2⟩ := ho
  have hc2 : c2 = [] := hc2
  subst hc2
  obtain ⟨rfl, _⟩ := List.cons.inj (show [Value.pointer (some ⟨B, 0, none⟩)] = v3 :: vr3 from e3)
  refine ⟨rfl, c1, BoxAt.mv hv3 (fun _ _ => rfl), ?_, fun j hj => ?_, hf⟩
  · have := (List.nodup_append.1 hnd).2.1
    simpa using this
  · have := hbl j (List.mem_append.2 (.inr (List.mem_append.2 (.inl hj))))
    exact this.2
set_option maxHeartbeats 4000000 in
set_option maxRecDepth 1000000 in
theorem each_at (s : ByteArray) (ha : asciiB s = true) (hs : s.size ≤ 1073741824) (w : World) (B : Nat) (Bl : List Nat) (hB : BoxAt w B [] Bl) (hn : Bl.Nodup) (hlt : ∀ j ∈ Bl, j < w.heap.size) :
    Calls Tryz.prog 159 #[.string s, .func (.func 160) #[] #[.pointer (some ⟨B, 0, none⟩)]] w fun e w' => e = .returned (.tuple #[]) ∧ ∃ Bl', BoxAt w' B (lettersA s) Bl' ∧ Bl'.Nodup ∧ (∀ j ∈ Bl', j < w'.heap.size ∧ (w.heap.size ≤ j ∨ j ∈ Bl)) ∧ Fr (fun j => j ∈ Bl) w w' := by
  go_enter Tryz.func159, Tryz.ntmps159
  go_wp2
  go_loopw [] (fun wr => ∃ (pos : Nat) (Bl' : List Nat), wr.heap[w.heap.size]? = some (.stringIter s pos) ∧ pos ≤ s.size ∧ BoxAt wr B ((lettersA s).take pos) Bl' ∧ Bl'.Nodup ∧ (∀ j ∈ Bl', j < wr.heap.size ∧ (w.heap.size < j ∨ j ∈ Bl)) ∧ Fr (fun j => j ∈ Bl) w wr) (fun wr => s.size - wr.iterPos (w.heap.size))
  case atStart =>
    refine ⟨0, Bl, World.iter_heap w s 0, Nat.zero_le _, ?_, hn, fun j hj => ⟨?_, .inr hj⟩, ?_⟩
    · rw [List.take_zero]; exact BoxAt.mv hB (fun j hj => RowKit.Below.heap_alloc w _ j (hlt j hj))
    · have := hlt j hj; simp [World.iter]; omega
    · exact (Fr.alloc _ w _)
  case round =>
    obtain ⟨pos, Bl', hit, hpl, hb, hn', hbl, hf⟩ := hrel
    have hk : w.heap.size < wr.heap.size := (Array.getElem?_eq_some_iff.1 hit).1
    have hkB : w.heap.size ∉ Bl' := fun h => by
      rcases (hbl _ h).2 with h | h
      · omega
      · exact absurd (hlt _ h) (by omega)
    by_cases hp : pos < s.size
    · have hnx : ∀ ty, (Instr.next (.pointer (some ⟨w.heap.size, 0, none⟩)) true ty).run Tryz.prog wr = _ := fun ty => Lib.run_next_ascii_at wr w.heap.size s pos ty hit hp (asciiB_at ha hp)
      generalize hc : (s[pos]'hp).toNat = c at hnx
      have hc128 : c < 128 := by rw [← hc]; exact asciiB_at ha hp
      have hit2 := Lib.iterAt_heap wr w.heap.size s pos (pos + 1) hit
      go_wp2_with (go_at_call 235; refine (runeLen_at c hc128 _).mono ?_)
      rintro e W1 ⟨rfl, f1⟩
      have hsz : (s.extract pos s.size).size = s.size - pos := by simp
      have hd0 : ((s.extract pos s.size).data.getD 0 0).toNat = c := by
        rw [← hc]
        have e1 : (s.extract pos s.size).data[0]? = some (s[pos]'hp) := by
          rw [ByteArray.data_extract, Array.getElem?_extract]
          rw [if_pos (by simp; omega)]
          simp only [Nat.add_zero]
          exact Array.getElem?_eq_getElem hp
        rw [Array.getD_eq_getD_getElem?, e1]
        rfl
      have f0 : Fr (fun j => j ∈ Bl) w (wr.iterAt w.heap.size s (pos + 1)) := hf.trans' (Y := fun j => j = w.heap.size) ⟨rfl, rfl, rfl, by rw [Lib.iterAt_size]; exact Nat.le_refl _, fun j _ hj => Lib.iterAt_other _ _ _ _ _ hj⟩ (fun j h1 h2 => absurd h2 (by omega))
      go_wp2_with (go_at_call 236; refine (decode_at _ c (by rw [hsz]; omega) hd0 hc128 _).mono ?_)
      rintro e W2 ⟨rfl, f2⟩
      have hb2 : BoxAt W2 B ((lettersA s).take pos) Bl' := BoxAt.mv hb (fun j hj => by
        have h1 : j < wr.heap.size := (hbl j hj).1
        have h2 : j < (wr.iterAt w.heap.size s (pos + 1)).heap.size := by rw [Lib.iterAt_size]; exact h1
        rw [f2.block (Nat.lt_of_lt_of_le h2 f1.size) (fun x => x), f1.block h2 (fun x => x)]
        exact Lib.iterAt_other _ _ _ _ _ (fun e => hkB (by rw [← e]; exact hj)))
      have hw2 : wr.heap.size ≤ W2.heap.size := by
        have := f1.size; have := f2.size; rw [Lib.iterAt_size] at *; omega
      have hit3 : W2.heap[w.heap.size]? = some (.stringIter s (pos + 1)) := by
        have h2 : w.heap.size < (wr.iterAt w.heap.size s (pos + 1)).heap.size := by rw [Lib.iterAt_size]; exact hk
        rw [f2.block (Nat.lt_of_lt_of_le h2 f1.size) (fun x => x), f1.block h2 (fun x => x)]
        exact hit2
      have c65 : ¬ ((c : Int) = 65533) := by omega
      have fn1h := fun (a b : Int) => fn1_at (c : Int) a b B ((lettersA s).take pos) Bl' W2 hb2 hn' (fun j hj => Nat.lt_of_lt_of_le (hbl j hj).1 hw2) (by rw [List.length_take, lettersA_len]; omega)
      go_wp2_with (go_at_call 160; refine (fn1h _ _).mono ?_)
      rintro e W3 ⟨rfl, Bl3, hb3, hn3, hbl3, f3⟩
      go_wp2
      go_roundw
      case rel =>
        have hk3 : W3.heap[w.heap.size]? = some (.stringIter s (pos + 1)) := by
          rw [f3.block (by omega) hkB]; exact hit3
        refine ⟨pos + 1, Bl3, hk3, hp, by rw [lettersA_take hp, hc]; exact hb3, hn3, fun j hj => ⟨(hbl3 j hj).1, ?_⟩, ?_⟩
        · rcases (hbl3 j hj).2 with h | h
          · exact .inl (by omega)
          · exact (hbl j h).2
        · refine ((f0.trans' f1 (fun _ _ x => x.elim)).trans' f2 (fun _ _ x => x.elim)).trans' f3 (fun j h1 h2 => ?_)
          rcases (hbl j h2).2 with h | h
          · omega
          · exact h
      case measure =>
        have hk3 : W3.heap[w.heap.size]? = some (.stringIter s (pos + 1)) := by
          rw [f3.block (by omega) hkB]; exact hit3
        simp only [World.iterPos, hk3, hit]
        omega
    · have hnx : ∀ ty, (Instr.next (.pointer (some ⟨w.heap.size, 0, none⟩)) true ty).run Tryz.prog wr = _ := fun ty => Lib.run_next_end_at wr w.heap.size s pos ty hit hp
      go_wp2
      go_end0
      have : pos = s.size := by omega
      subst this
      rw [List.take_of_length_le (by rw [lettersA_len]; exact Nat.le_refl _)] at hb
      exact ⟨rfl, Bl', hb, hn', fun j hj => ⟨(hbl j hj).1, (hbl j hj).2.imp Nat.le_of_lt id⟩, hf⟩
set_option maxHeartbeats 4000000 in
set_option maxRecDepth 1000000 in
theorem letters_at (s : ByteArray) (ha : asciiB s = true) (hs : s.size ≤ 1073741824) (w : World) :
    Calls Tryz.prog 66 #[.string s] w fun e w' => ∃ v Bl, e = .returned v ∧ RowRel tab.ty (fun _ => False) w' 3 (.int .i64) (lettersA s) v Bl ∧ (∀ j ∈ Bl, j < w'.heap.size ∧ w.heap.size ≤ j) ∧ Fr (fun _ => False) w w' := by
  have hE := fun W B Bl h1 h2 h3 => each_at s ha hs W B Bl h1 h2 h3
  go_enter Tryz.func66, Tryz.ntmps66
  have hB0 : BoxAt (w.alloc (.cells #[.slice none 0 0] 23)) w.heap.size [] [w.heap.size] :=
    ⟨w.heap.size, 23, #[.slice none 0 0], [], rfl, (by show (w.heap.push _)[w.heap.size]? = _; simp), rfl, .slice none 0 0, [], [], [], rfl, rfl, ⟨Nat.zero_lt_one, ⟨[], World.ownsRow_nil _ 0 3 1, rfl⟩, rfl⟩, rfl, rfl⟩
  go_wp2_with (go_at_call 159; refine (hE _ _ _ hB0 (by simp) (by simp)).mono ?_)
  rintro e W1 ⟨rfl, Bl1, hb1, hn1, hbl1, f1⟩
  obtain ⟨b, T, cs, B', hv, hh, hB, hown⟩ := hb1
  obtain ⟨c, cr, B1, B2, e1, e2, h1, h2⟩ := hown
  obtain ⟨rfl, rfl⟩ : cr = [] ∧ B2 = [] := h2
  obtain ⟨h0, ⟨cells, hr, hc⟩, hb⟩ : RowRel tab.ty (fun _ => False) W1 3 (.int .i64) (lettersA s) c B1 := h1
  have hcs : cs = #[c] := by apply Array.ext'; exact e1
  subst hcs
  obtain ⟨rfl⟩ : w.heap.size = b := by injection hv with e; injection e with e; injection e
  have hcell : W1.cell? ⟨w.heap.size, 0, none⟩ = some c := by simp [World.cell?, hh]
  have hfro : W1.frozen? ⟨w.heap.size, 0, none⟩ = false := by simp [World.frozen?, hh]
  obtain ⟨A, n, cp, rfl⟩ := own_slice hr
  subst hB; subst e2; subst hb
  have hne : ∀ j ∈ (blk (Value.slice A n cp)).toList, j ≠ w.heap.size := fun j hj e => by
    have := (List.nodup_cons.1 hn1).1
    exact this (by rw [← e]; simpa using hj)
  have hh2 : (W1.setCell ⟨w.heap.size, 0, none⟩ (.slice A n cp)).heap[w.heap.size]? = some (.cells #[.slice A n cp] T (0, 0)) := by
    obtain ⟨hlt2, hk2⟩ := Array.getElem?_eq_some_iff.1 hh
    show (W1.heap.modify w.heap.size _)[w.heap.size]? = _
    rw [Array.getElem?_eq_getElem (by rw [Array.size_modify]; exact hlt2), Array.getElem_modify_self, hk2]
    rfl
  have hcell2 : (W1.setCell ⟨w.heap.size, 0, none⟩ (.slice A n cp)).cell? ⟨w.heap.size, 0, none⟩ = some (.slice A n cp) := by simp [World.cell?, hh2]
  go_wp2
  (try simp only [Exit.inBlock, Exit.then])
  refine bodyPost_ret (v := .slice A n cp) (by simp only [results, show Tryz.f66.results = #[.cell 2 23] from rfl]; go_simp) rfl ?_
  refine ⟨_, _, rfl, ⟨h0, ⟨cells, ⟨hr.1, ?_⟩, intRow_any hc⟩, rfl⟩, fun j hj => ⟨?_, ?_⟩, ?_⟩
  · rcases hr.2 with hn | ⟨g, cap, cur, e, hg, hh', rest⟩
    · exact .inl hn
    · refine .inr ⟨g, cap, cur, e, hg, ?_, rest⟩
      injection e with e _ _
      subst e
      exact (RowKit.Below.heap_setCell W1 _ _ g (hne g (by simp [blk]))).trans hh'
  · have := (hbl1 j (by simp only [List.mem_cons]; exact .inr (by simpa using hj))).1
    simpa using this
  · rcases (hbl1 j (by simp only [List.mem_cons]; exact .inr (by simpa using hj))).2 with h | h
    · simp at h; omega
    · simp at h; omega
  · exact ((Fr.alloc (fun _ => False) w _).trans' f1 (fun j h1 h2 => by simp at h2; omega)).trans' (Fr.setCell W1 _ _) (fun j h1 h2 => by simp at h2; omega)
noncomputable def text_Letters (s_0 : ByteArray) : Option (((List Int) × Unit) × Unit) := bif asciiB s_0 && Nat.ble s_0.size 1073741824 then some ((lettersA s_0, ()), ()) else none
noncomputable def text_Letters_e : Ent := ⟨[.val t9], [⟨t23, [true], none⟩], fun x => text_Letters x.1⟩
theorem text_Letters_good : Good tab.ty Tryz.prog 66 text_Letters_e := by
  refine ⟨⟨_, Tryz.func66, by kernel_rfl, by kernel_rfl⟩, fun w S x vals B r hS ha hn hB hG => ?_⟩
  obtain ⟨s, u⟩ := x
  obtain ⟨v, vr, b1, b2, rfl, rfl, ⟨hv, rfl⟩, rfl, rfl⟩ := ha
  have hG : (bif asciiB s && Nat.ble s.size 1073741824 then some ((lettersA s, ()), ()) else none) = some r := hG
  cases hq : (asciiB s && Nat.ble s.size 1073741824) with
  | false => rw [hq] at hG; cases hG
  | true =>
  rw [hq] at hG
  have hG := Option.some.inj hG
  subst hG
  simp only [Bool.and_eq_true] at hq
  obtain ⟨hq1, hq2⟩ := hq
  have hv2 : v = .string s := by
    rcases hv with ⟨h, _⟩ | ⟨_, h⟩
    · cases h
    · have h : [v] = [Value.string s] := h
      injection h
  subst hv2
  refine (letters_at s hq1 (nble_iff.1 hq2) w).mono ?_
  rintro e w' ⟨v, Bl, rfl, hr, hbl, hf⟩
  obtain ⟨h0, ⟨cells, hr, hc⟩, rfl⟩ := hr
  refine ⟨[v], S, (blk v).toList, [], rfl, ⟨v, [], (blk v).toList, [], rfl, by simp, ⟨[v], (fun h => by cases h), (fun _ => rfl), v, [], (blk v).toList, [], rfl, by simp, ⟨h0, ⟨cells, hr, ?_⟩, rfl⟩, rfl, rfl⟩, rfl, rfl⟩, rfl, ?_, fun k hk => ?_, fun _ h => h, fun k hk => ⟨Nat.lt_of_lt_of_le (hS k hk) hf.size, .inl hk⟩, hf.mono (fun _ h => h.elim)⟩
  · exact hc.frame (fun _ h => h.elim) (Nat.le_refl _) (fun _ _ _ => rfl)
  · cases blk v <;> simp
  · have h1 := hbl k (by simpa using hk)
    exact ⟨fun h => by have := hS k h; omega, h1.1, .inl h1.2⟩
end
noncomputable def text_Name_Γ : Ctx := [(66, text_Letters_e)]
def text_Name_fi : Fi := { keep := [], vty := [], vals := [], live := [(0, [0, 17, 18, 19, 20, 21, 22, 29, 30, 31]), (1, [3, 17, 18, 19, 20, 21, 22, 29, 30, 31]), (2, [3, 8, 9, 10, 17, 18, 19, 20, 21, 22, 29, 30, 31]), (3, [3, 8, 9, 10, 11, 17, 18, 19, 20, 21, 22, 29, 30, 31]), (4, [3, 5, 8, 9, 10, 17, 18, 19, 20, 21, 22, 29, 30, 31]), (5, [3, 8, 9, 10, 17, 18, 19, 20, 21, 22, 23, 29, 30, 31]), (6, [2]), (7, [3, 8, 9, 10, 17, 18, 19, 20, 21, 22, 29, 30, 31]), (8, [2])] }
noncomputable def text_Name_B1 (L1 : Int → Int → List Int → Option ((Bool × Unit) × Unit)) (v2 : Int) (v3 : Int) (v4 : List Int) : Option ((Bool × Unit) × Unit) :=
 bif decide (v3 < v2) then
  bif decide (0 ≤ v3) && decide (v3 < (v4.length : Int)) then
   bif decide (0 ≤ v3) && decide (v3 < (v4.length : Int)) then
    bif decide (List.getD v4 v3.toNat 0 ≤ 32) then
     some ((false, ()), ())
    else
    bif decide (List.getD v4 v3.toNat 0 ≥ 127) then
     bif decide (List.getD v4 v3.toNat 0 ≤ 159) then
      some ((false, ()), ())
     else
      L1 v2 (IntKind.wrap .i64 (v3 + 1)) v4
    else
     L1 v2 (IntKind.wrap .i64 (v3 + 1)) v4
   else none
  else none
 else
 bif decide ((v4.length : Int) ≥ 1) then
  some ((decide ((v4.length : Int) ≤ 8), ()), ())
 else
  some ((false, ()), ())
noncomputable def text_Name_T (L1 : Int → Int → List Int → Option ((Bool × Unit) × Unit)) (s_0 : ByteArray) : Option ((Bool × Unit) × Unit) :=
 Option.bind (text_Letters s_0) fun (r1 : ((List Int) × Unit) × Unit) =>
 L1 (r1.1.1.length : Int) 0 r1.1.1
noncomputable def text_Name_L1 (n : Nat) : Nat → Int → Int → List Int → Option ((Bool × Unit) × Unit) := iter (fun _ _ _ => none) fun L => text_Name_B1 L
noncomputable def text_Name_X1 (n m : Nat) (v2 : Int) (v3 : Int) (v4 : List Int) : Option ((Bool × Unit) × Unit) :=
 atLoop text_Name_Γ tab (fiB [.val t9] text_Name_fi) n [.val t9] [⟨t4, [false], none⟩] Tryz.f27 [1, 1, 0, 1, 0] [] [3, 8, 9, 10] m
 ⟨[(3, SV.cv (CV.one (LV.ref (888888, 8)))), (8, SV.cv (CV.one (LV.ref (888888, 8)))), (9, SV.cv (CV.one (LV.pure t2 v2))), (10, SV.cv (CV.one (LV.pure t2 v3)))],
  [((888888, 8), Ob.row 3 t2 v4)]⟩
theorem text_Name_step1 (n m : Nat) (v2 : Int) (v3 : Int) (v4 : List Int) : text_Name_X1 n (m + 1) v2 v3 v4 = text_Name_B1 (text_Name_X1 n m) v2 v3 v4 := by kernel_rfl
theorem text_Name_start (n : Nat) (s_0 : ByteArray) : evFn text_Name_Γ tab text_Name_fi n [.val t9] [⟨t4, [false], none⟩] Tryz.f27 (s_0, ()) = text_Name_T (text_Name_X1 n n) s_0 := by kernel_rfl
theorem text_Name_XL1 (n : Nat) : ∀ m, text_Name_X1 n m = text_Name_L1 n m
 | 0 => rfl
 | m + 1 => by
  have ih := text_Name_XL1 n m
  funext v2 v3 v4
  rw [text_Name_step1, ih]
  rfl
noncomputable def text_Name_n (n : Nat) (s_0 : ByteArray) : Option ((Bool × Unit) × Unit) := text_Name_T (text_Name_L1 n n) s_0
noncomputable def text_Name (s_0 : ByteArray) : Option ((Bool × Unit) × Unit) := text_Name_n 1099511627776 s_0
theorem text_Name_eq (n : Nat) (s_0 : ByteArray) : evFn text_Name_Γ tab text_Name_fi n [.val t9] [⟨t4, [false], none⟩] Tryz.f27 (s_0, ()) = text_Name_n n s_0 := by
  rw [text_Name_start, text_Name_XL1 n n]
  rfl
noncomputable def text_Name_e : Ent := ⟨[.val t9], [⟨t4, [false], none⟩], fun x => text_Name x.1⟩
theorem text_Name_good : Good tab.ty Tryz.prog 27 text_Name_e := by
  refine fn_good (Γ := text_Name_Γ) (fi := text_Name_fi) (n := 1099511627776) follows (gcons text_Letters_good gnil) tabok Tryz.func27 (by kernel_rfl) (by kernel_rfl) (fun x r h => ?_)
  obtain ⟨s_0, _u⟩ := x
  exact (text_Name_eq 1099511627776 s_0).trans h
noncomputable def slices_Clone_int (s : List Int) : Option (((List Int) × Unit) × Unit) := bif Nat.ble s.length 1073741824 then some ((s, ()), ()) else none
theorem slices_Clone_int_raw (s : List Int) : evFn [] tab (fiOf Tryz.f67 []) 1 [.val t23] [⟨t23, [true], none⟩] Tryz.f67 (s, ()) = bif !(List.isEmpty s) then bif Nat.ble (0 + s.length) 1073741824 then some (([] ++ s, ()), ()) else none
 else bothEq (some (([], ()), ())) (bif Nat.ble (0 + s.length) 1073741824 then some (([] ++ s, ()), ()) else none) := by kernel_rfl
theorem slices_Clone_int_eq (s : List Int) : evFn [] tab (fiOf Tryz.f67 []) 1 [.val t23] [⟨t23, [true], none⟩] Tryz.f67 (s, ()) = slices_Clone_int s := by
  rw [slices_Clone_int_raw]
  cases s with
  | nil => exact bothEq_same _
  | cons x q => rw [Nat.zero_add]; rfl
noncomputable def slices_Clone_int_e : Ent := ⟨[.val t23], [⟨t23, [true], none⟩], fun x => slices_Clone_int x.1⟩
theorem slices_Clone_int_good : Good tab.ty Tryz.prog 67 slices_Clone_int_e := by
  refine fn_good (Γ := []) (fi := fiOf Tryz.f67 []) (n := 1) follows gnil tabok Tryz.func67 (by kernel_rfl) (by kernel_rfl) (fun x r h => ?_)
  obtain ⟨s, _u⟩ := x
  exact (slices_Clone_int_eq s).trans h
noncomputable def slices_Clone_Kid (s : List (Int × Int × Int)) : Option (((List (Int × Int × Int)) × Unit) × Unit) := bif Nat.ble s.length 1073741824 then some ((s, ()), ()) else none
theorem slices_Clone_Kid_raw (s : List (Int × Int × Int)) : evFn [] tab (fiOf Tryz.f68 []) 1 [.val t24] [⟨t24, [true], none⟩] Tryz.f68 (s, ()) = bif !(List.isEmpty s) then bif Nat.ble (0 + s.length) 1073741824 then some (([] ++ s, ()), ()) else none
 else bothEq (some (([], ()), ())) (bif Nat.ble (0 + s.length) 1073741824 then some (([] ++ s, ()), ()) else none) := by kernel_rfl
theorem slices_Clone_Kid_eq (s : List (Int × Int × Int)) : evFn [] tab (fiOf Tryz.f68 []) 1 [.val t24] [⟨t24, [true], none⟩] Tryz.f68 (s, ()) = slices_Clone_Kid s := by
  rw [slices_Clone_Kid_raw]
  cases s with
  | nil => exact bothEq_same _
  | cons x q => rw [Nat.zero_add]; rfl
noncomputable def slices_Clone_Kid_e : Ent := ⟨[.val t24], [⟨t24, [true], none⟩], fun x => slices_Clone_Kid x.1⟩
theorem slices_Clone_Kid_good : Good tab.ty Tryz.prog 68 slices_Clone_Kid_e := by
  refine fn_good (Γ := []) (fi := fiOf Tryz.f68 []) (n := 1) follows gnil tabok Tryz.func68 (by kernel_rfl) (by kernel_rfl) (fun x r h => ?_)
  obtain ⟨s, _u⟩ := x
  exact (slices_Clone_Kid_eq s).trans h
noncomputable def slices_Clone_Item (s : List (Int × ByteArray)) : Option (((List (Int × ByteArray)) × Unit) × Unit) := bif Nat.ble s.length 1073741824 then some ((s, ()), ()) else none
theorem slices_Clone_Item_raw (s : List (Int × ByteArray)) : evFn [] tab (fiOf Tryz.f69 []) 1 [.val t27] [⟨t27, [true], none⟩] Tryz.f69 (s, ()) = bif !(List.isEmpty s) then bif Nat.ble (0 + s.length) 1073741824 then some (([] ++ s, ()), ()) else none
 else bothEq (some (([], ()), ())) (bif Nat.ble (0 + s.length) 1073741824 then some (([] ++ s, ()), ()) else none) := by kernel_rfl
theorem slices_Clone_Item_eq (s : List (Int × ByteArray)) : evFn [] tab (fiOf Tryz.f69 []) 1 [.val t27] [⟨t27, [true], none⟩] Tryz.f69 (s, ()) = slices_Clone_Item s := by
  rw [slices_Clone_Item_raw]
  cases s with
  | nil => exact bothEq_same _
  | cons x q => rw [Nat.zero_add]; rfl
noncomputable def slices_Clone_Item_e : Ent := ⟨[.val t27], [⟨t27, [true], none⟩], fun x => slices_Clone_Item x.1⟩
theorem slices_Clone_Item_good : Good tab.ty Tryz.prog 69 slices_Clone_Item_e := by
  refine fn_good (Γ := []) (fi := fiOf Tryz.f69 []) (n := 1) follows gnil tabok Tryz.func69 (by kernel_rfl) (by kernel_rfl) (fun x r h => ?_)
  obtain ⟨s, _u⟩ := x
  exact (slices_Clone_Item_eq s).trans h
noncomputable def slices_Clone_Event (s : List (Int × Int × Int × ByteArray × Int)) : Option (((List (Int × Int × Int × ByteArray × Int)) × Unit) × Unit) := bif Nat.ble s.length 1073741824 then some ((s, ()), ()) else none
theorem slices_Clone_Event_raw (s : List (Int × Int × Int × ByteArray × Int)) : evFn [] tab (fiOf Tryz.f70 []) 1 [.val t28] [⟨t28, [true], none⟩] Tryz.f70 (s, ()) = bif !(List.isEmpty s) then bif Nat.ble (0 + s.length) 1073741824 then some (([] ++ s, ()), ()) else none
 else bothEq (some (([], ()), ())) (bif Nat.ble (0 + s.length) 1073741824 then some (([] ++ s, ()), ()) else none) := by kernel_rfl
theorem slices_Clone_Event_eq (s : List (Int × Int × Int × ByteArray × Int)) : evFn [] tab (fiOf Tryz.f70 []) 1 [.val t28] [⟨t28, [true], none⟩] Tryz.f70 (s, ()) = slices_Clone_Event s := by
  rw [slices_Clone_Event_raw]
  cases s with
  | nil => exact bothEq_same _
  | cons x q => rw [Nat.zero_add]; rfl
noncomputable def slices_Clone_Event_e : Ent := ⟨[.val t28], [⟨t28, [true], none⟩], fun x => slices_Clone_Event x.1⟩
theorem slices_Clone_Event_good : Good tab.ty Tryz.prog 70 slices_Clone_Event_e := by
  refine fn_good (Γ := []) (fi := fiOf Tryz.f70 []) (n := 1) follows gnil tabok Tryz.func70 (by kernel_rfl) (by kernel_rfl) (fun x r h => ?_)
  obtain ⟨s, _u⟩ := x
  exact (slices_Clone_Event_eq s).trans h
noncomputable def node_twin_Γ : Ctx := [(67, slices_Clone_int_e), (68, slices_Clone_Kid_e), (69, slices_Clone_Item_e), (70, slices_Clone_Event_e)]
def node_twin_fi : Fi := { keep := [], vty := [], vals := [], live := [(0, [1, 2]), (1, [1, 2]), (2, [1, 2]), (3, [2])] }
noncomputable def node_twin (n_0 : Bool × Int × ByteArray × (Int × Int × Int × Int × Int × Int × (List Int) × Int × Int × Int × Int × Int × List (Int × Int × Int)) × (Int × Int × (List (Int × ByteArray)) × (List (Int × ByteArray)) × (List (Int × Int × Int × ByteArray × Int)) × Int × Int) × Int) : Option (((Bool × Int × ByteArray × (Int × Int × Int × Int × Int × Int × (List Int) × Int × Int × Int × Int × Int × List (Int × Int × Int)) × (Int × Int × (List (Int × ByteArray)) × (List (Int × ByteArray)) × (List (Int × Int × Int × ByteArray × Int)) × Int × Int) × Int) × Unit) × Unit) :=
 Option.bind (slices_Clone_int n_0.2.2.2.1.2.2.2.2.2.2.1) fun (r1 : ((List Int) × Unit) × Unit) =>
 Option.bind (slices_Clone_Kid n_0.2.2.2.1.2.2.2.2.2.2.2.2.2.2.2.2) fun (r2 : ((List (Int × Int × Int)) × Unit) × Unit) =>
 Option.bind (slices_Clone_Item n_0.2.2.2.2.1.2.2.1) fun (r3 : ((List (Int × ByteArray)) × Unit) × Unit) =>
 Option.bind (slices_Clone_Item n_0.2.2.2.2.1.2.2.2.1) fun (r4 : ((List (Int × ByteArray)) × Unit) × Unit) =>
 Option.bind (slices_Clone_Event n_0.2.2.2.2.1.2.2.2.2.1) fun (r5 : ((List (Int × Int × Int × ByteArray × Int)) × Unit) × Unit) =>
 some (((n_0.1, n_0.2.1, n_0.2.2.1, (n_0.2.2.2.1.1, n_0.2.2.2.1.2.1, n_0.2.2.2.1.2.2.1, n_0.2.2.2.1.2.2.2.1, n_0.2.2.2.1.2.2.2.2.1, n_0.2.2.2.1.2.2.2.2.2.1, r1.1.1, n_0.2.2.2.1.2.2.2.2.2.2.2.1, n_0.2.2.2.1.2.2.2.2.2.2.2.2.1, n_0.2.2.2.1.2.2.2.2.2.2.2.2.2.1, n_0.2.2.2.1.2.2.2.2.2.2.2.2.2.2.1, n_0.2.2.2.1.2.2.2.2.2.2.2.2.2.2.2.1, r2.1.1), (n_0.2.2.2.2.1.1, n_0.2.2.2.2.1.2.1, r3.1.1, r4.1.1, r5.1.1, n_0.2.2.2.2.1.2.2.2.2.2), n_0.2.2.2.2.2), ()), ())
theorem node_twin_eq (n_0 : Bool × Int × ByteArray × (Int × Int × Int × Int × Int × Int × (List Int) × Int × Int × Int × Int × Int × List (Int × Int × Int)) × (Int × Int × (List (Int × ByteArray)) × (List (Int × ByteArray)) × (List (Int × Int × Int × ByteArray × Int)) × Int × Int) × Int) : evFn node_twin_Γ tab node_twin_fi 1 [.val t33] [⟨t33, [false, false, false, false, false, false, false, false, false, false, false, false, false, false, false, false, false, false, false, false, false, false, false, false], none⟩] Tryz.f28 (n_0, ()) = node_twin n_0 := by kernel_rfl
noncomputable def node_twin_e : Ent := ⟨[.val t33], [⟨t33, [false, false, false, false, false, false, false, false, false, false, false, false, false, false, false, false, false, false, false, false, false, false, false, false], none⟩], fun x => node_twin x.1⟩
theorem node_twin_good : Good tab.ty Tryz.prog 28 node_twin_e := by
  refine fn_good (Γ := node_twin_Γ) (fi := node_twin_fi) (n := 1) follows (gcons slices_Clone_int_good (gcons slices_Clone_Kid_good (gcons slices_Clone_Item_good (gcons slices_Clone_Event_good gnil)))) tabok Tryz.func28 (by kernel_rfl) (by kernel_rfl) (fun x r h => ?_)
  obtain ⟨n_0, _u⟩ := x
  exact (node_twin_eq n_0).trans h
noncomputable def tie_New_Γ : Ctx := []
def tie_New_fi : Fi := { keep := [], vty := [], vals := [], live := [(0, [0, 1, 2, 3, 8]), (1, [0, 2, 8, 9]), (2, [2, 8, 9, 16]), (3, [8, 9]), (4, [8])] }
noncomputable def tie_New (id_0 : Int) (inc_1 : Int) (now_2 : Int) (grand_3 : Int) : Option (((Int × Int × Int × Int × Int × Int × (List Int) × Int × Int × Int × Int × Int × List (Int × Int × Int)) × Unit) × Unit) :=
 bif id_0 == 1 then
  some (((id_0, inc_1, now_2, 0, 0, grand_3, [1], 0, now_2, 0, 0, 0, []), ()), ())
 else
  some (((id_0, inc_1, now_2, 0, 0, grand_3, [], 0, 0, 0, 0, 0, []), ()), ())
theorem tie_New_eq (id_0 : Int) (inc_1 : Int) (now_2 : Int) (grand_3 : Int) : evFn tie_New_Γ tab tie_New_fi 1 [.val t2, .val t2, .val t2, .val t2] [⟨t25, [false, false, false, false, false, false, true, false, false, false, false, false, true], none⟩] Tryz.f29 (id_0, inc_1, now_2, grand_3, ()) = tie_New id_0 inc_1 now_2 grand_3 := by kernel_rfl
noncomputable def tie_New_e : Ent := ⟨[.val t2, .val t2, .val t2, .val t2], [⟨t25, [false, false, false, false, false, false, true, false, false, false, false, false, true], none⟩], fun x => tie_New x.1 x.2.1 x.2.2.1 x.2.2.2.1⟩
theorem tie_New_good : Good tab.ty Tryz.prog 29 tie_New_e := by
  refine fn_good (Γ := tie_New_Γ) (fi := tie_New_fi) (n := 1) follows gnil tabok Tryz.func29 (by kernel_rfl) (by kernel_rfl) (fun x r h => ?_)
  obtain ⟨id_0, inc_1, now_2, grand_3, _u⟩ := x
  exact (tie_New_eq id_0 inc_1 now_2 grand_3).trans h
noncomputable def node_Join_Γ : Ctx := [(27, text_Name_e), (28, node_twin_e), (29, tie_New_e)]
def node_Join_fi : Fi := { keep := [], vty := [], vals := [], live := [(0, [1, 2, 3, 4, 8, 14, 15, 16, 19, 20, 23, 24, 27, 28, 29]), (1, [1, 2, 3, 4, 8, 30]), (2, [8, 9]), (3, [1, 2, 3, 8, 10]), (4, [8, 9])] }
noncomputable def node_Join (n_0 : Bool × Int × ByteArray × (Int × Int × Int × Int × Int × Int × (List Int) × Int × Int × Int × Int × Int × List (Int × Int × Int)) × (Int × Int × (List (Int × ByteArray)) × (List (Int × ByteArray)) × (List (Int × Int × Int × ByteArray × Int)) × Int × Int) × Int) (id_1 : Int) (name_2 : ByteArray) (grand_3 : Int) : Option (((Bool × Int × ByteArray × (Int × Int × Int × Int × Int × Int × (List Int) × Int × Int × Int × Int × Int × List (Int × Int × Int)) × (Int × Int × (List (Int × ByteArray)) × (List (Int × ByteArray)) × (List (Int × Int × Int × ByteArray × Int)) × Int × Int) × Int) × Bool × Unit) × Unit) :=
 bif n_0.1 then
  Option.bind (node_twin n_0) fun (r1 : ((Bool × Int × ByteArray × (Int × Int × Int × Int × Int × Int × (List Int) × Int × Int × Int × Int × Int × List (Int × Int × Int)) × (Int × Int × (List (Int × ByteArray)) × (List (Int × ByteArray)) × (List (Int × Int × Int × ByteArray × Int)) × Int × Int) × Int) × Unit) × Unit) =>
  some ((r1.1.1, false, ()), ())
 else
  Option.bind (text_Name name_2) fun (r2 : (Bool × Unit) × Unit) =>
  bif !r2.1.1 then
   Option.bind (node_twin n_0) fun (r3 : ((Bool × Int × ByteArray × (Int × Int × Int × Int × Int × Int × (List Int) × Int × Int × Int × Int × Int × List (Int × Int × Int)) × (Int × Int × (List (Int × ByteArray)) × (List (Int × ByteArray)) × (List (Int × Int × Int × ByteArray × Int)) × Int × Int) × Int) × Unit) × Unit) =>
   some ((r3.1.1, false, ()), ())
  else
  bif decide (id_1 < 1) then
   Option.bind (node_twin n_0) fun (r4 : ((Bool × Int × ByteArray × (Int × Int × Int × Int × Int × Int × (List Int) × Int × Int × Int × Int × Int × List (Int × Int × Int)) × (Int × Int × (List (Int × ByteArray)) × (List (Int × ByteArray)) × (List (Int × Int × Int × ByteArray × Int)) × Int × Int) × Int) × Unit) × Unit) =>
   some ((r4.1.1, false, ()), ())
  else
  bif decide (id_1 > 8) then
   Option.bind (node_twin n_0) fun (r5 : ((Bool × Int × ByteArray × (Int × Int × Int × Int × Int × Int × (List Int) × Int × Int × Int × Int × Int × List (Int × Int × Int)) × (Int × Int × (List (Int × ByteArray)) × (List (Int × ByteArray)) × (List (Int × Int × Int × ByteArray × Int)) × Int × Int) × Int) × Unit) × Unit) =>
   some ((r5.1.1, false, ()), ())
  else
  bif decide (n_0.2.1 ≥ 1073741824) then
   Option.bind (node_twin n_0) fun (r6 : ((Bool × Int × ByteArray × (Int × Int × Int × Int × Int × Int × (List Int) × Int × Int × Int × Int × Int × List (Int × Int × Int)) × (Int × Int × (List (Int × ByteArray)) × (List (Int × ByteArray)) × (List (Int × Int × Int × ByteArray × Int)) × Int × Int) × Int) × Unit) × Unit) =>
   some ((r6.1.1, false, ()), ())
  else
   Option.bind (tie_New id_1 (IntKind.wrap .i64 (n_0.2.1 + 1)) 0 grand_3) fun (r7 : ((Int × Int × Int × Int × Int × Int × (List Int) × Int × Int × Int × Int × Int × List (Int × Int × Int)) × Unit) × Unit) =>
   some (((true, IntKind.wrap .i64 (n_0.2.1 + 1), name_2, r7.1.1, (0, 0, [], [], [], 0, 0), 0), true, ()), ())
theorem node_Join_eq (n_0 : Bool × Int × ByteArray × (Int × Int × Int × Int × Int × Int × (List Int) × Int × Int × Int × Int × Int × List (Int × Int × Int)) × (Int × Int × (List (Int × ByteArray)) × (List (Int × ByteArray)) × (List (Int × Int × Int × ByteArray × Int)) × Int × Int) × Int) (id_1 : Int) (name_2 : ByteArray) (grand_3 : Int) : evFn node_Join_Γ tab node_Join_fi 1 [.val t33, .val t2, .val t9, .val t2] [⟨t33, [false, false, false, false, false, false, false, false, false, false, false, false, false, false, false, false, false, false, false, false, false, false, false, false], none⟩, ⟨t4, [false], none⟩] Tryz.f7 (n_0, id_1, name_2, grand_3, ()) = node_Join n_0 id_1 name_2 grand_3 := by kernel_rfl
noncomputable def node_Join_e : Ent := ⟨[.val t33, .val t2, .val t9, .val t2], [⟨t33, [false, false, false, false, false, false, false, false, false, false, false, false, false, false, false, false, false, false, false, false, false, false, false, false], none⟩, ⟨t4, [false], none⟩], fun x => node_Join x.1 x.2.1 x.2.2.1 x.2.2.2.1⟩
theorem node_Join_good : Good tab.ty Tryz.prog 7 node_Join_e := by
  refine fn_good (Γ := node_Join_Γ) (fi := node_Join_fi) (n := 1) follows (gcons text_Name_good (gcons node_twin_good (gcons tie_New_good gnil))) tabok Tryz.func7 (by kernel_rfl) (by kernel_rfl) (fun x r h => ?_)
  obtain ⟨n_0, id_1, name_2, grand_3, _u⟩ := x
  exact (node_Join_eq n_0 id_1 name_2 grand_3).trans h
noncomputable def feed_twin_Γ : Ctx := [(69, slices_Clone_Item_e), (70, slices_Clone_Event_e)]
def feed_twin_fi : Fi := { keep := [], vty := [], vals := [], live := [(0, [1, 2]), (1, [1, 2]), (2, [2])] }
noncomputable def feed_twin (f_0 : Int × Int × (List (Int × ByteArray)) × (List (Int × ByteArray)) × (List (Int × Int × Int × ByteArray × Int)) × Int × Int) : Option (((Int × Int × (List (Int × ByteArray)) × (List (Int × ByteArray)) × (List (Int × Int × Int × ByteArray × Int)) × Int × Int) × Unit) × Unit) :=
 Option.bind (slices_Clone_Item f_0.2.2.1) fun (r1 : ((List (Int × ByteArray)) × Unit) × Unit) =>
 Option.bind (slices_Clone_Item f_0.2.2.2.1) fun (r2 : ((List (Int × ByteArray)) × Unit) × Unit) =>
 Option.bind (slices_Clone_Event f_0.2.2.2.2.1) fun (r3 : ((List (Int × Int × Int × ByteArray × Int)) × Unit) × Unit) =>
 some (((f_0.1, f_0.2.1, r1.1.1, r2.1.1, r3.1.1, f_0.2.2.2.2.2), ()), ())
theorem feed_twin_eq (f_0 : Int × Int × (List (Int × ByteArray)) × (List (Int × ByteArray)) × (List (Int × Int × Int × ByteArray × Int)) × Int × Int) : evFn feed_twin_Γ tab feed_twin_fi 1 [.val t31] [⟨t31, [false, false, true, true, true, false, false], none⟩] Tryz.f79 (f_0, ()) = feed_twin f_0 := by kernel_rfl
noncomputable def feed_twin_e : Ent := ⟨[.val t31], [⟨t31, [false, false, true, true, true, false, false], none⟩], fun x => feed_twin x.1⟩
theorem feed_twin_good : Good tab.ty Tryz.prog 79 feed_twin_e := by
  refine fn_good (Γ := feed_twin_Γ) (fi := feed_twin_fi) (n := 1) follows (gcons slices_Clone_Item_good (gcons slices_Clone_Event_good gnil)) tabok Tryz.func79 (by kernel_rfl) (by kernel_rfl) (fun x r h => ?_)
  obtain ⟨f_0, _u⟩ := x
  exact (feed_twin_eq f_0).trans h
noncomputable def log_Tell_Γ : Ctx := [(70, slices_Clone_Event_e)]
def log_Tell_fi : Fi := { keep := [], vty := [], vals := [], live := [(0, [0, 1, 2]), (1, [6])] }
noncomputable def log_Tell (l_0 : List (Int × Int × Int × ByteArray × Int)) (seq_1 : Int) (text_2 : ByteArray) : Option (((List (Int × Int × Int × ByteArray × Int)) × Unit) × Unit) :=
 Option.bind (slices_Clone_Event l_0) fun (r1 : ((List (Int × Int × Int × ByteArray × Int)) × Unit) × Unit) =>
 bif Nat.ble (r1.1.1.length + 1) 1073741824 then
  some ((r1.1.1 ++ [(1, seq_1, seq_1, text_2, 0)], ()), ())
 else none
theorem log_Tell_eq (l_0 : List (Int × Int × Int × ByteArray × Int)) (seq_1 : Int) (text_2 : ByteArray) : evFn log_Tell_Γ tab log_Tell_fi 1 [.val t28, .val t2, .val t9] [⟨t28, [true], none⟩] Tryz.f157 (l_0, seq_1, text_2, ()) = log_Tell l_0 seq_1 text_2 := by kernel_rfl
noncomputable def log_Tell_e : Ent := ⟨[.val t28, .val t2, .val t9], [⟨t28, [true], none⟩], fun x => log_Tell x.1 x.2.1 x.2.2.1⟩
theorem log_Tell_good : Good tab.ty Tryz.prog 157 log_Tell_e := by
  refine fn_good (Γ := log_Tell_Γ) (fi := log_Tell_fi) (n := 1) follows (gcons slices_Clone_Event_good gnil) tabok Tryz.func157 (by kernel_rfl) (by kernel_rfl) (fun x r h => ?_)
  obtain ⟨l_0, seq_1, text_2, _u⟩ := x
  exact (log_Tell_eq l_0 seq_1 text_2).trans h
noncomputable def ring_Add_Γ : Ctx := [(69, slices_Clone_Item_e)]
def ring_Add_fi : Fi := { keep := [], vty := [], vals := [], live := [(0, [0, 3, 12, 13, 14, 15, 16, 17, 18, 19, 20, 21]), (1, [0, 3, 5, 12, 13, 14, 15, 16, 17, 18, 19, 20, 21]), (2, [3, 5, 22]), (3, [4]), (4, [5]), (5, [4])] }
noncomputable def ring_Add (l_0 : List (Int × ByteArray)) (i_1 : Int × ByteArray) : Option (((List (Int × ByteArray)) × Unit) × Unit) :=
 Option.bind (slices_Clone_Item l_0) fun (r1 : ((List (Int × ByteArray)) × Unit) × Unit) =>
 bif decide ((l_0.length : Int) > 0) then
  bif decide (0 ≤ IntKind.wrap .i64 ((l_0.length : Int) - 1)) && decide (IntKind.wrap .i64 ((l_0.length : Int) - 1) < (l_0.length : Int)) then
   bif decide (i_1.1 ≤ (List.getD l_0 ((IntKind.wrap .i64 ((l_0.length : Int) - 1)).toNat) (0, (⟨#[]⟩ : ByteArray))).1) then
    some ((r1.1.1, ()), ())
   else
   bif Nat.ble (r1.1.1.length + 1) 1073741824 then
    bif (decide (0 ≤ (if 0 > IntKind.wrap .i64 (((r1.1.1 ++ [i_1]).length : Int) - 6) then 0 else IntKind.wrap .i64 (((r1.1.1 ++ [i_1]).length : Int) - 6))) && decide ((if 0 > IntKind.wrap .i64 (((r1.1.1 ++ [i_1]).length : Int) - 6) then 0 else IntKind.wrap .i64 (((r1.1.1 ++ [i_1]).length : Int) - 6)) ≤ ((r1.1.1 ++ [i_1]).length : Int))) && decide (((r1.1.1 ++ [i_1]).length : Int) ≤ ((r1.1.1 ++ [i_1]).length : Int)) then
     Option.bind (slices_Clone_Item (List.drop ((if 0 > IntKind.wrap .i64 (((r1.1.1 ++ [i_1]).length : Int) - 6) then 0 else IntKind.wrap .i64 (((r1.1.1 ++ [i_1]).length : Int) - 6)).toNat) (List.take (((r1.1.1 ++ [i_1]).length : Int).toNat) (r1.1.1 ++ [i_1])))) fun (r2 : ((List (Int × ByteArray)) × Unit) × Unit) =>
     some ((r2.1.1, ()), ())
    else none
   else none
  else none
 else
 bif Nat.ble (r1.1.1.length + 1) 1073741824 then
  bif (decide (0 ≤ (if 0 > IntKind.wrap .i64 (((r1.1.1 ++ [i_1]).length : Int) - 6) then 0 else IntKind.wrap .i64 (((r1.1.1 ++ [i_1]).length : Int) - 6))) && decide ((if 0 > IntKind.wrap .i64 (((r1.1.1 ++ [i_1]).length : Int) - 6) then 0 else IntKind.wrap .i64 (((r1.1.1 ++ [i_1]).length : Int) - 6)) ≤ ((r1.1.1 ++ [i_1]).length : Int))) && decide (((r1.1.1 ++ [i_1]).length : Int) ≤ ((r1.1.1 ++ [i_1]).length : Int)) then
   Option.bind (slices_Clone_Item (List.drop ((if 0 > IntKind.wrap .i64 (((r1.1.1 ++ [i_1]).length : Int) - 6) then 0 else IntKind.wrap .i64 (((r1.1.1 ++ [i_1]).length : Int) - 6)).toNat) (List.take (((r1.1.1 ++ [i_1]).length : Int).toNat) (r1.1.1 ++ [i_1])))) fun (r3 : ((List (Int × ByteArray)) × Unit) × Unit) =>
   some ((r3.1.1, ()), ())
  else none
 else none
theorem ring_Add_eq (l_0 : List (Int × ByteArray)) (i_1 : Int × ByteArray) : evFn ring_Add_Γ tab ring_Add_fi 1 [.val t27, .val t135] [⟨t27, [true], none⟩] Tryz.f158 (l_0, i_1, ()) = ring_Add l_0 i_1 := by kernel_rfl
noncomputable def ring_Add_e : Ent := ⟨[.val t27, .val t135], [⟨t27, [true], none⟩], fun x => ring_Add x.1 x.2.1⟩
theorem ring_Add_good : Good tab.ty Tryz.prog 158 ring_Add_e := by
  refine fn_good (Γ := ring_Add_Γ) (fi := ring_Add_fi) (n := 1) follows (gcons slices_Clone_Item_good gnil) tabok Tryz.func158 (by kernel_rfl) (by kernel_rfl) (fun x r h => ?_)
  obtain ⟨l_0, i_1, _u⟩ := x
  exact (ring_Add_eq l_0 i_1).trans h
noncomputable def feed_Say_Γ : Ctx := [(79, feed_twin_e), (157, log_Tell_e), (158, ring_Add_e)]
def feed_Say_fi : Fi := { keep := [], vty := [], vals := [], live := [(0, [1, 2, 4, 16, 17]), (1, [1, 2, 4, 16, 17]), (2, [1, 2, 4, 6, 16, 17]), (3, [1, 2, 4, 6, 18]), (4, [4, 5]), (5, [2, 4, 6]), (6, [2, 4]), (7, [4, 5])] }
noncomputable def feed_Say (f_0 : Int × Int × (List (Int × ByteArray)) × (List (Int × ByteArray)) × (List (Int × Int × Int × ByteArray × Int)) × Int × Int) (text_1 : ByteArray) : Option (((Int × Int × (List (Int × ByteArray)) × (List (Int × ByteArray)) × (List (Int × Int × Int × ByteArray × Int)) × Int × Int) × Bool × Unit) × Unit) :=
 Option.bind (feed_twin f_0) fun (r1 : ((Int × Int × (List (Int × ByteArray)) × (List (Int × ByteArray)) × (List (Int × Int × Int × ByteArray × Int)) × Int × Int) × Unit) × Unit) =>
 bif decide ((text_1.size : Int) > 12) then
  some ((r1.1.1, false, ()), ())
 else
 bif decide ((if 1 > r1.1.1.1 then 1 else r1.1.1.1) > 1000000) then
  some ((r1.1.1, false, ()), ())
 else
  Option.bind (log_Tell r1.1.1.2.2.2.2.1 (if 1 > r1.1.1.1 then 1 else r1.1.1.1) text_1) fun (r2 : ((List (Int × Int × Int × ByteArray × Int)) × Unit) × Unit) =>
  Option.bind (ring_Add r1.1.1.2.2.1 (if 1 > r1.1.1.1 then 1 else r1.1.1.1, text_1)) fun (r3 : ((List (Int × ByteArray)) × Unit) × Unit) =>
  some (((IntKind.wrap .i64 ((if 1 > r1.1.1.1 then 1 else r1.1.1.1) + 1), if 1 > r1.1.1.1 then 1 else r1.1.1.1, r3.1.1, r1.1.1.2.2.2.1, r2.1.1, r1.1.1.2.2.2.2.2), true, ()), ())
theorem feed_Say_eq (f_0 : Int × Int × (List (Int × ByteArray)) × (List (Int × ByteArray)) × (List (Int × Int × Int × ByteArray × Int)) × Int × Int) (text_1 : ByteArray) : evFn feed_Say_Γ tab feed_Say_fi 1 [.val t31, .val t9] [⟨t31, [false, false, false, false, false, false, false], none⟩, ⟨t4, [false], none⟩] Tryz.f65 (f_0, text_1, ()) = feed_Say f_0 text_1 := by kernel_rfl
noncomputable def feed_Say_e : Ent := ⟨[.val t31, .val t9], [⟨t31, [false, false, false, false, false, false, false], none⟩, ⟨t4, [false], none⟩], fun x => feed_Say x.1 x.2.1⟩
theorem feed_Say_good : Good tab.ty Tryz.prog 65 feed_Say_e := by
  refine fn_good (Γ := feed_Say_Γ) (fi := feed_Say_fi) (n := 1) follows (gcons feed_twin_good (gcons log_Tell_good (gcons ring_Add_good gnil))) tabok Tryz.func65 (by kernel_rfl) (by kernel_rfl) (fun x r h => ?_)
  obtain ⟨f_0, text_1, _u⟩ := x
  exact (feed_Say_eq f_0 text_1).trans h
noncomputable def feed_Since_Γ : Ctx := [(70, slices_Clone_Event_e)]
def feed_Since_fi : Fi := { keep := [], vty := [], vals := [], live := [(0, [2, 3]), (1, [4])] }
noncomputable def feed_Since (f_0 : Int × Int × (List (Int × ByteArray)) × (List (Int × ByteArray)) × (List (Int × Int × Int × ByteArray × Int)) × Int × Int) (old_1 : Int × Int × (List (Int × ByteArray)) × (List (Int × ByteArray)) × (List (Int × Int × Int × ByteArray × Int)) × Int × Int) : Option (((List (Int × Int × Int × ByteArray × Int)) × Unit) × Unit) :=
 bif (decide (0 ≤ (if (f_0.2.2.2.2.1.length : Int) < (old_1.2.2.2.2.1.length : Int) then (f_0.2.2.2.2.1.length : Int) else (old_1.2.2.2.2.1.length : Int))) && decide ((if (f_0.2.2.2.2.1.length : Int) < (old_1.2.2.2.2.1.length : Int) then (f_0.2.2.2.2.1.length : Int) else (old_1.2.2.2.2.1.length : Int)) ≤ (f_0.2.2.2.2.1.length : Int))) && decide ((f_0.2.2.2.2.1.length : Int) ≤ (f_0.2.2.2.2.1.length : Int)) then
  Option.bind (slices_Clone_Event (List.drop ((if (f_0.2.2.2.2.1.length : Int) < (old_1.2.2.2.2.1.length : Int) then (f_0.2.2.2.2.1.length : Int) else (old_1.2.2.2.2.1.length : Int)).toNat) (List.take ((f_0.2.2.2.2.1.length : Int).toNat) f_0.2.2.2.2.1))) fun (r1 : ((List (Int × Int × Int × ByteArray × Int)) × Unit) × Unit) =>
  some ((r1.1.1, ()), ())
 else none
theorem feed_Since_eq (f_0 : Int × Int × (List (Int × ByteArray)) × (List (Int × ByteArray)) × (List (Int × Int × Int × ByteArray × Int)) × Int × Int) (old_1 : Int × Int × (List (Int × ByteArray)) × (List (Int × ByteArray)) × (List (Int × Int × Int × ByteArray × Int)) × Int × Int) : evFn feed_Since_Γ tab feed_Since_fi 1 [.val t31, .val t31] [⟨t28, [true], none⟩] Tryz.f84 (f_0, old_1, ()) = feed_Since f_0 old_1 := by kernel_rfl
noncomputable def feed_Since_e : Ent := ⟨[.val t31, .val t31], [⟨t28, [true], none⟩], fun x => feed_Since x.1 x.2.1⟩
theorem feed_Since_good : Good tab.ty Tryz.prog 84 feed_Since_e := by
  refine fn_good (Γ := feed_Since_Γ) (fi := feed_Since_fi) (n := 1) follows (gcons slices_Clone_Event_good gnil) tabok Tryz.func84 (by kernel_rfl) (by kernel_rfl) (fun x r h => ?_)
  obtain ⟨f_0, old_1, _u⟩ := x
  exact (feed_Since_eq f_0 old_1).trans h
noncomputable def node_tells_Γ : Ctx := []
def node_tells_fi : Fi := { keep := [], vty := [], vals := [], live := [(0, [1, 2, 3, 4, 5, 6, 12]), (1, [12])] }
noncomputable def node_tells (n_0 : Bool × Int × ByteArray × (Int × Int × Int × Int × Int × Int × (List Int) × Int × Int × Int × Int × Int × List (Int × Int × Int)) × (Int × Int × (List (Int × ByteArray)) × (List (Int × ByteArray)) × (List (Int × Int × Int × ByteArray × Int)) × Int × Int) × Int) (kind_1 : Int) (to_2 : Int) (lo_3 : Int) (hi_4 : Int) (s_5 : ByteArray) : Option (((Int × Int × Int × Int × Int × Int × (List Int) × Int × Int × ByteArray) × Unit) × Unit) :=
 some (((kind_1, n_0.2.2.2.1.1, to_2, n_0.2.2.2.1.2.1, 0, 0, [], lo_3, hi_4, s_5), ()), ())
theorem node_tells_eq (n_0 : Bool × Int × ByteArray × (Int × Int × Int × Int × Int × Int × (List Int) × Int × Int × Int × Int × Int × List (Int × Int × Int)) × (Int × Int × (List (Int × ByteArray)) × (List (Int × ByteArray)) × (List (Int × Int × Int × ByteArray × Int)) × Int × Int) × Int) (kind_1 : Int) (to_2 : Int) (lo_3 : Int) (hi_4 : Int) (s_5 : ByteArray) : evFn node_tells_Γ tab node_tells_fi 1 [.val t33, .val t2, .val t2, .val t2, .val t2, .val t9] [⟨t40, [false, false, false, false, false, false, true, false, false, false], none⟩] Tryz.f32 (n_0, kind_1, to_2, lo_3, hi_4, s_5, ()) = node_tells n_0 kind_1 to_2 lo_3 hi_4 s_5 := by kernel_rfl
noncomputable def node_tells_e : Ent := ⟨[.val t33, .val t2, .val t2, .val t2, .val t2, .val t9], [⟨t40, [false, false, false, false, false, false, true, false, false, false], none⟩], fun x => node_tells x.1 x.2.1 x.2.2.1 x.2.2.2.1 x.2.2.2.2.1 x.2.2.2.2.2.1⟩
theorem node_tells_good : Good tab.ty Tryz.prog 32 node_tells_e := by
  refine fn_good (Γ := node_tells_Γ) (fi := node_tells_fi) (n := 1) follows gnil tabok Tryz.func32 (by kernel_rfl) (by kernel_rfl) (fun x r h => ?_)
  obtain ⟨n_0, kind_1, to_2, lo_3, hi_4, s_5, _u⟩ := x
  exact (node_tells_eq n_0 kind_1 to_2 lo_3 hi_4 s_5).trans h
noncomputable def node_down_Γ : Ctx := [(32, node_tells_e), (84, feed_Since_e)]
def node_down_fi : Fi := { keep := [], vty := [(4, 37)], vals := [], live := [(0, [2, 3, 4]), (1, [2, 4, 12, 13, 14]), (2, [2, 4, 12, 13, 14, 15]), (3, [2, 4, 6, 12, 13, 14]), (4, [2, 4, 6, 12, 13, 14, 20, 21, 22]), (5, [2, 4, 6, 12, 13, 14, 20, 21, 22, 23]), (6, [2, 4, 6, 8, 12, 13, 14, 20, 21, 22]), (7, [2, 4, 6, 8, 12, 13, 14, 20, 21, 22, 28]), (8, [2, 4, 6, 12, 13, 14, 20, 21, 22]), (9, [2, 4, 6, 12, 13, 14, 20, 21, 22]), (10, [2, 4, 6, 12, 13, 14, 20, 21, 22]), (11, [2, 4, 12, 13, 14]), (12, [4])] }
noncomputable def node_down_B1 (L2 : Int → Int → (List (Int × Int × Int)) → Int → Int → Bool → Int → ByteArray → Int → Int → Int → Int → Int → Int → List Int → Int → Int → Int → Int → Int → (List (Int × Int × Int)) → Int → Int → (List (Int × ByteArray)) → (List (Int × ByteArray)) → (List (Int × Int × Int × ByteArray × Int)) → Int → Int → Int → (List (Int × Int × Int × Int × Int × Int × (List Int) × Int × Int × ByteArray)) → Int → Int → Int → ByteArray → Int → (List (Int × Int × Int × ByteArray × Int)) → Option (((List (Int × Int × Int × Int × Int × Int × (List Int) × Int × Int × ByteArray)) × Unit) × Unit)) (v2 : Int) (v3 : Int) (v4 : Bool) (v5 : Int) (v6 : ByteArray) (v7 : Int) (v8 : Int) (v9 : Int) (v10 : Int) (v11 : Int) (v12 : Int) (v13 : List Int) (v14 : Int) (v15 : Int) (v16 : Int) (v17 : Int) (v18 : Int) (v19 : List (Int × Int × Int)) (v20 : Int) (v21 : Int) (v22 : List (Int × ByteArray)) (v23 : List (Int × ByteArray)) (v24 : List (Int × Int × Int × ByteArray × Int)) (v25 : Int) (v26 : Int) (v27 : Int) (v28 : List (Int × Int × Int × Int × Int × Int × (List Int) × Int × Int × ByteArray)) (v29 : List (Int × Int × Int × ByteArray × Int)) : Option (((List (Int × Int × Int × Int × Int × Int × (List Int) × Int × Int × ByteArray)) × Unit) × Unit) :=
 bif decide (v3 < v2) then
  bif decide (0 ≤ v3) && decide (v3 < (v29.length : Int)) then
   bif decide (0 ≤ v3) && decide (v3 < (v29.length : Int)) then
    L2 v2 v3 v19 (v19.length : Int) 0 v4 v5 v6 v7 v8 v9 v10 v11 v12 v13 v14 v15 v16 v17 v18 v19 v20 v21 v22 v23 v24 v25 v26 v27 v28 ((List.getD v29 v3.toNat (0, 0, 0, (⟨#[]⟩ : ByteArray), 0)).1) (((List.getD v29 v3.toNat (0, 0, 0, (⟨#[]⟩ : ByteArray), 0)).2).1) ((((List.getD v29 v3.toNat (0, 0, 0, (⟨#[]⟩ : ByteArray), 0)).2).2).1) (((((List.getD v29 v3.toNat (0, 0, 0, (⟨#[]⟩ : ByteArray), 0)).2).2).2).1) (((((List.getD v29 v3.toNat (0, 0, 0, (⟨#[]⟩ : ByteArray), 0)).2).2).2).2) v29
   else none
  else none
 else
  some ((v28, ()), ())
noncomputable def node_down_B2 (L2 : Int → Int → (List (Int × Int × Int)) → Int → Int → Bool → Int → ByteArray → Int → Int → Int → Int → Int → Int → List Int → Int → Int → Int → Int → Int → (List (Int × Int × Int)) → Int → Int → (List (Int × ByteArray)) → (List (Int × ByteArray)) → (List (Int × Int × Int × ByteArray × Int)) → Int → Int → Int → (List (Int × Int × Int × Int × Int × Int × (List Int) × Int × Int × ByteArray)) → Int → Int → Int → ByteArray → Int → (List (Int × Int × Int × ByteArray × Int)) → Option (((List (Int × Int × Int × Int × Int × Int × (List Int) × Int × Int × ByteArray)) × Unit) × Unit)) (L1 : Int → Int → Bool → Int → ByteArray → Int → Int → Int → Int → Int → Int → List Int → Int → Int → Int → Int → Int → (List (Int × Int × Int)) → Int → Int → (List (Int × ByteArray)) → (List (Int × ByteArray)) → (List (Int × Int × Int × ByteArray × Int)) → Int → Int → Int → (List (Int × Int × Int × Int × Int × Int × (List Int) × Int × Int × ByteArray)) → (List (Int × Int × Int × ByteArray × Int)) → Option (((List (Int × Int × Int × Int × Int × Int × (List Int) × Int × Int × ByteArray)) × Unit) × Unit)) (v30 : Int) (v31 : Int) (v32 : List (Int × Int × Int)) (v33 : Int) (v34 : Int) (v35 : Bool) (v36 : Int) (v37 : ByteArray) (v38 : Int) (v39 : Int) (v40 : Int) (v41 : Int) (v42 : Int) (v43 : Int) (v44 : List Int) (v45 : Int) (v46 : Int) (v47 : Int) (v48 : Int) (v49 : Int) (v50 : List (Int × Int × Int)) (v51 : Int) (v52 : Int) (v53 : List (Int × ByteArray)) (v54 : List (Int × ByteArray)) (v55 : List (Int × Int × Int × ByteArray × Int)) (v56 : Int) (v57 : Int) (v58 : Int) (v59 : List (Int × Int × Int × Int × Int × Int × (List Int) × Int × Int × ByteArray)) (v60 : Int) (v61 : Int) (v62 : Int) (v63 : ByteArray) (v64 : Int) (v65 : List (Int × Int × Int × ByteArray × Int)) : Option (((List (Int × Int × Int × Int × Int × Int × (List Int) × Int × Int × ByteArray)) × Unit) × Unit) :=
 bif decide (v34 < v33) then
  bif decide (0 ≤ v34) && decide (v34 < (v32.length : Int)) then
   bif v60 == 1 then
    Option.bind (node_tells (v35, v36, v37, (v38, v39, v40, v41, v42, v43, v44, v45, v46, v47, v48, v49, v50), (v51, v52, v53, v54, v55, v56, v57), v58) 7 ((List.getD v32 v34.toNat (0, 0, 0)).1) v61 0 v63) fun (r66 : ((Int × Int × Int × Int × Int × Int × (List Int) × Int × Int × ByteArray) × Unit) × Unit) =>
    bif Nat.ble (v59.length + 1) 1073741824 then
     L2 v30 v31 v32 v33 (IntKind.wrap .i64 (v34 + 1)) v35 v36 v37 v38 v39 v40 v41 v42 v43 v44 v45 v46 v47 v48 v49 v50 v51 v52 v53 v54 v55 v56 v57 v58 (v59 ++ [r66.1.1]) v60 v61 v62 v63 v64 v65
    else none
   else
    Option.bind (node_tells (v35, v36, v37, (v38, v39, v40, v41, v42, v43, v44, v45, v46, v47, v48, v49, v50), (v51, v52, v53, v54, v55, v56, v57), v58) 9 ((List.getD v32 v34.toNat (0, 0, 0)).1) v61 v62 (⟨#[]⟩ : ByteArray)) fun (r67 : ((Int × Int × Int × Int × Int × Int × (List Int) × Int × Int × ByteArray) × Unit) × Unit) =>
    bif Nat.ble (v59.length + 1) 1073741824 then
     L2 v30 v31 v32 v33 (IntKind.wrap .i64 (v34 + 1)) v35 v36 v37 v38 v39 v40 v41 v42 v43 v44 v45 v46 v47 v48 v49 v50 v51 v52 v53 v54 v55 v56 v57 v58 (v59 ++ [r67.1.1]) v60 v61 v62 v63 v64 v65
    else none
  else none
 else
  L1 v30 (IntKind.wrap .i64 (v31 + 1)) v35 v36 v37 v38 v39 v40 v41 v42 v43 v44 v45 v46 v47 v48 v49 v50 v51 v52 v53 v54 v55 v56 v57 v58 v59 v65
noncomputable def node_down_T (L1 : Int → Int → Bool → Int → ByteArray → Int → Int → Int → Int → Int → Int → List Int → Int → Int → Int → Int → Int → (List (Int × Int × Int)) → Int → Int → (List (Int × ByteArray)) → (List (Int × ByteArray)) → (List (Int × Int × Int × ByteArray × Int)) → Int → Int → Int → (List (Int × Int × Int × Int × Int × Int × (List Int) × Int × Int × ByteArray)) → (List (Int × Int × Int × ByteArray × Int)) → Option (((List (Int × Int × Int × Int × Int × Int × (List Int) × Int × Int × ByteArray)) × Unit) × Unit)) (n_0 : Bool × Int × ByteArray × (Int × Int × Int × Int × Int × Int × (List Int) × Int × Int × Int × Int × Int × List (Int × Int × Int)) × (Int × Int × (List (Int × ByteArray)) × (List (Int × ByteArray)) × (List (Int × Int × Int × ByteArray × Int)) × Int × Int) × Int) (old_1 : Int × Int × (List (Int × ByteArray)) × (List (Int × ByteArray)) × (List (Int × Int × Int × ByteArray × Int)) × Int × Int) : Option (((List (Int × Int × Int × Int × Int × Int × (List Int) × Int × Int × ByteArray)) × Unit) × Unit) :=
 Option.bind (feed_Since n_0.2.2.2.2.1 old_1) fun (r1 : ((List (Int × Int × Int × ByteArray × Int)) × Unit) × Unit) =>
 L1 (r1.1.1.length : Int) 0 n_0.1 n_0.2.1 n_0.2.2.1 n_0.2.2.2.1.1 n_0.2.2.2.1.2.1 n_0.2.2.2.1.2.2.1 n_0.2.2.2.1.2.2.2.1 n_0.2.2.2.1.2.2.2.2.1 n_0.2.2.2.1.2.2.2.2.2.1 n_0.2.2.2.1.2.2.2.2.2.2.1 n_0.2.2.2.1.2.2.2.2.2.2.2.1 n_0.2.2.2.1.2.2.2.2.2.2.2.2.1 n_0.2.2.2.1.2.2.2.2.2.2.2.2.2.1 n_0.2.2.2.1.2.2.2.2.2.2.2.2.2.2.1 n_0.2.2.2.1.2.2.2.2.2.2.2.2.2.2.2.1 n_0.2.2.2.1.2.2.2.2.2.2.2.2.2.2.2.2 n_0.2.2.2.2.1.1 n_0.2.2.2.2.1.2.1 n_0.2.2.2.2.1.2.2.1 n_0.2.2.2.2.1.2.2.2.1 n_0.2.2.2.2.1.2.2.2.2.1 n_0.2.2.2.2.1.2.2.2.2.2.1 n_0.2.2.2.2.1.2.2.2.2.2.2 n_0.2.2.2.2.2 [] r1.1.1
noncomputable def node_down_L2 (n : Nat) (m1 : Nat) (r1 : Int → Int → Bool → Int → ByteArray → Int → Int → Int → Int → Int → Int → List Int → Int → Int → Int → Int → Int → (List (Int × Int × Int)) → Int → Int → (List (Int × ByteArray)) → (List (Int × ByteArray)) → (List (Int × Int × Int × ByteArray × Int)) → Int → Int → Int → (List (Int × Int × Int × Int × Int × Int × (List Int) × Int × Int × ByteArray)) → (List (Int × Int × Int × ByteArray × Int)) → Option (((List (Int × Int × Int × Int × Int × Int × (List Int) × Int × Int × ByteArray)) × Unit) × Unit)) : Nat → Int → Int → (List (Int × Int × Int)) → Int → Int → Bool → Int → ByteArray → Int → Int → Int → Int → Int → Int → List Int → Int → Int → Int → Int → Int → (List (Int × Int × Int)) → Int → Int → (List (Int × ByteArray)) → (List (Int × ByteArray)) → (List (Int × Int × Int × ByteArray × Int)) → Int → Int → Int → (List (Int × Int × Int × Int × Int × Int × (List Int) × Int × Int × ByteArray)) → Int → Int → Int → ByteArray → Int → (List (Int × Int × Int × ByteArray × Int)) → Option (((List (Int × Int × Int × Int × Int × Int × (List Int) × Int × Int × ByteArray)) × Unit) × Unit) := iter (fun _ _ _ _ _ _ _ _ _ _ _ _ _ _ _ _ _ _ _ _ _ _ _ _ _ _ _ _ _ _ _ _ _ _ _ _ => none) fun L => node_down_B2 L r1
noncomputable def node_down_L1 (n : Nat) : Nat → Int → Int → Bool → Int → ByteArray → Int → Int → Int → Int → Int → Int → List Int → Int → Int → Int → Int → Int → (List (Int × Int × Int)) → Int → Int → (List (Int × ByteArray)) → (List (Int × ByteArray)) → (List (Int × Int × Int × ByteArray × Int)) → Int → Int → Int → (List (Int × Int × Int × Int × Int × Int × (List Int) × Int × Int × ByteArray)) → (List (Int × Int × Int × ByteArray × Int)) → Option (((List (Int × Int × Int × Int × Int × Int × (List Int) × Int × Int × ByteArray)) × Unit) × Unit) := iterN (fun _ _ _ _ _ _ _ _ _ _ _ _ _ _ _ _ _ _ _ _ _ _ _ _ _ _ _ _ => none) fun m L => node_down_B1 (node_down_L2 n m L n)
noncomputable def node_down_X1 (n m : Nat) (v2 : Int) (v3 : Int) (v4 : Bool) (v5 : Int) (v6 : ByteArray) (v7 : Int) (v8 : Int) (v9 : Int) (v10 : Int) (v11 : Int) (v12 : Int) (v13 : List Int) (v14 : Int) (v15 : Int) (v16 : Int) (v17 : Int) (v18 : Int) (v19 : List (Int × Int × Int)) (v20 : Int) (v21 : Int) (v22 : List (Int × ByteArray)) (v23 : List (Int × ByteArray)) (v24 : List (Int × Int × Int × ByteArray × Int)) (v25 : Int) (v26 : Int) (v27 : Int) (v28 : List (Int × Int × Int × Int × Int × Int × (List Int) × Int × Int × ByteArray)) (v29 : List (Int × Int × Int × ByteArray × Int)) : Option (((List (Int × Int × Int × Int × Int × Int × (List Int) × Int × Int × ByteArray)) × Unit) × Unit) :=
 atLoop node_down_Γ tab (fiB [.val t33, .val t31] node_down_fi) n [.val t33, .val t31] [⟨t37, [true], none⟩] Tryz.f33 [1, 0, 1, 0] [] [2, 4, 12, 13, 14] m
 ⟨[(2, SV.cv (CV.one (LV.ptr (2, 0) 0))), (4, SV.cv (CV.one (LV.ref (888888, 4)))), (12, SV.cv (CV.one (LV.ref (888888, 12)))), (13, SV.cv (CV.one (LV.pure t2 v2))), (14, SV.cv (CV.one (LV.pure t2 v3)))],
  [((2, 0), Ob.box 34 [LV.pure t4 v4, LV.pure t2 v5, LV.pure t9 v6, LV.pure t2 v7, LV.pure t2 v8, LV.pure t2 v9, LV.pure t2 v10, LV.pure t2 v11, LV.pure t2 v12, LV.pure t23 v13, LV.pure t2 v14, LV.pure t2 v15, LV.pure t2 v16, LV.pure t2 v17, LV.pure t2 v18, LV.pure t24 v19, LV.pure t2 v20, LV.pure t2 v21, LV.pure t27 v22, LV.pure t27 v23, LV.pure t28 v24, LV.pure t2 v25, LV.pure t2 v26, LV.pure t2 v27]), ((888888, 4), Ob.row 41 t40 v28), ((888888, 12), Ob.row 139 t138 v29)]⟩
noncomputable def node_down_X2 (n m1 m : Nat) (v30 : Int) (v31 : Int) (v32 : List (Int × Int × Int)) (v33 : Int) (v34 : Int) (v35 : Bool) (v36 : Int) (v37 : ByteArray) (v38 : Int) (v39 : Int) (v40 : Int) (v41 : Int) (v42 : Int) (v43 : Int) (v44 : List Int) (v45 : Int) (v46 : Int) (v47 : Int) (v48 : Int) (v49 : Int) (v50 : List (Int × Int × Int)) (v51 : Int) (v52 : Int) (v53 : List (Int × ByteArray)) (v54 : List (Int × ByteArray)) (v55 : List (Int × Int × Int × ByteArray × Int)) (v56 : Int) (v57 : Int) (v58 : Int) (v59 : List (Int × Int × Int × Int × Int × Int × (List Int) × Int × Int × ByteArray)) (v60 : Int) (v61 : Int) (v62 : Int) (v63 : ByteArray) (v64 : Int) (v65 : List (Int × Int × Int × ByteArray × Int)) : Option (((List (Int × Int × Int × Int × Int × Int × (List Int) × Int × Int × ByteArray)) × Unit) × Unit) :=
 atLoop node_down_Γ tab (fiB [.val t33, .val t31] node_down_fi) n [.val t33, .val t31] [⟨t37, [true], none⟩] Tryz.f33 [1, 0, 1, 0, 0, 1, 1, 0, 0, 1, 1, 0] [(m1, [2, 4, 12, 13, 14])] [2, 4, 6, 12, 13, 14, 20, 21, 22] m
 ⟨[(2, SV.cv (CV.one (LV.ptr (2, 0) 0))), (4, SV.cv (CV.one (LV.ref (888888, 4)))), (6, SV.cv (CV.one (LV.ptr (6, 0) 0))), (12, SV.cv (CV.one (LV.ref (888888, 12)))), (13, SV.cv (CV.one (LV.pure t2 v30))), (14, SV.cv (CV.one (LV.pure t2 v31))), (20, SV.cv (CV.one (LV.pure t24 v32))), (21, SV.cv (CV.one (LV.pure t2 v33))), (22, SV.cv (CV.one (LV.pure t2 v34)))],
  [((2, 0), Ob.box 34 [LV.pure t4 v35, LV.pure t2 v36, LV.pure t9 v37, LV.pure t2 v38, LV.pure t2 v39, LV.pure t2 v40, LV.pure t2 v41, LV.pure t2 v42, LV.pure t2 v43, LV.pure t23 v44, LV.pure t2 v45, LV.pure t2 v46, LV.pure t2 v47, LV.pure t2 v48, LV.pure t2 v49, LV.pure t24 v50, LV.pure t2 v51, LV.pure t2 v52, LV.pure t27 v53, LV.pure t27 v54, LV.pure t28 v55, LV.pure t2 v56, LV.pure t2 v57, LV.pure t2 v58]), ((888888, 4), Ob.row 41 t40 v59), ((6, 0), Ob.box 139 [LV.pure t2 v60, LV.pure t2 v61, LV.pure t2 v62, LV.pure t9 v63, LV.pure t2 v64]), ((888888, 12), Ob.row 139 t138 v65)]⟩
theorem node_down_step1 (n m : Nat) (v2 : Int) (v3 : Int) (v4 : Bool) (v5 : Int) (v6 : ByteArray) (v7 : Int) (v8 : Int) (v9 : Int) (v10 : Int) (v11 : Int) (v12 : Int) (v13 : List Int) (v14 : Int) (v15 : Int) (v16 : Int) (v17 : Int) (v18 : Int) (v19 : List (Int × Int × Int)) (v20 : Int) (v21 : Int) (v22 : List (Int × ByteArray)) (v23 : List (Int × ByteArray)) (v24 : List (Int × Int × Int × ByteArray × Int)) (v25 : Int) (v26 : Int) (v27 : Int) (v28 : List (Int × Int × Int × Int × Int × Int × (List Int) × Int × Int × ByteArray)) (v29 : List (Int × Int × Int × ByteArray × Int)) : node_down_X1 n (m + 1) v2 v3 v4 v5 v6 v7 v8 v9 v10 v11 v12 v13 v14 v15 v16 v17 v18 v19 v20 v21 v22 v23 v24 v25 v26 v27 v28 v29 = node_down_B1 (node_down_X2 n m n) v2 v3 v4 v5 v6 v7 v8 v9 v10 v11 v12 v13 v14 v15 v16 v17 v18 v19 v20 v21 v22 v23 v24 v25 v26 v27 v28 v29 := by kernel_rfl
theorem node_down_step2 (n m1 m : Nat) (v30 : Int) (v31 : Int) (v32 : List (Int × Int × Int)) (v33 : Int) (v34 : Int) (v35 : Bool) (v36 : Int) (v37 : ByteArray) (v38 : Int) (v39 : Int) (v40 : Int) (v41 : Int) (v42 : Int) (v43 : Int) (v44 : List Int) (v45 : Int) (v46 : Int) (v47 : Int) (v48 : Int) (v49 : Int) (v50 : List (Int × Int × Int)) (v51 : Int) (v52 : Int) (v53 : List (Int × ByteArray)) (v54 : List (Int × ByteArray)) (v55 : List (Int × Int × Int × ByteArray × Int)) (v56 : Int) (v57 : Int) (v58 : Int) (v59 : List (Int × Int × Int × Int × Int × Int × (List Int) × Int × Int × ByteArray)) (v60 : Int) (v61 : Int) (v62 : Int) (v63 : ByteArray) (v64 : Int) (v65 : List (Int × Int × Int × ByteArray × Int)) : node_down_X2 n m1 (m + 1) v30 v31 v32 v33 v34 v35 v36 v37 v38 v39 v40 v41 v42 v43 v44 v45 v46 v47 v48 v49 v50 v51 v52 v53 v54 v55 v56 v57 v58 v59 v60 v61 v62 v63 v64 v65 = node_down_B2 (node_down_X2 n m1 m) (node_down_X1 n m1) v30 v31 v32 v33 v34 v35 v36 v37 v38 v39 v40 v41 v42 v43 v44 v45 v46 v47 v48 v49 v50 v51 v52 v53 v54 v55 v56 v57 v58 v59 v60 v61 v62 v63 v64 v65 := by kernel_rfl
theorem node_down_start (n : Nat) (n_0 : Bool × Int × ByteArray × (Int × Int × Int × Int × Int × Int × (List Int) × Int × Int × Int × Int × Int × List (Int × Int × Int)) × (Int × Int × (List (Int × ByteArray)) × (List (Int × ByteArray)) × (List (Int × Int × Int × ByteArray × Int)) × Int × Int) × Int) (old_1 : Int × Int × (List (Int × ByteArray)) × (List (Int × ByteArray)) × (List (Int × Int × Int × ByteArray × Int)) × Int × Int) : evFn node_down_Γ tab node_down_fi n [.val t33, .val t31] [⟨t37, [true], none⟩] Tryz.f33 (n_0, old_1, ()) = node_down_T (node_down_X1 n n) n_0 old_1 := by kernel_rfl
theorem node_down_XL2 (n : Nat) (m1 : Nat) (r1 : Int → Int → Bool → Int → ByteArray → Int → Int → Int → Int → Int → Int → List Int → Int → Int → Int → Int → Int → (List (Int × Int × Int)) → Int → Int → (List (Int × ByteArray)) → (List (Int × ByteArray)) → (List (Int × Int × Int × ByteArray × Int)) → Int → Int → Int → (List (Int × Int × Int × Int × Int × Int × (List Int) × Int × Int × ByteArray)) → (List (Int × Int × Int × ByteArray × Int)) → Option (((List (Int × Int × Int × Int × Int × Int × (List Int) × Int × Int × ByteArray)) × Unit) × Unit)) (h1 : node_down_X1 n m1 = r1) : ∀ m, node_down_X2 n m1 m = node_down_L2 n m1 r1 m
 | 0 => rfl
 | m + 1 => by
  have ih := node_down_XL2 n m1 r1 h1 m
  funext v30 v31 v32 v33 v34 v35 v36 v37 v38 v39 v40 v41 v42 v43 v44 v45 v46 v47 v48 v49 v50 v51 v52 v53 v54 v55 v56 v57 v58 v59 v60 v61 v62 v63 v64 v65
  rw [node_down_step2, ih, h1]
  rfl
theorem node_down_XL1 (n : Nat) : ∀ m, node_down_X1 n m = node_down_L1 n m
 | 0 => rfl
 | m + 1 => by
  have ih := node_down_XL1 n m
  funext v2 v3 v4 v5 v6 v7 v8 v9 v10 v11 v12 v13 v14 v15 v16 v17 v18 v19 v20 v21 v22 v23 v24 v25 v26 v27 v28 v29
  rw [node_down_step1, node_down_XL2 n m _ ih n]
  rfl
noncomputable def node_down_n (n : Nat) (n_0 : Bool × Int × ByteArray × (Int × Int × Int × Int × Int × Int × (List Int) × Int × Int × Int × Int × Int × List (Int × Int × Int)) × (Int × Int × (List (Int × ByteArray)) × (List (Int × ByteArray)) × (List (Int × Int × Int × ByteArray × Int)) × Int × Int) × Int) (old_1 : Int × Int × (List (Int × ByteArray)) × (List (Int × ByteArray)) × (List (Int × Int × Int × ByteArray × Int)) × Int × Int) : Option (((List (Int × Int × Int × Int × Int × Int × (List Int) × Int × Int × ByteArray)) × Unit) × Unit) := node_down_T (node_down_L1 n n) n_0 old_1
noncomputable def node_down (n_0 : Bool × Int × ByteArray × (Int × Int × Int × Int × Int × Int × (List Int) × Int × Int × Int × Int × Int × List (Int × Int × Int)) × (Int × Int × (List (Int × ByteArray)) × (List (Int × ByteArray)) × (List (Int × Int × Int × ByteArray × Int)) × Int × Int) × Int) (old_1 : Int × Int × (List (Int × ByteArray)) × (List (Int × ByteArray)) × (List (Int × Int × Int × ByteArray × Int)) × Int × Int) : Option (((List (Int × Int × Int × Int × Int × Int × (List Int) × Int × Int × ByteArray)) × Unit) × Unit) := node_down_n 1099511627776 n_0 old_1
theorem node_down_eq (n : Nat) (n_0 : Bool × Int × ByteArray × (Int × Int × Int × Int × Int × Int × (List Int) × Int × Int × Int × Int × Int × List (Int × Int × Int)) × (Int × Int × (List (Int × ByteArray)) × (List (Int × ByteArray)) × (List (Int × Int × Int × ByteArray × Int)) × Int × Int) × Int) (old_1 : Int × Int × (List (Int × ByteArray)) × (List (Int × ByteArray)) × (List (Int × Int × Int × ByteArray × Int)) × Int × Int) : evFn node_down_Γ tab node_down_fi n [.val t33, .val t31] [⟨t37, [true], none⟩] Tryz.f33 (n_0, old_1, ()) = node_down_n n n_0 old_1 := by
  rw [node_down_start, node_down_XL1 n n]
  rfl
noncomputable def node_down_e : Ent := ⟨[.val t33, .val t31], [⟨t37, [true], none⟩], fun x => node_down x.1 x.2.1⟩
theorem node_down_good : Good tab.ty Tryz.prog 33 node_down_e := by
  refine fn_good (Γ := node_down_Γ) (fi := node_down_fi) (n := 1099511627776) follows (gcons node_tells_good (gcons feed_Since_good gnil)) tabok Tryz.func33 (by kernel_rfl) (by kernel_rfl) (fun x r h => ?_)
  obtain ⟨n_0, old_1, _u⟩ := x
  exact (node_down_eq 1099511627776 n_0 old_1).trans h
noncomputable def node_Say_Γ : Ctx := [(28, node_twin_e), (33, node_down_e), (65, feed_Say_e)]
def node_Say_fi : Fi := { keep := [], vty := [], vals := [], live := [(0, [1, 2, 4, 16, 17, 18, 19]), (1, [1, 2, 4, 7, 16, 17, 18, 19]), (2, [1, 2, 4, 7, 20]), (3, [4, 5, 6]), (4, [2, 4, 7, 8, 9]), (5, [2, 4, 7, 8, 30]), (6, [4, 5, 6]), (7, [2, 4, 7]), (8, [4, 5, 6])] }
noncomputable def node_Say (n_0 : Bool × Int × ByteArray × (Int × Int × Int × Int × Int × Int × (List Int) × Int × Int × Int × Int × Int × List (Int × Int × Int)) × (Int × Int × (List (Int × ByteArray)) × (List (Int × ByteArray)) × (List (Int × Int × Int × ByteArray × Int)) × Int × Int) × Int) (s_1 : ByteArray) : Option (((Bool × Int × ByteArray × (Int × Int × Int × Int × Int × Int × (List Int) × Int × Int × Int × Int × Int × List (Int × Int × Int)) × (Int × Int × (List (Int × ByteArray)) × (List (Int × ByteArray)) × (List (Int × Int × Int × ByteArray × Int)) × Int × Int) × Int) × (List (Int × Int × Int × Int × Int × Int × (List Int) × Int × Int × ByteArray)) × Bool × Unit) × Unit) :=
 Option.bind (node_twin n_0) fun (r1 : ((Bool × Int × ByteArray × (Int × Int × Int × Int × Int × Int × (List Int) × Int × Int × Int × Int × Int × List (Int × Int × Int)) × (Int × Int × (List (Int × ByteArray)) × (List (Int × ByteArray)) × (List (Int × Int × Int × ByteArray × Int)) × Int × Int) × Int) × Unit) × Unit) =>
 bif !n_0.1 then
  some ((r1.1.1, [], false, ()), ())
 else
 bif n_0.2.2.2.1.1 != 1 then
  some ((r1.1.1, [], false, ()), ())
 else
  Option.bind (feed_Say n_0.2.2.2.2.1 s_1) fun (r2 : ((Int × Int × (List (Int × ByteArray)) × (List (Int × ByteArray)) × (List (Int × Int × Int × ByteArray × Int)) × Int × Int) × Bool × Unit) × Unit) =>
  bif !r2.1.2.1 then
   some ((r1.1.1, [], false, ()), ())
  else
   Option.bind (node_down (r1.1.1.1, r1.1.1.2.1, r1.1.1.2.2.1, r1.1.1.2.2.2.1, r2.1.1, r1.1.1.2.2.2.2.2) n_0.2.2.2.2.1) fun (r3 : ((List (Int × Int × Int × Int × Int × Int × (List Int) × Int × Int × ByteArray)) × Unit) × Unit) =>
   some (((r1.1.1.1, r1.1.1.2.1, r1.1.1.2.2.1, r1.1.1.2.2.2.1, r2.1.1, r1.1.1.2.2.2.2.2), r3.1.1, true, ()), ())
theorem node_Say_eq (n_0 : Bool × Int × ByteArray × (Int × Int × Int × Int × Int × Int × (List Int) × Int × Int × Int × Int × Int × List (Int × Int × Int)) × (Int × Int × (List (Int × ByteArray)) × (List (Int × ByteArray)) × (List (Int × Int × Int × ByteArray × Int)) × Int × Int) × Int) (s_1 : ByteArray) : evFn node_Say_Γ tab node_Say_fi 1 [.val t33, .val t9] [⟨t33, [false, false, false, false, false, false, false, false, false, false, false, false, false, false, false, false, false, false, false, false, false, false, false, false], none⟩, ⟨t37, [true], none⟩, ⟨t4, [false], none⟩] Tryz.f25 (n_0, s_1, ()) = node_Say n_0 s_1 := by kernel_rfl
noncomputable def node_Say_e : Ent := ⟨[.val t33, .val t9], [⟨t33, [false, false, false, false, false, false, false, false, false, false, false, false, false, false, false, false, false, false, false, false, false, false, false, false], none⟩, ⟨t37, [true], none⟩, ⟨t4, [false], none⟩], fun x => node_Say x.1 x.2.1⟩
theorem node_Say_good : Good tab.ty Tryz.prog 25 node_Say_e := by
  refine fn_good (Γ := node_Say_Γ) (fi := node_Say_fi) (n := 1) follows (gcons node_twin_good (gcons node_down_good (gcons feed_Say_good gnil))) tabok Tryz.func25 (by kernel_rfl) (by kernel_rfl) (fun x r h => ?_)
  obtain ⟨n_0, s_1, _u⟩ := x
  exact (node_Say_eq n_0 s_1).trans h
noncomputable def bits_take_Γ : Ctx := []
def bits_take_fi : Fi := { keep := [], vty := [], vals := [], live := [(0, [0, 2, 3, 11, 12, 33, 34, 37, 38]), (1, [0, 2, 3, 11, 12, 13, 33, 34, 37, 38]), (2, [0, 2, 3, 5, 11, 12, 33, 34, 37, 38]), (3, [0, 2, 3, 5, 11, 12, 33, 34, 37, 38]), (4, [0, 2, 3, 5, 11, 12, 33, 34, 37, 38]), (5, [0, 2, 3, 5, 11, 12, 29, 33, 34, 37, 38]), (6, [2, 3, 39]), (7, [2, 3, 4]), (8, [2, 3, 4])] }
noncomputable def bits_take_B1 (L1 : List Int → Int → Int → Option ((Int × Int × IV × Unit) × Unit)) (v1 : List Int) (v2 : Int) (v3 : Int) : Option ((Int × Int × IV × Unit) × Unit) :=
 bif decide (v3 < (v1.length : Int)) then
  bif decide (v3 < 5) then
   bif decide (0 ≤ v3) && decide (v3 < (v1.length : Int)) then
    bif decide (0 ≤ IntKind.wrap .i64 (7 * v3)) then
     bif decide (List.getD v1 v3.toNat 0 ≥ 128) then
      L1 v1 (IntKind.wrap .i64 ((BitVec.ofInt 64 v2 ||| BitVec.ofInt 64 (IntKind.wrap .i64 ((IntKind.wrap .i64 (IntKind.wrap .u8 ((BitVec.ofInt 8 (List.getD v1 v3.toNat 0) &&& BitVec.ofInt 8 127).toNat))) * 2 ^ (min ((IntKind.wrap .i64 (7 * v3)).toNat) 64)))).toNat)) (IntKind.wrap .i64 (v3 + 1))
     else
     bif decide (IntKind.wrap .i64 (v3 + 1) > 1) then
      bif (List.getD v1 v3.toNat 0) == 0 then
       some ((0, 0, IV.mk 309 [], ()), ())
      else
      bif decide (IntKind.wrap .i64 ((BitVec.ofInt 64 v2 ||| BitVec.ofInt 64 (IntKind.wrap .i64 ((IntKind.wrap .i64 (IntKind.wrap .u8 ((BitVec.ofInt 8 (List.getD v1 v3.toNat 0) &&& BitVec.ofInt 8 127).toNat))) * 2 ^ (min ((IntKind.wrap .i64 (7 * v3)).toNat) 64)))).toNat) > 1073741824) then
       some ((0, 0, IV.mk 309 [], ()), ())
      else
       some ((IntKind.wrap .i64 ((BitVec.ofInt 64 v2 ||| BitVec.ofInt 64 (IntKind.wrap .i64 ((IntKind.wrap .i64 (IntKind.wrap .u8 ((BitVec.ofInt 8 (List.getD v1 v3.toNat 0) &&& BitVec.ofInt 8 127).toNat))) * 2 ^ (min ((IntKind.wrap .i64 (7 * v3)).toNat) 64)))).toNat), IntKind.wrap .i64 (v3 + 1), IV.nil, ()), ())
     else
     bif decide (IntKind.wrap .i64 ((BitVec.ofInt 64 v2 ||| BitVec.ofInt 64 (IntKind.wrap .i64 ((IntKind.wrap .i64 (IntKind.wrap .u8 ((BitVec.ofInt 8 (List.getD v1 v3.toNat 0) &&& BitVec.ofInt 8 127).toNat))) * 2 ^ (min ((IntKind.wrap .i64 (7 * v3)).toNat) 64)))).toNat) > 1073741824) then
      some ((0, 0, IV.mk 309 [], ()), ())
     else
      some ((IntKind.wrap .i64 ((BitVec.ofInt 64 v2 ||| BitVec.ofInt 64 (IntKind.wrap .i64 ((IntKind.wrap .i64 (IntKind.wrap .u8 ((BitVec.ofInt 8 (List.getD v1 v3.toNat 0) &&& BitVec.ofInt 8 127).toNat))) * 2 ^ (min ((IntKind.wrap .i64 (7 * v3)).toNat) 64)))).toNat), IntKind.wrap .i64 (v3 + 1), IV.nil, ()), ())
    else none
   else none
  else
   some ((0, 0, IV.mk 309 [], ()), ())
 else
  some ((0, 0, IV.mk 309 [], ()), ())
noncomputable def bits_take_T (L1 : List Int → Int → Int → Option ((Int × Int × IV × Unit) × Unit)) (b_0 : List Int) : Option ((Int × Int × IV × Unit) × Unit) :=
 L1 b_0 0 0
noncomputable def bits_take_L1 (n : Nat) : Nat → List Int → Int → Int → Option ((Int × Int × IV × Unit) × Unit) := iter (fun _ _ _ => none) fun L => bits_take_B1 L
noncomputable def bits_take_X1 (n m : Nat) (v1 : List Int) (v2 : Int) (v3 : Int) : Option ((Int × Int × IV × Unit) × Unit) :=
 atLoop bits_take_Γ tab (fiB [.val t43] bits_take_fi) n [.val t43] [⟨t2, [false], none⟩, ⟨t2, [false], none⟩, ⟨t20, [false], none⟩] Tryz.f300 [1, 0, 0] [] [0, 2, 3] m
 ⟨[(0, SV.cv (CV.one (LV.pure t43 v1))), (2, SV.cv (CV.one (LV.pure t2 v2))), (3, SV.cv (CV.one (LV.pure t2 v3)))],
  []⟩
theorem bits_take_step1 (n m : Nat) (v1 : List Int) (v2 : Int) (v3 : Int) : bits_take_X1 n (m + 1) v1 v2 v3 = bits_take_B1 (bits_take_X1 n m) v1 v2 v3 := by kernel_rfl
theorem bits_take_start (n : Nat) (b_0 : List Int) : evFn bits_take_Γ tab bits_take_fi n [.val t43] [⟨t2, [false], none⟩, ⟨t2, [false], none⟩, ⟨t20, [false], none⟩] Tryz.f300 (b_0, ()) = bits_take_T (bits_take_X1 n n) b_0 := by kernel_rfl
theorem bits_take_XL1 (n : Nat) : ∀ m, bits_take_X1 n m = bits_take_L1 n m
 | 0 => rfl
 | m + 1 => by
  have ih := bits_take_XL1 n m
  funext v1 v2 v3
  rw [bits_take_step1, ih]
  rfl
noncomputable def bits_take_n (n : Nat) (b_0 : List Int) : Option ((Int × Int × IV × Unit) × Unit) := bits_take_T (bits_take_L1 n n) b_0
noncomputable def bits_take (b_0 : List Int) : Option ((Int × Int × IV × Unit) × Unit) := bits_take_n 1099511627776 b_0
theorem bits_take_eq (n : Nat) (b_0 : List Int) : evFn bits_take_Γ tab bits_take_fi n [.val t43] [⟨t2, [false], none⟩, ⟨t2, [false], none⟩, ⟨t20, [false], none⟩] Tryz.f300 (b_0, ()) = bits_take_n n b_0 := by
  rw [bits_take_start, bits_take_XL1 n n]
  rfl
noncomputable def bits_take_e : Ent := ⟨[.val t43], [⟨t2, [false], none⟩, ⟨t2, [false], none⟩, ⟨t20, [false], none⟩], fun x => bits_take x.1⟩
theorem bits_take_good : Good tab.ty Tryz.prog 300 bits_take_e := by
  refine fn_good (Γ := bits_take_Γ) (fi := bits_take_fi) (n := 1099511627776) follows gnil tabok Tryz.func300 (by kernel_rfl) (by kernel_rfl) (fun x r h => ?_)
  obtain ⟨b_0, _u⟩ := x
  exact (bits_take_eq 1099511627776 b_0).trans h
noncomputable def bits_Take_Γ : Ctx := [(300, bits_take_e)]
def bits_Take_fi : Fi := { keep := [], vty := [], vals := [], live := [(0, [0]), (1, [2, 3, 5]), (2, [2, 3, 7]), (3, [2, 3, 4])] }
noncomputable def bits_Take (b_0 : List Int) : Option ((Int × Int × Bool × Unit) × Unit) :=
 Option.bind (bits_take b_0) fun (r1 : (Int × Int × IV × Unit) × Unit) =>
 some ((r1.1.1, r1.1.2.1, !(IV.is r1.1.2.2.1 309), ()), ())
theorem bits_Take_eq (b_0 : List Int) : evFn bits_Take_Γ tab bits_Take_fi 1 [.val t43] [⟨t2, [false], none⟩, ⟨t2, [false], none⟩, ⟨t4, [false], none⟩] Tryz.f241 (b_0, ()) = bits_Take b_0 := by kernel_rfl
noncomputable def bits_Take_e : Ent := ⟨[.val t43], [⟨t2, [false], none⟩, ⟨t2, [false], none⟩, ⟨t4, [false], none⟩], fun x => bits_Take x.1⟩
theorem bits_Take_good : Good tab.ty Tryz.prog 241 bits_Take_e := by
  refine fn_good (Γ := bits_Take_Γ) (fi := bits_Take_fi) (n := 1) follows (gcons bits_take_good gnil) tabok Tryz.func241 (by kernel_rfl) (by kernel_rfl) (fun x r h => ?_)
  obtain ⟨b_0, _u⟩ := x
  exact (bits_Take_eq b_0).trans h
noncomputable def msg_reader_num_Γ : Ctx := [(241, bits_Take_e)]
def msg_reader_num_fi : Fi := { keep := [], vty := [], vals := [], live := [(0, [0, 1]), (1, [0, 1, 12]), (2, [0, 4]), (3, [0, 1, 5, 6, 7]), (4, [0, 1, 5, 6, 23]), (5, [0, 5, 6]), (6, [0, 5]), (7, [0, 4])] }
noncomputable def msg_reader_num (r_0 : (List Int) × IV) (what_1 : ByteArray) : Option ((Int × Unit) × (((List Int) × IV) × Unit)) :=
 bif !(IV.isNil r_0.2) then
  some ((0, ()), (r_0, ()))
 else
  Option.bind (bits_Take r_0.1) fun (r1 : (Int × Int × Bool × Unit) × Unit) =>
  bif !r1.1.2.2.1 then
   bif (decide (0 ≤ r1.1.2.1) && decide (r1.1.2.1 ≤ (r_0.1.length : Int))) && decide ((r_0.1.length : Int) ≤ (r_0.1.length : Int)) then
    some ((r1.1.1, ()), ((List.drop r1.1.2.1.toNat (List.take ((r_0.1.length : Int).toNat) r_0.1), IV.mk 164 [.str what_1]), ()))
   else none
  else
  bif (decide (0 ≤ r1.1.2.1) && decide (r1.1.2.1 ≤ (r_0.1.length : Int))) && decide ((r_0.1.length : Int) ≤ (r_0.1.length : Int)) then
   some ((r1.1.1, ()), ((List.drop r1.1.2.1.toNat (List.take ((r_0.1.length : Int).toNat) r_0.1), r_0.2), ()))
  else none
theorem msg_reader_num_eq (r_0 : (List Int) × IV) (what_1 : ByteArray) : evFn msg_reader_num_Γ tab msg_reader_num_fi 1 [.box 161 t160 [false, false], .val t9] [⟨t2, [false], none⟩] Tryz.f170 (r_0, what_1, ()) = msg_reader_num r_0 what_1 := by kernel_rfl
noncomputable def msg_reader_num_e : Ent := ⟨[.box 161 t160 [false, false], .val t9], [⟨t2, [false], none⟩], fun x => msg_reader_num x.1 x.2.1⟩
theorem msg_reader_num_good : Good tab.ty Tryz.prog 170 msg_reader_num_e := by
  refine fn_good (Γ := msg_reader_num_Γ) (fi := msg_reader_num_fi) (n := 1) follows (gcons bits_Take_good gnil) tabok Tryz.func170 (by kernel_rfl) (by kernel_rfl) (fun x r h => ?_)
  obtain ⟨r_0, what_1, _u⟩ := x
  exact (msg_reader_num_eq r_0 what_1).trans h
noncomputable def bits_TakeText_Γ : Ctx := [(241, bits_Take_e)]
def bits_TakeText_fi : Fi := { keep := [], vty := [], vals := [], live := [(0, [0, 15, 16, 17, 18, 19, 20]), (1, [0, 3, 4, 5, 15, 16, 17, 18, 19, 20]), (2, [0, 3, 5, 21]), (3, [2, 3, 4]), (4, [2, 3, 4])] }
noncomputable def bits_TakeText (b_0 : List Int) : Option ((ByteArray × Int × Bool × Unit) × Unit) :=
 Option.bind (bits_Take b_0) fun (r1 : (Int × Int × Bool × Unit) × Unit) =>
 bif !r1.1.2.2.1 then
  some (((⟨#[]⟩ : ByteArray), 0, false, ()), ())
 else
 bif decide (r1.1.1 > IntKind.wrap .i64 ((b_0.length : Int) - r1.1.2.1)) then
  some (((⟨#[]⟩ : ByteArray), 0, false, ()), ())
 else
 bif (decide (0 ≤ r1.1.2.1) && decide (r1.1.2.1 ≤ IntKind.wrap .i64 (r1.1.2.1 + r1.1.1))) && decide (IntKind.wrap .i64 (r1.1.2.1 + r1.1.1) ≤ (b_0.length : Int)) then
  some ((bytesOf (List.drop r1.1.2.1.toNat (List.take ((IntKind.wrap .i64 (r1.1.2.1 + r1.1.1)).toNat) b_0)), IntKind.wrap .i64 (r1.1.2.1 + r1.1.1), true, ()), ())
 else none
theorem bits_TakeText_eq (b_0 : List Int) : evFn bits_TakeText_Γ tab bits_TakeText_fi 1 [.val t43] [⟨t9, [false], none⟩, ⟨t2, [false], none⟩, ⟨t4, [false], none⟩] Tryz.f242 (b_0, ()) = bits_TakeText b_0 := by kernel_rfl
noncomputable def bits_TakeText_e : Ent := ⟨[.val t43], [⟨t9, [false], none⟩, ⟨t2, [false], none⟩, ⟨t4, [false], none⟩], fun x => bits_TakeText x.1⟩
theorem bits_TakeText_good : Good tab.ty Tryz.prog 242 bits_TakeText_e := by
  refine fn_good (Γ := bits_TakeText_Γ) (fi := bits_TakeText_fi) (n := 1) follows (gcons bits_Take_good gnil) tabok Tryz.func242 (by kernel_rfl) (by kernel_rfl) (fun x r h => ?_)
  obtain ⟨b_0, _u⟩ := x
  exact (bits_TakeText_eq b_0).trans h
noncomputable def msg_reader_text_Γ : Ctx := [(242, bits_TakeText_e)]
def msg_reader_text_fi : Fi := { keep := [], vty := [], vals := [], live := [(0, [0, 1]), (1, [0, 1, 12]), (2, [0, 4]), (3, [0, 1, 5, 6, 7]), (4, [0, 1, 5, 6, 23]), (5, [0, 5, 6]), (6, [0, 5]), (7, [0, 4])] }
noncomputable def msg_reader_text (r_0 : (List Int) × IV) (what_1 : ByteArray) : Option ((ByteArray × Unit) × (((List Int) × IV) × Unit)) :=
 bif !(IV.isNil r_0.2) then
  some (((⟨#[]⟩ : ByteArray), ()), (r_0, ()))
 else
  Option.bind (bits_TakeText r_0.1) fun (r1 : (ByteArray × Int × Bool × Unit) × Unit) =>
  bif !r1.1.2.2.1 then
   bif (decide (0 ≤ r1.1.2.1) && decide (r1.1.2.1 ≤ (r_0.1.length : Int))) && decide ((r_0.1.length : Int) ≤ (r_0.1.length : Int)) then
    some ((r1.1.1, ()), ((List.drop r1.1.2.1.toNat (List.take ((r_0.1.length : Int).toNat) r_0.1), IV.mk 164 [.str what_1]), ()))
   else none
  else
  bif (decide (0 ≤ r1.1.2.1) && decide (r1.1.2.1 ≤ (r_0.1.length : Int))) && decide ((r_0.1.length : Int) ≤ (r_0.1.length : Int)) then
   some ((r1.1.1, ()), ((List.drop r1.1.2.1.toNat (List.take ((r_0.1.length : Int).toNat) r_0.1), r_0.2), ()))
  else none
theorem msg_reader_text_eq (r_0 : (List Int) × IV) (what_1 : ByteArray) : evFn msg_reader_text_Γ tab msg_reader_text_fi 1 [.box 161 t160 [false, false], .val t9] [⟨t9, [false], none⟩] Tryz.f171 (r_0, what_1, ()) = msg_reader_text r_0 what_1 := by kernel_rfl
noncomputable def msg_reader_text_e : Ent := ⟨[.box 161 t160 [false, false], .val t9], [⟨t9, [false], none⟩], fun x => msg_reader_text x.1 x.2.1⟩
theorem msg_reader_text_good : Good tab.ty Tryz.prog 171 msg_reader_text_e := by
  refine fn_good (Γ := msg_reader_text_Γ) (fi := msg_reader_text_fi) (n := 1) follows (gcons bits_TakeText_good gnil) tabok Tryz.func171 (by kernel_rfl) (by kernel_rfl) (fun x r h => ?_)
  obtain ⟨r_0, what_1, _u⟩ := x
  exact (msg_reader_text_eq r_0 what_1).trans h
noncomputable def msg_reader_msg_Γ : Ctx := [(170, msg_reader_num_e), (171, msg_reader_text_e)]
def msg_reader_msg_fi : Fi := { keep := [], vty := [], vals := [], live := [(0, [0, 2, 34, 35, 36, 37, 38]), (1, [0, 2, 34, 35, 36, 37, 38]), (2, [0, 2, 34, 35, 36, 37, 38]), (3, [0, 2, 3, 34, 35, 36, 37, 38]), (4, [0, 2, 3, 25, 34, 35, 36, 37, 38]), (5, [0, 2, 3, 34, 35, 36, 37, 38]), (6, [0, 2, 3, 34, 35, 36, 37, 38, 39]), (7, [0, 2, 3, 34, 35, 36, 37, 38]), (8, [0, 2, 3, 34, 35, 36, 37, 38]), (9, [0, 2]), (10, [0, 2]), (11, [0, 2])] }
noncomputable def msg_reader_msg_B1 (L1 : Int → List Int → IV → Int → Int → Int → Int → Int → Int → Int → Int → ByteArray → List Int → Option (((Int × Int × Int × Int × Int × Int × (List Int) × Int × Int × ByteArray) × Unit) × (((List Int) × IV) × Unit))) (v8 : Int) (v9 : List Int) (v10 : IV) (v11 : Int) (v12 : Int) (v13 : Int) (v14 : Int) (v15 : Int) (v16 : Int) (v17 : Int) (v18 : Int) (v19 : ByteArray) (v20 : List Int) : Option (((Int × Int × Int × Int × Int × Int × (List Int) × Int × Int × ByteArray) × Unit) × (((List Int) × IV) × Unit)) :=
 bif decide (v8 > 0) then
  bif IV.isNil v10 then
   Option.bind (msg_reader_num (v9, v10) (⟨#[115, 116, 101, 112]⟩ : ByteArray)) fun (r21 : (Int × Unit) × (((List Int) × IV) × Unit)) =>
   bif Nat.ble (v20.length + 1) 1073741824 then
    L1 (IntKind.wrap .i64 (v8 - 1)) r21.2.1.1 r21.2.1.2 v11 v12 v13 v14 v15 v16 v17 v18 v19 (v20 ++ [r21.1.1])
   else none
  else
   Option.bind (msg_reader_num (v9, v10) (⟨#[108, 111]⟩ : ByteArray)) fun (r22 : (Int × Unit) × (((List Int) × IV) × Unit)) =>
   Option.bind (msg_reader_num r22.2.1 (⟨#[104, 105]⟩ : ByteArray)) fun (r23 : (Int × Unit) × (((List Int) × IV) × Unit)) =>
   Option.bind (msg_reader_text r23.2.1 (⟨#[116, 101, 120, 116]⟩ : ByteArray)) fun (r24 : (ByteArray × Unit) × (((List Int) × IV) × Unit)) =>
   some (((v11, v12, v13, v14, v15, v16, v20, r22.1.1, r23.1.1, r24.1.1), ()), (r24.2.1, ()))
 else
  Option.bind (msg_reader_num (v9, v10) (⟨#[108, 111]⟩ : ByteArray)) fun (r25 : (Int × Unit) × (((List Int) × IV) × Unit)) =>
  Option.bind (msg_reader_num r25.2.1 (⟨#[104, 105]⟩ : ByteArray)) fun (r26 : (Int × Unit) × (((List Int) × IV) × Unit)) =>
  Option.bind (msg_reader_text r26.2.1 (⟨#[116, 101, 120, 116]⟩ : ByteArray)) fun (r27 : (ByteArray × Unit) × (((List Int) × IV) × Unit)) =>
  some (((v11, v12, v13, v14, v15, v16, v20, r25.1.1, r26.1.1, r27.1.1), ()), (r27.2.1, ()))
noncomputable def msg_reader_msg_B2 (L3 : Int → List Int → IV → Int → Int → Int → Int → Int → Int → Int → Int → ByteArray → List Int → Option (((Int × Int × Int × Int × Int × Int × (List Int) × Int × Int × ByteArray) × Unit) × (((List Int) × IV) × Unit))) (v28 : Int) (v29 : Bool) (v30 : List Int) (v31 : IV) (v32 : Int) (v33 : Int) (v34 : Int) (v35 : Int) (v36 : Int) (v37 : Int) (v38 : Int) (v39 : Int) (v40 : ByteArray) (v41 : List Int) : Option (((Int × Int × Int × Int × Int × Int × (List Int) × Int × Int × ByteArray) × Unit) × (((List Int) × IV) × Unit)) :=
 bif decide (v28 > 0) then
  bif IV.isNil v31 then
   Option.bind (msg_reader_num (v30, v31) (⟨#[115, 116, 101, 112]⟩ : ByteArray)) fun (r42 : (Int × Unit) × (((List Int) × IV) × Unit)) =>
   bif Nat.ble (v41.length + 1) 1073741824 then
    L3 (IntKind.wrap .i64 (v28 - 1)) r42.2.1.1 r42.2.1.2 v32 v33 v34 v35 v36 v37 v38 v39 v40 (v41 ++ [r42.1.1])
   else none
  else
   Option.bind (msg_reader_num (v30, v31) (⟨#[108, 111]⟩ : ByteArray)) fun (r63 : (Int × Unit) × (((List Int) × IV) × Unit)) =>
   Option.bind (msg_reader_num r63.2.1 (⟨#[104, 105]⟩ : ByteArray)) fun (r64 : (Int × Unit) × (((List Int) × IV) × Unit)) =>
   Option.bind (msg_reader_text r64.2.1 (⟨#[116, 101, 120, 116]⟩ : ByteArray)) fun (r65 : (ByteArray × Unit) × (((List Int) × IV) × Unit)) =>
   some (((v32, v33, v34, v35, v36, v37, v41, r63.1.1, r64.1.1, r65.1.1), ()), (r65.2.1, ()))
 else
  Option.bind (msg_reader_num (v30, v31) (⟨#[108, 111]⟩ : ByteArray)) fun (r66 : (Int × Unit) × (((List Int) × IV) × Unit)) =>
  Option.bind (msg_reader_num r66.2.1 (⟨#[104, 105]⟩ : ByteArray)) fun (r67 : (Int × Unit) × (((List Int) × IV) × Unit)) =>
  Option.bind (msg_reader_text r67.2.1 (⟨#[116, 101, 120, 116]⟩ : ByteArray)) fun (r68 : (ByteArray × Unit) × (((List Int) × IV) × Unit)) =>
  some (((v32, v33, v34, v35, v36, v37, v41, r66.1.1, r67.1.1, r68.1.1), ()), (r68.2.1, ()))
noncomputable def msg_reader_msg_B3 (L3 : Int → List Int → IV → Int → Int → Int → Int → Int → Int → Int → Int → ByteArray → List Int → Option (((Int × Int × Int × Int × Int × Int × (List Int) × Int × Int × ByteArray) × Unit) × (((List Int) × IV) × Unit))) (v43 : Int) (v44 : List Int) (v45 : IV) (v46 : Int) (v47 : Int) (v48 : Int) (v49 : Int) (v50 : Int) (v51 : Int) (v52 : Int) (v53 : Int) (v54 : ByteArray) (v55 : List Int) : Option (((Int × Int × Int × Int × Int × Int × (List Int) × Int × Int × ByteArray) × Unit) × (((List Int) × IV) × Unit)) :=
 bif decide (v43 > 0) then
  bif IV.isNil v45 then
   Option.bind (msg_reader_num (v44, v45) (⟨#[115, 116, 101, 112]⟩ : ByteArray)) fun (r56 : (Int × Unit) × (((List Int) × IV) × Unit)) =>
   bif Nat.ble (v55.length + 1) 1073741824 then
    L3 (IntKind.wrap .i64 (v43 - 1)) r56.2.1.1 r56.2.1.2 v46 v47 v48 v49 v50 v51 v52 v53 v54 (v55 ++ [r56.1.1])
   else none
  else
   Option.bind (msg_reader_num (v44, v45) (⟨#[108, 111]⟩ : ByteArray)) fun (r57 : (Int × Unit) × (((List Int) × IV) × Unit)) =>
   Option.bind (msg_reader_num r57.2.1 (⟨#[104, 105]⟩ : ByteArray)) fun (r58 : (Int × Unit) × (((List Int) × IV) × Unit)) =>
   Option.bind (msg_reader_text r58.2.1 (⟨#[116, 101, 120, 116]⟩ : ByteArray)) fun (r59 : (ByteArray × Unit) × (((List Int) × IV) × Unit)) =>
   some (((v46, v47, v48, v49, v50, v51, v55, r57.1.1, r58.1.1, r59.1.1), ()), (r59.2.1, ()))
 else
  Option.bind (msg_reader_num (v44, v45) (⟨#[108, 111]⟩ : ByteArray)) fun (r60 : (Int × Unit) × (((List Int) × IV) × Unit)) =>
  Option.bind (msg_reader_num r60.2.1 (⟨#[104, 105]⟩ : ByteArray)) fun (r61 : (Int × Unit) × (((List Int) × IV) × Unit)) =>
  Option.bind (msg_reader_text r61.2.1 (⟨#[116, 101, 120, 116]⟩ : ByteArray)) fun (r62 : (ByteArray × Unit) × (((List Int) × IV) × Unit)) =>
  some (((v46, v47, v48, v49, v50, v51, v55, r60.1.1, r61.1.1, r62.1.1), ()), (r62.2.1, ()))
noncomputable def msg_reader_msg_T (L1 : Int → List Int → IV → Int → Int → Int → Int → Int → Int → Int → Int → ByteArray → List Int → Option (((Int × Int × Int × Int × Int × Int × (List Int) × Int × Int × ByteArray) × Unit) × (((List Int) × IV) × Unit))) (L2 : Int → Bool → List Int → IV → Int → Int → Int → Int → Int → Int → Int → Int → ByteArray → List Int → Option (((Int × Int × Int × Int × Int × Int × (List Int) × Int × Int × ByteArray) × Unit) × (((List Int) × IV) × Unit))) (r_0 : (List Int) × IV) : Option (((Int × Int × Int × Int × Int × Int × (List Int) × Int × Int × ByteArray) × Unit) × (((List Int) × IV) × Unit)) :=
 Option.bind (msg_reader_num r_0 (⟨#[107, 105, 110, 100]⟩ : ByteArray)) fun (r1 : (Int × Unit) × (((List Int) × IV) × Unit)) =>
 Option.bind (msg_reader_num r1.2.1 (⟨#[102, 114, 111, 109]⟩ : ByteArray)) fun (r2 : (Int × Unit) × (((List Int) × IV) × Unit)) =>
 Option.bind (msg_reader_num r2.2.1 (⟨#[116, 111]⟩ : ByteArray)) fun (r3 : (Int × Unit) × (((List Int) × IV) × Unit)) =>
 Option.bind (msg_reader_num r3.2.1 (⟨#[105, 110, 99]⟩ : ByteArray)) fun (r4 : (Int × Unit) × (((List Int) × IV) × Unit)) =>
 Option.bind (msg_reader_num r4.2.1 (⟨#[101, 112, 111, 99, 104]⟩ : ByteArray)) fun (r5 : (Int × Unit) × (((List Int) × IV) × Unit)) =>
 Option.bind (msg_reader_num r5.2.1 (⟨#[97, 103, 101]⟩ : ByteArray)) fun (r6 : (Int × Unit) × (((List Int) × IV) × Unit)) =>
 Option.bind (msg_reader_num r6.2.1 (⟨#[119, 97, 121]⟩ : ByteArray)) fun (r7 : (Int × Unit) × (((List Int) × IV) × Unit)) =>
 bif decide (r7.1.1 > 64) then
  L1 r7.1.1 r7.2.1.1 (IV.mk 164 [.str (⟨#[119, 97, 121]⟩ : ByteArray)]) r1.1.1 r2.1.1 r3.1.1 r4.1.1 r5.1.1 r6.1.1 0 0 (⟨#[]⟩ : ByteArray) []
 else
  L2 r7.1.1 (decide (r7.1.1 > 64)) r7.2.1.1 r7.2.1.2 r1.1.1 r2.1.1 r3.1.1 r4.1.1 r5.1.1 r6.1.1 0 0 (⟨#[]⟩ : ByteArray) []
noncomputable def msg_reader_msg_L1 (n : Nat) : Nat → Int → List Int → IV → Int → Int → Int → Int → Int → Int → Int → Int → ByteArray → List Int → Option (((Int × Int × Int × Int × Int × Int × (List Int) × Int × Int × ByteArray) × Unit) × (((List Int) × IV) × Unit)) := iter (fun _ _ _ _ _ _ _ _ _ _ _ _ _ => none) fun L => msg_reader_msg_B1 L
noncomputable def msg_reader_msg_L3 (n : Nat) : Nat → Int → List Int → IV → Int → Int → Int → Int → Int → Int → Int → Int → ByteArray → List Int → Option (((Int × Int × Int × Int × Int × Int × (List Int) × Int × Int × ByteArray) × Unit) × (((List Int) × IV) × Unit)) := iter (fun _ _ _ _ _ _ _ _ _ _ _ _ _ => none) fun L => msg_reader_msg_B3 L
noncomputable def msg_reader_msg_L2 (n : Nat) : Nat → Int → Bool → List Int → IV → Int → Int → Int → Int → Int → Int → Int → Int → ByteArray → List Int → Option (((Int × Int × Int × Int × Int × Int × (List Int) × Int × Int × ByteArray) × Unit) × (((List Int) × IV) × Unit)) := iterN (fun _ _ _ _ _ _ _ _ _ _ _ _ _ _ => none) fun m L => msg_reader_msg_B2 (msg_reader_msg_L3 n m)
noncomputable def msg_reader_msg_X1 (n m : Nat) (v8 : Int) (v9 : List Int) (v10 : IV) (v11 : Int) (v12 : Int) (v13 : Int) (v14 : Int) (v15 : Int) (v16 : Int) (v17 : Int) (v18 : Int) (v19 : ByteArray) (v20 : List Int) : Option (((Int × Int × Int × Int × Int × Int × (List Int) × Int × Int × ByteArray) × Unit) × (((List Int) × IV) × Unit)) :=
 atLoop msg_reader_msg_Γ tab (fiB [.box 161 t160 [false, false]] msg_reader_msg_fi) n [.box 161 t160 [false, false]] [⟨t40, [false, false, false, false, false, false, true, false, false, false], none⟩] Tryz.f85 [1, 1, 1, 1, 1, 0, 0] [] [0, 2, 3] m
 ⟨[(0, SV.cv (CV.one (LV.ptr (0, 0) 0))), (2, SV.cv (CV.one (LV.ptr (2, 0) 0))), (3, SV.cv (CV.one (LV.pure t2 v8)))],
  [((0, 0), Ob.box 161 [LV.pure t43 v9, LV.pure t20 v10]), ((2, 0), Ob.box 41 [LV.pure t2 v11, LV.pure t2 v12, LV.pure t2 v13, LV.pure t2 v14, LV.pure t2 v15, LV.pure t2 v16, LV.ref (2, 7), LV.pure t2 v17, LV.pure t2 v18, LV.pure t9 v19]), ((2, 7), Ob.row 3 t2 v20)]⟩
noncomputable def msg_reader_msg_X2 (n m : Nat) (v28 : Int) (v29 : Bool) (v30 : List Int) (v31 : IV) (v32 : Int) (v33 : Int) (v34 : Int) (v35 : Int) (v36 : Int) (v37 : Int) (v38 : Int) (v39 : Int) (v40 : ByteArray) (v41 : List Int) : Option (((Int × Int × Int × Int × Int × Int × (List Int) × Int × Int × ByteArray) × Unit) × (((List Int) × IV) × Unit)) :=
 atLoop msg_reader_msg_Γ tab (fiB [.box 161 t160 [false, false]] msg_reader_msg_fi) n [.box 161 t160 [false, false]] [⟨t40, [false, false, false, false, false, false, true, false, false, false], none⟩] Tryz.f85 [1, 1, 1, 1, 1, 0, 0] [] [0, 2, 3, 25] m
 ⟨[(0, SV.cv (CV.one (LV.ptr (0, 0) 0))), (2, SV.cv (CV.one (LV.ptr (2, 0) 0))), (3, SV.cv (CV.one (LV.pure t2 v28))), (25, SV.cv (CV.one (LV.pure t4 v29)))],
  [((0, 0), Ob.box 161 [LV.pure t43 v30, LV.pure t20 v31]), ((2, 0), Ob.box 41 [LV.pure t2 v32, LV.pure t2 v33, LV.pure t2 v34, LV.pure t2 v35, LV.pure t2 v36, LV.pure t2 v37, LV.ref (2, 7), LV.pure t2 v38, LV.pure t2 v39, LV.pure t9 v40]), ((2, 7), Ob.row 3 t2 v41)]⟩
noncomputable def msg_reader_msg_X3 (n m : Nat) (v43 : Int) (v44 : List Int) (v45 : IV) (v46 : Int) (v47 : Int) (v48 : Int) (v49 : Int) (v50 : Int) (v51 : Int) (v52 : Int) (v53 : Int) (v54 : ByteArray) (v55 : List Int) : Option (((Int × Int × Int × Int × Int × Int × (List Int) × Int × Int × ByteArray) × Unit) × (((List Int) × IV) × Unit)) :=
 atLoop msg_reader_msg_Γ tab (fiB [.box 161 t160 [false, false]] msg_reader_msg_fi) n [.box 161 t160 [false, false]] [⟨t40, [false, false, false, false, false, false, true, false, false, false], none⟩] Tryz.f85 [1, 1, 1, 1, 1, 0, 0] [] [0, 2, 3, 25] m
 ⟨[(0, SV.cv (CV.one (LV.ptr (0, 0) 0))), (2, SV.cv (CV.one (LV.ptr (2, 0) 0))), (3, SV.cv (CV.one (LV.pure t2 v43)))],
  [((0, 0), Ob.box 161 [LV.pure t43 v44, LV.pure t20 v45]), ((2, 0), Ob.box 41 [LV.pure t2 v46, LV.pure t2 v47, LV.pure t2 v48, LV.pure t2 v49, LV.pure t2 v50, LV.pure t2 v51, LV.ref (2, 7), LV.pure t2 v52, LV.pure t2 v53, LV.pure t9 v54]), ((2, 7), Ob.row 3 t2 v55)]⟩
theorem msg_reader_msg_step1 (n m : Nat) (v8 : Int) (v9 : List Int) (v10 : IV) (v11 : Int) (v12 : Int) (v13 : Int) (v14 : Int) (v15 : Int) (v16 : Int) (v17 : Int) (v18 : Int) (v19 : ByteArray) (v20 : List Int) : msg_reader_msg_X1 n (m + 1) v8 v9 v10 v11 v12 v13 v14 v15 v16 v17 v18 v19 v20 = msg_reader_msg_B1 (msg_reader_msg_X1 n m) v8 v9 v10 v11 v12 v13 v14 v15 v16 v17 v18 v19 v20 := by kernel_rfl
theorem msg_reader_msg_step2 (n m : Nat) (v28 : Int) (v29 : Bool) (v30 : List Int) (v31 : IV) (v32 : Int) (v33 : Int) (v34 : Int) (v35 : Int) (v36 : Int) (v37 : Int) (v38 : Int) (v39 : Int) (v40 : ByteArray) (v41 : List Int) : msg_reader_msg_X2 n (m + 1) v28 v29 v30 v31 v32 v33 v34 v35 v36 v37 v38 v39 v40 v41 = msg_reader_msg_B2 (msg_reader_msg_X3 n m) v28 v29 v30 v31 v32 v33 v34 v35 v36 v37 v38 v39 v40 v41 := by kernel_rfl
theorem msg_reader_msg_step3 (n m : Nat) (v43 : Int) (v44 : List Int) (v45 : IV) (v46 : Int) (v47 : Int) (v48 : Int) (v49 : Int) (v50 : Int) (v51 : Int) (v52 : Int) (v53 : Int) (v54 : ByteArray) (v55 : List Int) : msg_reader_msg_X3 n (m + 1) v43 v44 v45 v46 v47 v48 v49 v50 v51 v52 v53 v54 v55 = msg_reader_msg_B3 (msg_reader_msg_X3 n m) v43 v44 v45 v46 v47 v48 v49 v50 v51 v52 v53 v54 v55 := by kernel_rfl
theorem msg_reader_msg_start (n : Nat) (r_0 : (List Int) × IV) : evFn msg_reader_msg_Γ tab msg_reader_msg_fi n [.box 161 t160 [false, false]] [⟨t40, [false, false, false, false, false, false, true, false, false, false], none⟩] Tryz.f85 (r_0, ()) = msg_reader_msg_T (msg_reader_msg_X1 n n) (msg_reader_msg_X2 n n) r_0 := by kernel_rfl
theorem msg_reader_msg_XL1 (n : Nat) : ∀ m, msg_reader_msg_X1 n m = msg_reader_msg_L1 n m
 | 0 => rfl
 | m + 1 => by
  have ih := msg_reader_msg_XL1 n m
  funext v8 v9 v10 v11 v12 v13 v14 v15 v16 v17 v18 v19 v20
  rw [msg_reader_msg_step1, ih]
  rfl
theorem msg_reader_msg_XL3 (n : Nat) : ∀ m, msg_reader_msg_X3 n m = msg_reader_msg_L3 n m
 | 0 => rfl
 | m + 1 => by
  have ih := msg_reader_msg_XL3 n m
  funext v43 v44 v45 v46 v47 v48 v49 v50 v51 v52 v53 v54 v55
  rw [msg_reader_msg_step3, ih]
  rfl
theorem msg_reader_msg_XL2 (n : Nat) : ∀ m, msg_reader_msg_X2 n m = msg_reader_msg_L2 n m
 | 0 => rfl
 | m + 1 => by
  have ih := msg_reader_msg_XL2 n m
  funext v28 v29 v30 v31 v32 v33 v34 v35 v36 v37 v38 v39 v40 v41
  rw [msg_reader_msg_step2, msg_reader_msg_XL3 n m]
  rfl
noncomputable def msg_reader_msg_n (n : Nat) (r_0 : (List Int) × IV) : Option (((Int × Int × Int × Int × Int × Int × (List Int) × Int × Int × ByteArray) × Unit) × (((List Int) × IV) × Unit)) := msg_reader_msg_T (msg_reader_msg_L1 n n) (msg_reader_msg_L2 n n) r_0
noncomputable def msg_reader_msg (r_0 : (List Int) × IV) : Option (((Int × Int × Int × Int × Int × Int × (List Int) × Int × Int × ByteArray) × Unit) × (((List Int) × IV) × Unit)) := msg_reader_msg_n 1099511627776 r_0
theorem msg_reader_msg_eq (n : Nat) (r_0 : (List Int) × IV) : evFn msg_reader_msg_Γ tab msg_reader_msg_fi n [.box 161 t160 [false, false]] [⟨t40, [false, false, false, false, false, false, true, false, false, false], none⟩] Tryz.f85 (r_0, ()) = msg_reader_msg_n n r_0 := by
  rw [msg_reader_msg_start, msg_reader_msg_XL1 n n, msg_reader_msg_XL2 n n]
  rfl
noncomputable def msg_reader_msg_e : Ent := ⟨[.box 161 t160 [false, false]], [⟨t40, [false, false, false, false, false, false, true, false, false, false], none⟩], fun x => msg_reader_msg x.1⟩
theorem msg_reader_msg_good : Good tab.ty Tryz.prog 85 msg_reader_msg_e := by
  refine fn_good (Γ := msg_reader_msg_Γ) (fi := msg_reader_msg_fi) (n := 1099511627776) follows (gcons msg_reader_num_good (gcons msg_reader_text_good gnil)) tabok Tryz.func85 (by kernel_rfl) (by kernel_rfl) (fun x r h => ?_)
  obtain ⟨r_0, _u⟩ := x
  exact (msg_reader_msg_eq 1099511627776 r_0).trans h
noncomputable def slices_IndexFunc_int_Γ : Ctx := []
def slices_IndexFunc_int_fi : Fi := { keep := [], vty := [], vals := [], live := [(0, [0, 1]), (1, [0, 1, 7, 8]), (2, [0, 1, 7, 8, 9]), (3, [0, 1, 5, 7, 8]), (4, [0, 1, 5, 7, 8, 16]), (5, [4]), (6, [0, 1, 7, 8]), (7, [4])] }
noncomputable def slices_IndexFunc_int_B1 (L1 : List Int → (Int × Unit → Option (Bool × Unit)) → Int → Int → Option ((Int × Unit) × Unit)) (v1 : List Int) (v2 : (Int × Unit → Option (Bool × Unit))) (v3 : Int) (v4 : Int) : Option ((Int × Unit) × Unit) :=
 bif decide (v4 < v3) then
  bif decide (0 ≤ v4) && decide (v4 < (v1.length : Int)) then
   Option.bind (v2 (List.getD v1 v4.toNat 0, ())) fun (r5 : Bool × Unit) =>
   bif r5.1 then
    some ((v4, ()), ())
   else
    L1 v1 v2 v3 (IntKind.wrap .i64 (v4 + 1))
  else none
 else
  some (((-1), ()), ())
noncomputable def slices_IndexFunc_int_T (L1 : List Int → (Int × Unit → Option (Bool × Unit)) → Int → Int → Option ((Int × Unit) × Unit)) (s_0 : List Int) (f_1 : (Int × Unit → Option (Bool × Unit))) : Option ((Int × Unit) × Unit) :=
 L1 s_0 f_1 (s_0.length : Int) 0
noncomputable def slices_IndexFunc_int_L1 (n : Nat) : Nat → List Int → (Int × Unit → Option (Bool × Unit)) → Int → Int → Option ((Int × Unit) × Unit) := iter (fun _ _ _ _ => none) fun L => slices_IndexFunc_int_B1 L
noncomputable def slices_IndexFunc_int_X1 (n m : Nat) (v1 : List Int) (v2 : (Int × Unit → Option (Bool × Unit))) (v3 : Int) (v4 : Int) : Option ((Int × Unit) × Unit) :=
 atLoop slices_IndexFunc_int_Γ tab (fiB [.val t23, .fn [t2] [t4]] slices_IndexFunc_int_fi) n [.val t23, .fn [t2] [t4]] [⟨t2, [false], none⟩] Tryz.f340 [1, 0, 1, 0] [] [0, 1, 7, 8] m
 ⟨[(0, SV.cv (CV.one (LV.pure t23 v1))), (1, SV.cv (CV.one (LV.clo [t2] [t4] v2))), (7, SV.cv (CV.one (LV.pure t2 v3))), (8, SV.cv (CV.one (LV.pure t2 v4)))],
  []⟩
theorem slices_IndexFunc_int_step1 (n m : Nat) (v1 : List Int) (v2 : (Int × Unit → Option (Bool × Unit))) (v3 : Int) (v4 : Int) : slices_IndexFunc_int_X1 n (m + 1) v1 v2 v3 v4 = slices_IndexFunc_int_B1 (slices_IndexFunc_int_X1 n m) v1 v2 v3 v4 := by kernel_rfl
theorem slices_IndexFunc_int_start (n : Nat) (s_0 : List Int) (f_1 : (Int × Unit → Option (Bool × Unit))) : evFn slices_IndexFunc_int_Γ tab slices_IndexFunc_int_fi n [.val t23, .fn [t2] [t4]] [⟨t2, [false], none⟩] Tryz.f340 (s_0, f_1, ()) = slices_IndexFunc_int_T (slices_IndexFunc_int_X1 n n) s_0 f_1 := by kernel_rfl
theorem slices_IndexFunc_int_XL1 (n : Nat) : ∀ m, slices_IndexFunc_int_X1 n m = slices_IndexFunc_int_L1 n m
 | 0 => rfl
 | m + 1 => by
  have ih := slices_IndexFunc_int_XL1 n m
  funext v1 v2 v3 v4
  rw [slices_IndexFunc_int_step1, ih]
  rfl
noncomputable def slices_IndexFunc_int_n (n : Nat) (s_0 : List Int) (f_1 : (Int × Unit → Option (Bool × Unit))) : Option ((Int × Unit) × Unit) := slices_IndexFunc_int_T (slices_IndexFunc_int_L1 n n) s_0 f_1
noncomputable def slices_IndexFunc_int (s_0 : List Int) (f_1 : (Int × Unit → Option (Bool × Unit))) : Option ((Int × Unit) × Unit) := slices_IndexFunc_int_n 1099511627776 s_0 f_1
theorem slices_IndexFunc_int_eq (n : Nat) (s_0 : List Int) (f_1 : (Int × Unit → Option (Bool × Unit))) : evFn slices_IndexFunc_int_Γ tab slices_IndexFunc_int_fi n [.val t23, .fn [t2] [t4]] [⟨t2, [false], none⟩] Tryz.f340 (s_0, f_1, ()) = slices_IndexFunc_int_n n s_0 f_1 := by
  rw [slices_IndexFunc_int_start, slices_IndexFunc_int_XL1 n n]
  rfl
noncomputable def slices_IndexFunc_int_e : Ent := ⟨[.val t23, .fn [t2] [t4]], [⟨t2, [false], none⟩], fun x => slices_IndexFunc_int x.1 x.2.1⟩
theorem slices_IndexFunc_int_good : Good tab.ty Tryz.prog 340 slices_IndexFunc_int_e := by
  refine fn_good (Γ := slices_IndexFunc_int_Γ) (fi := slices_IndexFunc_int_fi) (n := 1099511627776) follows gnil tabok Tryz.func340 (by kernel_rfl) (by kernel_rfl) (fun x r h => ?_)
  obtain ⟨s_0, f_1, _u⟩ := x
  exact (slices_IndexFunc_int_eq 1099511627776 s_0 f_1).trans h
noncomputable def slices_ContainsFunc_int_Γ : Ctx := [(340, slices_IndexFunc_int_e)]
def slices_ContainsFunc_int_fi : Fi := { keep := [], vty := [], vals := [], live := [(0, [0, 1]), (1, [4])] }
noncomputable def slices_ContainsFunc_int (s_0 : List Int) (f_1 : (Int × Unit → Option (Bool × Unit))) : Option ((Bool × Unit) × Unit) :=
 Option.bind (slices_IndexFunc_int s_0 f_1) fun (r1 : (Int × Unit) × Unit) =>
 some ((decide (r1.1.1 ≥ 0), ()), ())
theorem slices_ContainsFunc_int_eq (s_0 : List Int) (f_1 : (Int × Unit → Option (Bool × Unit))) : evFn slices_ContainsFunc_int_Γ tab slices_ContainsFunc_int_fi 1 [.val t23, .fn [t2] [t4]] [⟨t4, [false], none⟩] Tryz.f301 (s_0, f_1, ()) = slices_ContainsFunc_int s_0 f_1 := by kernel_rfl
noncomputable def slices_ContainsFunc_int_e : Ent := ⟨[.val t23, .fn [t2] [t4]], [⟨t4, [false], none⟩], fun x => slices_ContainsFunc_int x.1 x.2.1⟩
theorem slices_ContainsFunc_int_good : Good tab.ty Tryz.prog 301 slices_ContainsFunc_int_e := by
  refine fn_good (Γ := slices_ContainsFunc_int_Γ) (fi := slices_ContainsFunc_int_fi) (n := 1) follows (gcons slices_IndexFunc_int_good gnil) tabok Tryz.func301 (by kernel_rfl) (by kernel_rfl) (fun x r h => ?_)
  obtain ⟨s_0, f_1, _u⟩ := x
  exact (slices_ContainsFunc_int_eq s_0 f_1).trans h
noncomputable def msg_from_fn1_Γ : Ctx := []
def msg_from_fn1_fi : Fi := { keep := [], vty := [], vals := [], live := [(0, [0, 1, 2, 9, 10, 11]), (1, [4])] }
noncomputable def msg_from_fn1 (v_0 : Int) (x_1 : Int) (x_2 : Int) : Option ((Bool × Unit) × Unit) :=
 bif decide (v_0 < x_1) then
  some ((true, ()), ())
 else
  some ((decide (v_0 > x_2), ()), ())
theorem msg_from_fn1_eq (v_0 : Int) (x_1 : Int) (x_2 : Int) : evFn msg_from_fn1_Γ tab msg_from_fn1_fi 1 [.val t2, .rbox t2, .rbox t2] [⟨t4, [false], none⟩] Tryz.f302 (v_0, x_1, x_2, ()) = msg_from_fn1 v_0 x_1 x_2 := by kernel_rfl
noncomputable def msg_from_fn1_e : Ent := ⟨[.val t2, .rbox t2, .rbox t2], [⟨t4, [false], none⟩], fun x => msg_from_fn1 x.1 x.2.1 x.2.2.1⟩
theorem msg_from_fn1_good : Good tab.ty Tryz.prog 302 msg_from_fn1_e := by
  refine fn_good (Γ := msg_from_fn1_Γ) (fi := msg_from_fn1_fi) (n := 1) follows gnil tabok Tryz.func302 (by kernel_rfl) (by kernel_rfl) (fun x r h => ?_)
  obtain ⟨v_0, x_1, x_2, _u⟩ := x
  exact (msg_from_fn1_eq v_0 x_1 x_2).trans h
noncomputable def msg_from_Γ : Ctx := [(301, slices_ContainsFunc_int_e), (302, msg_from_fn1_e)]
def msg_from_fi : Fi := { keep := [], vty := [], vals := [], live := [(0, [2, 3, 4]), (1, [6])] }
noncomputable def msg_from (lo_0 : Int) (hi_1 : Int) (l_2 : List Int) : Option ((Bool × Unit) × Unit) :=
 Option.bind (slices_ContainsFunc_int l_2 (fun x => (msg_from_fn1 x.1 lo_0 hi_1).bind fun r => some (r.1.1, ()))) fun (r1 : (Bool × Unit) × Unit) =>
 some ((!r1.1.1, ()), ())
theorem msg_from_eq (lo_0 : Int) (hi_1 : Int) (l_2 : List Int) : evFn msg_from_Γ tab msg_from_fi 1 [.val t2, .val t2, .val t23] [⟨t4, [false], none⟩] Tryz.f243 (lo_0, hi_1, l_2, ()) = msg_from lo_0 hi_1 l_2 := by kernel_rfl
noncomputable def msg_from_e : Ent := ⟨[.val t2, .val t2, .val t23], [⟨t4, [false], none⟩], fun x => msg_from x.1 x.2.1 x.2.2.1⟩
theorem msg_from_good : Good tab.ty Tryz.prog 243 msg_from_e := by
  refine fn_good (Γ := msg_from_Γ) (fi := msg_from_fi) (n := 1) follows (gcons slices_ContainsFunc_int_good (gcons msg_from_fn1_good gnil)) tabok Tryz.func243 (by kernel_rfl) (by kernel_rfl) (fun x r h => ?_)
  obtain ⟨lo_0, hi_1, l_2, _u⟩ := x
  exact (msg_from_eq lo_0 hi_1 l_2).trans h
noncomputable def msg_bare_Γ : Ctx := []
def msg_bare_fi : Fi := { keep := [], vty := [], vals := [], live := [(0, [1, 2]), (1, [2])] }
noncomputable def msg_bare (m_0 : Int × Int × Int × Int × Int × Int × (List Int) × Int × Int × ByteArray) : Option (((Int × Int × Int × Int × Int × Int × (List Int) × Int × Int × ByteArray) × Unit) × Unit) :=
 some (((m_0.1, m_0.2.1, m_0.2.2.1, m_0.2.2.2.1, 0, 0, [], 0, 0, (⟨#[]⟩ : ByteArray)), ()), ())
theorem msg_bare_eq (m_0 : Int × Int × Int × Int × Int × Int × (List Int) × Int × Int × ByteArray) : evFn msg_bare_Γ tab msg_bare_fi 1 [.val t40] [⟨t40, [false, false, false, false, false, false, true, false, false, false], none⟩] Tryz.f303 (m_0, ()) = msg_bare m_0 := by kernel_rfl
noncomputable def msg_bare_e : Ent := ⟨[.val t40], [⟨t40, [false, false, false, false, false, false, true, false, false, false], none⟩], fun x => msg_bare x.1⟩
theorem msg_bare_good : Good tab.ty Tryz.prog 303 msg_bare_e := by
  refine fn_good (Γ := msg_bare_Γ) (fi := msg_bare_fi) (n := 1) follows gnil tabok Tryz.func303 (by kernel_rfl) (by kernel_rfl) (fun x r h => ?_)
  obtain ⟨m_0, _u⟩ := x
  exact (msg_bare_eq m_0).trans h
noncomputable def slices_Index_int_Γ : Ctx := []
def slices_Index_int_fi : Fi := { keep := [], vty := [], vals := [], live := [(0, [0, 1]), (1, [0, 1, 7, 8]), (2, [0, 1, 7, 8, 9]), (3, [0, 1, 5, 7, 8]), (4, [0, 1, 5, 7, 8, 16]), (5, [4]), (6, [0, 1, 7, 8]), (7, [4])] }
noncomputable def slices_Index_int_B1 (L1 : List Int → Int → Int → Int → Option ((Int × Unit) × Unit)) (v1 : List Int) (v2 : Int) (v3 : Int) (v4 : Int) : Option ((Int × Unit) × Unit) :=
 bif decide (v4 < v3) then
  bif decide (0 ≤ v4) && decide (v4 < (v1.length : Int)) then
   bif v2 == (List.getD v1 v4.toNat 0) then
    some ((v4, ()), ())
   else
    L1 v1 v2 v3 (IntKind.wrap .i64 (v4 + 1))
  else none
 else
  some (((-1), ()), ())
noncomputable def slices_Index_int_T (L1 : List Int → Int → Int → Int → Option ((Int × Unit) × Unit)) (s_0 : List Int) (v_1 : Int) : Option ((Int × Unit) × Unit) :=
 L1 s_0 v_1 (s_0.length : Int) 0
noncomputable def slices_Index_int_L1 (n : Nat) : Nat → List Int → Int → Int → Int → Option ((Int × Unit) × Unit) := iter (fun _ _ _ _ => none) fun L => slices_Index_int_B1 L
noncomputable def slices_Index_int_X1 (n m : Nat) (v1 : List Int) (v2 : Int) (v3 : Int) (v4 : Int) : Option ((Int × Unit) × Unit) :=
 atLoop slices_Index_int_Γ tab (fiB [.val t23, .val t2] slices_Index_int_fi) n [.val t23, .val t2] [⟨t2, [false], none⟩] Tryz.f260 [1, 0, 1, 0] [] [0, 1, 7, 8] m
 ⟨[(0, SV.cv (CV.one (LV.pure t23 v1))), (1, SV.cv (CV.one (LV.pure t2 v2))), (7, SV.cv (CV.one (LV.pure t2 v3))), (8, SV.cv (CV.one (LV.pure t2 v4)))],
  []⟩
theorem slices_Index_int_step1 (n m : Nat) (v1 : List Int) (v2 : Int) (v3 : Int) (v4 : Int) : slices_Index_int_X1 n (m + 1) v1 v2 v3 v4 = slices_Index_int_B1 (slices_Index_int_X1 n m) v1 v2 v3 v4 := by kernel_rfl
theorem slices_Index_int_start (n : Nat) (s_0 : List Int) (v_1 : Int) : evFn slices_Index_int_Γ tab slices_Index_int_fi n [.val t23, .val t2] [⟨t2, [false], none⟩] Tryz.f260 (s_0, v_1, ()) = slices_Index_int_T (slices_Index_int_X1 n n) s_0 v_1 := by kernel_rfl
theorem slices_Index_int_XL1 (n : Nat) : ∀ m, slices_Index_int_X1 n m = slices_Index_int_L1 n m
 | 0 => rfl
 | m + 1 => by
  have ih := slices_Index_int_XL1 n m
  funext v1 v2 v3 v4
  rw [slices_Index_int_step1, ih]
  rfl
noncomputable def slices_Index_int_n (n : Nat) (s_0 : List Int) (v_1 : Int) : Option ((Int × Unit) × Unit) := slices_Index_int_T (slices_Index_int_L1 n n) s_0 v_1
noncomputable def slices_Index_int (s_0 : List Int) (v_1 : Int) : Option ((Int × Unit) × Unit) := slices_Index_int_n 1099511627776 s_0 v_1
theorem slices_Index_int_eq (n : Nat) (s_0 : List Int) (v_1 : Int) : evFn slices_Index_int_Γ tab slices_Index_int_fi n [.val t23, .val t2] [⟨t2, [false], none⟩] Tryz.f260 (s_0, v_1, ()) = slices_Index_int_n n s_0 v_1 := by
  rw [slices_Index_int_start, slices_Index_int_XL1 n n]
  rfl
noncomputable def slices_Index_int_e : Ent := ⟨[.val t23, .val t2], [⟨t2, [false], none⟩], fun x => slices_Index_int x.1 x.2.1⟩
theorem slices_Index_int_good : Good tab.ty Tryz.prog 260 slices_Index_int_e := by
  refine fn_good (Γ := slices_Index_int_Γ) (fi := slices_Index_int_fi) (n := 1099511627776) follows gnil tabok Tryz.func260 (by kernel_rfl) (by kernel_rfl) (fun x r h => ?_)
  obtain ⟨s_0, v_1, _u⟩ := x
  exact (slices_Index_int_eq 1099511627776 s_0 v_1).trans h
noncomputable def slices_Contains_int_Γ : Ctx := [(260, slices_Index_int_e)]
def slices_Contains_int_fi : Fi := { keep := [], vty := [], vals := [], live := [(0, [0, 1]), (1, [4])] }
noncomputable def slices_Contains_int (s_0 : List Int) (v_1 : Int) : Option ((Bool × Unit) × Unit) :=
 Option.bind (slices_Index_int s_0 v_1) fun (r1 : (Int × Unit) × Unit) =>
 some ((decide (r1.1.1 ≥ 0), ()), ())
theorem slices_Contains_int_eq (s_0 : List Int) (v_1 : Int) : evFn slices_Contains_int_Γ tab slices_Contains_int_fi 1 [.val t23, .val t2] [⟨t4, [false], none⟩] Tryz.f194 (s_0, v_1, ()) = slices_Contains_int s_0 v_1 := by kernel_rfl
noncomputable def slices_Contains_int_e : Ent := ⟨[.val t23, .val t2], [⟨t4, [false], none⟩], fun x => slices_Contains_int x.1 x.2.1⟩
theorem slices_Contains_int_good : Good tab.ty Tryz.prog 194 slices_Contains_int_e := by
  refine fn_good (Γ := slices_Contains_int_Γ) (fi := slices_Contains_int_fi) (n := 1) follows (gcons slices_Index_int_good gnil) tabok Tryz.func194 (by kernel_rfl) (by kernel_rfl) (fun x r h => ?_)
  obtain ⟨s_0, v_1, _u⟩ := x
  exact (slices_Contains_int_eq s_0 v_1).trans h
noncomputable def path_walk_Γ : Ctx := [(194, slices_Contains_int_e)]
def path_walk_fi : Fi := { keep := [], vty := [], vals := [], live := [(0, [0, 9, 10, 11, 14, 15, 16, 17, 31, 32, 35, 36, 37, 38, 39]), (1, [0, 18, 31, 32, 35, 36, 37, 38, 39]), (2, [2]), (3, [0, 21, 22, 23, 31, 32, 35, 36, 37, 38, 39]), (4, [0, 21, 22, 23, 24, 31, 32, 35, 36, 37, 38, 39]), (5, [0, 3, 4, 21, 22, 23, 31, 32, 35, 36, 37, 38, 39]), (6, [0, 3, 21, 22, 23, 31, 32, 35, 36, 37, 38, 39, 40]), (7, [2]), (8, [0, 21, 22, 23, 31, 32, 35, 36, 37, 38, 39]), (9, [2])] }
noncomputable def path_walk_B1 (L1 : List Int → List Int → Int → Int → Option ((IV × Unit) × Unit)) (v1 : List Int) (v2 : List Int) (v3 : Int) (v4 : Int) : Option ((IV × Unit) × Unit) :=
 bif decide (v4 < v3) then
  bif decide (0 ≤ v4) && decide (v4 < (v2.length : Int)) then
   bif decide (List.getD v2 v4.toNat 0 < 1) then
    some ((IV.mk 303 [.int .i64 v4], ()), ())
   else
   bif decide (List.getD v2 v4.toNat 0 > 8) then
    some ((IV.mk 303 [.int .i64 v4], ()), ())
   else
   bif decide (0 ≤ v4) && decide (v4 ≤ (v1.length : Int)) then
    Option.bind (slices_Contains_int (List.drop 0 (List.take v4.toNat v1)) (List.getD v2 v4.toNat 0)) fun (r5 : (Bool × Unit) × Unit) =>
    bif r5.1.1 then
     some ((IV.mk 303 [.int .i64 v4], ()), ())
    else
     L1 v1 v2 v3 (IntKind.wrap .i64 (v4 + 1))
   else none
  else none
 else
  some ((IV.nil, ()), ())
noncomputable def path_walk_T (L1 : List Int → List Int → Int → Int → Option ((IV × Unit) × Unit)) (p_0 : List Int) : Option ((IV × Unit) × Unit) :=
 bif decide ((p_0.length : Int) < 1) then
  some ((IV.mk 303 [.int .i64 0], ()), ())
 else
 bif decide ((p_0.length : Int) > 10) then
  some ((IV.mk 303 [.int .i64 0], ()), ())
 else
 bif decide (0 < (p_0.length : Int)) then
  bif (List.getD p_0 0 0) != 1 then
   some ((IV.mk 303 [.int .i64 0], ()), ())
  else
   L1 p_0 p_0 (p_0.length : Int) 0
 else none
noncomputable def path_walk_L1 (n : Nat) : Nat → List Int → List Int → Int → Int → Option ((IV × Unit) × Unit) := iter (fun _ _ _ _ => none) fun L => path_walk_B1 L
noncomputable def path_walk_X1 (n m : Nat) (v1 : List Int) (v2 : List Int) (v3 : Int) (v4 : Int) : Option ((IV × Unit) × Unit) :=
 atLoop path_walk_Γ tab (fiB [.val t23] path_walk_fi) n [.val t23] [⟨t20, [false], none⟩] Tryz.f298 [1, 1, 0, 1, 0] [] [0, 21, 22, 23] m
 ⟨[(0, SV.cv (CV.one (LV.pure t23 v1))), (21, SV.cv (CV.one (LV.pure t23 v2))), (22, SV.cv (CV.one (LV.pure t2 v3))), (23, SV.cv (CV.one (LV.pure t2 v4)))],
  []⟩
theorem path_walk_step1 (n m : Nat) (v1 : List Int) (v2 : List Int) (v3 : Int) (v4 : Int) : path_walk_X1 n (m + 1) v1 v2 v3 v4 = path_walk_B1 (path_walk_X1 n m) v1 v2 v3 v4 := by kernel_rfl
theorem path_walk_start (n : Nat) (p_0 : List Int) : evFn path_walk_Γ tab path_walk_fi n [.val t23] [⟨t20, [false], none⟩] Tryz.f298 (p_0, ()) = path_walk_T (path_walk_X1 n n) p_0 := by kernel_rfl
theorem path_walk_XL1 (n : Nat) : ∀ m, path_walk_X1 n m = path_walk_L1 n m
 | 0 => rfl
 | m + 1 => by
  have ih := path_walk_XL1 n m
  funext v1 v2 v3 v4
  rw [path_walk_step1, ih]
  rfl
noncomputable def path_walk_n (n : Nat) (p_0 : List Int) : Option ((IV × Unit) × Unit) := path_walk_T (path_walk_L1 n n) p_0
noncomputable def path_walk (p_0 : List Int) : Option ((IV × Unit) × Unit) := path_walk_n 1099511627776 p_0
theorem path_walk_eq (n : Nat) (p_0 : List Int) : evFn path_walk_Γ tab path_walk_fi n [.val t23] [⟨t20, [false], none⟩] Tryz.f298 (p_0, ()) = path_walk_n n p_0 := by
  rw [path_walk_start, path_walk_XL1 n n]
  rfl
noncomputable def path_walk_e : Ent := ⟨[.val t23], [⟨t20, [false], none⟩], fun x => path_walk x.1⟩
theorem path_walk_good : Good tab.ty Tryz.prog 298 path_walk_e := by
  refine fn_good (Γ := path_walk_Γ) (fi := path_walk_fi) (n := 1099511627776) follows (gcons slices_Contains_int_good gnil) tabok Tryz.func298 (by kernel_rfl) (by kernel_rfl) (fun x r h => ?_)
  obtain ⟨p_0, _u⟩ := x
  exact (path_walk_eq 1099511627776 p_0).trans h
noncomputable def path_May_Γ : Ctx := [(298, path_walk_e)]
def path_May_fi : Fi := { keep := [], vty := [], vals := [], live := [(0, [0]), (1, [4]), (2, [2])] }
noncomputable def path_May (p_0 : List Int) : Option ((Bool × Unit) × Unit) :=
 Option.bind (path_walk p_0) fun (r1 : (IV × Unit) × Unit) =>
 some ((!(IV.is r1.1.1 303), ()), ())
theorem path_May_eq (p_0 : List Int) : evFn path_May_Γ tab path_May_fi 1 [.val t23] [⟨t4, [false], none⟩] Tryz.f234 (p_0, ()) = path_May p_0 := by kernel_rfl
noncomputable def path_May_e : Ent := ⟨[.val t23], [⟨t4, [false], none⟩], fun x => path_May x.1⟩
theorem path_May_good : Good tab.ty Tryz.prog 234 path_May_e := by
  refine fn_good (Γ := path_May_Γ) (fi := path_May_fi) (n := 1) follows (gcons path_walk_good gnil) tabok Tryz.func234 (by kernel_rfl) (by kernel_rfl) (fun x r h => ?_)
  obtain ⟨p_0, _u⟩ := x
  exact (path_May_eq p_0).trans h
noncomputable def slices_Equal_int_Γ : Ctx := []
def slices_Equal_int_fi : Fi := { keep := [], vty := [], vals := [], live := [(0, [0, 1]), (1, [0, 1, 10]), (2, [4]), (3, [0, 1, 12, 13]), (4, [0, 1, 12, 13, 14]), (5, [0, 1, 5, 12, 13]), (6, [0, 1, 12, 13, 24]), (7, [4]), (8, [0, 1, 12, 13]), (9, [4])] }
noncomputable def slices_Equal_int_B1 (L1 : List Int → List Int → Int → Int → Option ((Bool × Unit) × Unit)) (v1 : List Int) (v2 : List Int) (v3 : Int) (v4 : Int) : Option ((Bool × Unit) × Unit) :=
 bif decide (v4 < v3) then
  bif decide (0 ≤ v4) && decide (v4 < (v1.length : Int)) then
   bif decide (0 ≤ v4) && decide (v4 < (v2.length : Int)) then
    bif (List.getD v1 v4.toNat 0) != (List.getD v2 v4.toNat 0) then
     some ((false, ()), ())
    else
     L1 v1 v2 v3 (IntKind.wrap .i64 (v4 + 1))
   else none
  else none
 else
  some ((true, ()), ())
noncomputable def slices_Equal_int_T (L1 : List Int → List Int → Int → Int → Option ((Bool × Unit) × Unit)) (s1_0 : List Int) (s2_1 : List Int) : Option ((Bool × Unit) × Unit) :=
 bif (s1_0.length : Int) != (s2_1.length : Int) then
  some ((false, ()), ())
 else
  L1 s1_0 s2_1 (s1_0.length : Int) 0
noncomputable def slices_Equal_int_L1 (n : Nat) : Nat → List Int → List Int → Int → Int → Option ((Bool × Unit) × Unit) := iter (fun _ _ _ _ => none) fun L => slices_Equal_int_B1 L
noncomputable def slices_Equal_int_X1 (n m : Nat) (v1 : List Int) (v2 : List Int) (v3 : Int) (v4 : Int) : Option ((Bool × Unit) × Unit) :=
 atLoop slices_Equal_int_Γ tab (fiB [.val t23, .val t23] slices_Equal_int_fi) n [.val t23, .val t23] [⟨t4, [false], none⟩] Tryz.f114 [1, 1, 0, 1, 0] [] [0, 1, 12, 13] m
 ⟨[(0, SV.cv (CV.one (LV.pure t23 v1))), (1, SV.cv (CV.one (LV.pure t23 v2))), (12, SV.cv (CV.one (LV.pure t2 v3))), (13, SV.cv (CV.one (LV.pure t2 v4)))],
  []⟩
theorem slices_Equal_int_step1 (n m : Nat) (v1 : List Int) (v2 : List Int) (v3 : Int) (v4 : Int) : slices_Equal_int_X1 n (m + 1) v1 v2 v3 v4 = slices_Equal_int_B1 (slices_Equal_int_X1 n m) v1 v2 v3 v4 := by kernel_rfl
theorem slices_Equal_int_start (n : Nat) (s1_0 : List Int) (s2_1 : List Int) : evFn slices_Equal_int_Γ tab slices_Equal_int_fi n [.val t23, .val t23] [⟨t4, [false], none⟩] Tryz.f114 (s1_0, s2_1, ()) = slices_Equal_int_T (slices_Equal_int_X1 n n) s1_0 s2_1 := by kernel_rfl
theorem slices_Equal_int_XL1 (n : Nat) : ∀ m, slices_Equal_int_X1 n m = slices_Equal_int_L1 n m
 | 0 => rfl
 | m + 1 => by
  have ih := slices_Equal_int_XL1 n m
  funext v1 v2 v3 v4
  rw [slices_Equal_int_step1, ih]
  rfl
noncomputable def slices_Equal_int_n (n : Nat) (s1_0 : List Int) (s2_1 : List Int) : Option ((Bool × Unit) × Unit) := slices_Equal_int_T (slices_Equal_int_L1 n n) s1_0 s2_1
noncomputable def slices_Equal_int (s1_0 : List Int) (s2_1 : List Int) : Option ((Bool × Unit) × Unit) := slices_Equal_int_n 1099511627776 s1_0 s2_1
theorem slices_Equal_int_eq (n : Nat) (s1_0 : List Int) (s2_1 : List Int) : evFn slices_Equal_int_Γ tab slices_Equal_int_fi n [.val t23, .val t23] [⟨t4, [false], none⟩] Tryz.f114 (s1_0, s2_1, ()) = slices_Equal_int_n n s1_0 s2_1 := by
  rw [slices_Equal_int_start, slices_Equal_int_XL1 n n]
  rfl
noncomputable def slices_Equal_int_e : Ent := ⟨[.val t23, .val t23], [⟨t4, [false], none⟩], fun x => slices_Equal_int x.1 x.2.1⟩
theorem slices_Equal_int_good : Good tab.ty Tryz.prog 114 slices_Equal_int_e := by
  refine fn_good (Γ := slices_Equal_int_Γ) (fi := slices_Equal_int_fi) (n := 1099511627776) follows gnil tabok Tryz.func114 (by kernel_rfl) (by kernel_rfl) (fun x r h => ?_)
  obtain ⟨s1_0, s2_1, _u⟩ := x
  exact (slices_Equal_int_eq 1099511627776 s1_0 s2_1).trans h
noncomputable def msg_Same_Γ : Ctx := [(114, slices_Equal_int_e)]
def msg_Same_fi : Fi := { keep := [], vty := [], vals := [], live := [(0, [2, 3, 11, 12, 13, 14, 15, 18, 19, 20, 21, 22, 25, 26, 27, 28, 29, 32, 33, 34, 35, 36, 39, 40, 41, 42, 43, 46, 47, 48, 49, 50, 53, 54, 55, 56, 57, 60, 61, 62, 63, 64, 67, 68, 69, 70, 71]), (1, [4])] }
noncomputable def msg_Same (a_0 : Int × Int × Int × Int × Int × Int × (List Int) × Int × Int × ByteArray) (b_1 : Int × Int × Int × Int × Int × Int × (List Int) × Int × Int × ByteArray) : Option ((Bool × Unit) × Unit) :=
 bif a_0.1 == b_1.1 then
  bif a_0.2.1 == b_1.2.1 then
   bif a_0.2.2.1 == b_1.2.2.1 then
    bif a_0.2.2.2.1 == b_1.2.2.2.1 then
     bif a_0.2.2.2.2.1 == b_1.2.2.2.2.1 then
      bif a_0.2.2.2.2.2.1 == b_1.2.2.2.2.2.1 then
       Option.bind (slices_Equal_int a_0.2.2.2.2.2.2.1 b_1.2.2.2.2.2.2.1) fun (r1 : (Bool × Unit) × Unit) =>
       bif r1.1.1 then
        bif a_0.2.2.2.2.2.2.2.1 == b_1.2.2.2.2.2.2.2.1 then
         bif a_0.2.2.2.2.2.2.2.2.1 == b_1.2.2.2.2.2.2.2.2.1 then
          some ((strEq a_0.2.2.2.2.2.2.2.2.2 b_1.2.2.2.2.2.2.2.2.2, ()), ())
         else
          some ((false, ()), ())
        else
         some ((false, ()), ())
       else
        some ((false, ()), ())
      else
       some ((false, ()), ())
     else
      some ((false, ()), ())
    else
     some ((false, ()), ())
   else
    some ((false, ()), ())
  else
   some ((false, ()), ())
 else
  some ((false, ()), ())
theorem msg_Same_eq (a_0 : Int × Int × Int × Int × Int × Int × (List Int) × Int × Int × ByteArray) (b_1 : Int × Int × Int × Int × Int × Int × (List Int) × Int × Int × ByteArray) : evFn msg_Same_Γ tab msg_Same_fi 1 [.val t40, .val t40] [⟨t4, [false], none⟩] Tryz.f304 (a_0, b_1, ()) = msg_Same a_0 b_1 := by kernel_rfl
noncomputable def msg_Same_e : Ent := ⟨[.val t40, .val t40], [⟨t4, [false], none⟩], fun x => msg_Same x.1 x.2.1⟩
theorem msg_Same_good : Good tab.ty Tryz.prog 304 msg_Same_e := by
  refine fn_good (Γ := msg_Same_Γ) (fi := msg_Same_fi) (n := 1) follows (gcons slices_Equal_int_good gnil) tabok Tryz.func304 (by kernel_rfl) (by kernel_rfl) (fun x r h => ?_)
  obtain ⟨a_0, b_1, _u⟩ := x
  exact (msg_Same_eq a_0 b_1).trans h
noncomputable def msg_fields_Γ : Ctx := [(234, path_May_e), (243, msg_from_e), (303, msg_bare_e), (304, msg_Same_e)]
def msg_fields_fi : Fi := { keep := [], vty := [], vals := [], live := [(0, [1, 36, 37, 38, 41, 42, 43, 44, 45, 46, 49, 50, 51, 66, 67, 68, 69, 72, 73, 74, 91, 92, 93, 94, 95, 96, 99, 100, 101]), (1, [1, 3, 36, 37, 38, 41, 42, 43, 44, 45, 46, 49, 50, 51, 66, 67, 68, 69, 72, 73, 74, 91, 92, 93, 94, 95, 96, 99, 100, 101]), (2, [1, 3, 7, 36, 37, 38, 41, 42, 43, 44, 45, 46, 49, 50, 51, 66, 67, 68, 69, 72, 73, 74, 91, 92, 93, 94, 95, 96, 99, 100, 101]), (3, [1, 3, 7, 8, 36, 37, 38, 41, 42, 43, 44, 45, 46, 49, 50, 51, 66, 67, 68, 69, 72, 73, 74, 91, 92, 93, 94, 95, 96, 99, 100, 101]), (4, [1, 3, 7, 8, 36, 37, 38, 41, 42, 43, 44, 45, 46, 49, 50, 51, 66, 67, 68, 69, 72, 73, 74, 91, 92, 93, 94, 95, 96, 99, 100, 101]), (5, [1, 3, 36, 37, 38, 41, 42, 43, 44, 45, 46, 49, 50, 51]), (6, [1, 3, 22, 36, 37, 38, 41, 42, 43, 44, 45, 46, 49, 50, 51]), (7, [1, 3, 36, 37, 38, 41, 42, 43, 44, 45, 46, 49, 50, 51]), (8, [1, 3, 36, 37, 38, 41, 42, 43, 44, 45, 46, 49, 50, 51]), (9, [2]), (10, [1, 3, 7, 53, 66, 67, 68, 69, 72, 73, 74, 91, 92, 93, 94, 95, 96, 99, 100, 101]), (11, [1, 3, 66, 67, 68, 69, 72, 73, 74]), (12, [2]), (13, [1, 3, 7, 76, 91, 92, 93, 94, 95, 96, 99, 100, 101]), (14, [1, 3, 76, 91, 92, 93, 94, 95, 96, 99, 100, 101]), (15, [1, 3, 91, 92, 93, 94, 95, 96, 99, 100, 101]), (16, [2]), (17, [2])] }
noncomputable def msg_fields (m_0 : Int × Int × Int × Int × Int × Int × (List Int) × Int × Int × ByteArray) : Option ((Bool × Unit) × Unit) :=
 Option.bind (msg_bare m_0) fun (r1 : ((Int × Int × Int × Int × Int × Int × (List Int) × Int × Int × ByteArray) × Unit) × Unit) =>
 bif m_0.1 == 2 then
  bif m_0.1 == 2 then
   bif m_0.1 == 2 then
    Option.bind (msg_from 0 1073741824 [m_0.2.2.2.2.1, m_0.2.2.2.2.2.1]) fun (r2 : (Bool × Unit) × Unit) =>
    bif r2.1.1 then
     Option.bind (path_May m_0.2.2.2.2.2.2.1) fun (r3 : (Bool × Unit) × Unit) =>
     bif r3.1.1 then
      Option.bind (msg_from 0 1000000 [m_0.2.2.2.2.2.2.2.1, r1.1.1.2.2.2.2.2.2.2.2.1]) fun (r4 : (Bool × Unit) × Unit) =>
      bif r4.1.1 then
       Option.bind (msg_Same m_0 (r1.1.1.1, r1.1.1.2.1, r1.1.1.2.2.1, r1.1.1.2.2.2.1, m_0.2.2.2.2.1, m_0.2.2.2.2.2.1, m_0.2.2.2.2.2.2.1, m_0.2.2.2.2.2.2.2.1, r1.1.1.2.2.2.2.2.2.2.2)) fun (r5 : (Bool × Unit) × Unit) =>
       some ((r5.1.1, ()), ())
      else
       some ((false, ()), ())
     else
      some ((false, ()), ())
    else
     some ((false, ()), ())
   else
    Option.bind (msg_from 0 1073741824 [m_0.2.2.2.2.1, m_0.2.2.2.2.2.1]) fun (r6 : (Bool × Unit) × Unit) =>
    bif r6.1.1 then
     Option.bind (path_May m_0.2.2.2.2.2.2.1) fun (r7 : (Bool × Unit) × Unit) =>
     bif r7.1.1 then
      Option.bind (msg_from 0 1000000 [r1.1.1.2.2.2.2.2.2.2.1, m_0.2.2.2.2.2.2.2.2.1]) fun (r8 : (Bool × Unit) × Unit) =>
      bif r8.1.1 then
       Option.bind (msg_Same m_0 (r1.1.1.1, r1.1.1.2.1, r1.1.1.2.2.1, r1.1.1.2.2.2.1, m_0.2.2.2.2.1, m_0.2.2.2.2.2.1, m_0.2.2.2.2.2.2.1, r1.1.1.2.2.2.2.2.2.2.1, m_0.2.2.2.2.2.2.2.2.1, r1.1.1.2.2.2.2.2.2.2.2.2)) fun (r9 : (Bool × Unit) × Unit) =>
       some ((r9.1.1, ()), ())
      else
       some ((false, ()), ())
     else
      some ((false, ()), ())
    else
     some ((false, ()), ())
  else
  bif m_0.1 == 7 then
   Option.bind (msg_from 1 1000000 [m_0.2.2.2.2.2.2.2.1]) fun (r10 : (Bool × Unit) × Unit) =>
   bif r10.1.1 then
    bif decide ((m_0.2.2.2.2.2.2.2.2.2.size : Int) ≤ 12) then
     Option.bind (msg_Same m_0 (r1.1.1.1, r1.1.1.2.1, r1.1.1.2.2.1, r1.1.1.2.2.2.1, r1.1.1.2.2.2.2.1, r1.1.1.2.2.2.2.2.1, r1.1.1.2.2.2.2.2.2.1, m_0.2.2.2.2.2.2.2.1, r1.1.1.2.2.2.2.2.2.2.2.1, m_0.2.2.2.2.2.2.2.2.2)) fun (r11 : (Bool × Unit) × Unit) =>
     some ((r11.1.1, ()), ())
    else
     some ((false, ()), ())
   else
    some ((false, ()), ())
  else
  bif m_0.1 == 8 then
   bif m_0.1 == 8 then
    bif decide (m_0.2.2.2.2.2.2.2.1 ≤ m_0.2.2.2.2.2.2.2.2.1) then
     Option.bind (msg_from 1 1000000 [m_0.2.2.2.2.2.2.2.1, m_0.2.2.2.2.2.2.2.2.1]) fun (r12 : (Bool × Unit) × Unit) =>
     bif r12.1.1 then
      Option.bind (msg_Same m_0 (r1.1.1.1, r1.1.1.2.1, r1.1.1.2.2.1, r1.1.1.2.2.2.1, r1.1.1.2.2.2.2.1, r1.1.1.2.2.2.2.2.1, r1.1.1.2.2.2.2.2.2.1, m_0.2.2.2.2.2.2.2.1, m_0.2.2.2.2.2.2.2.2.1, r1.1.1.2.2.2.2.2.2.2.2.2)) fun (r13 : (Bool × Unit) × Unit) =>
      some ((r13.1.1, ()), ())
     else
      some ((false, ()), ())
    else
     some ((false, ()), ())
   else
    Option.bind (msg_Same m_0 r1.1.1) fun (r14 : (Bool × Unit) × Unit) =>
    some ((r14.1.1, ()), ())
  else
  bif m_0.1 == 9 then
   bif decide (m_0.2.2.2.2.2.2.2.1 ≤ m_0.2.2.2.2.2.2.2.2.1) then
    Option.bind (msg_from 1 1000000 [m_0.2.2.2.2.2.2.2.1, m_0.2.2.2.2.2.2.2.2.1]) fun (r15 : (Bool × Unit) × Unit) =>
    bif r15.1.1 then
     Option.bind (msg_Same m_0 (r1.1.1.1, r1.1.1.2.1, r1.1.1.2.2.1, r1.1.1.2.2.2.1, r1.1.1.2.2.2.2.1, r1.1.1.2.2.2.2.2.1, r1.1.1.2.2.2.2.2.2.1, m_0.2.2.2.2.2.2.2.1, m_0.2.2.2.2.2.2.2.2.1, r1.1.1.2.2.2.2.2.2.2.2.2)) fun (r16 : (Bool × Unit) × Unit) =>
     some ((r16.1.1, ()), ())
    else
     some ((false, ()), ())
   else
    some ((false, ()), ())
  else
   Option.bind (msg_Same m_0 r1.1.1) fun (r17 : (Bool × Unit) × Unit) =>
   some ((r17.1.1, ()), ())
 else
 bif m_0.1 == 5 then
  bif m_0.1 == 2 then
   Option.bind (msg_from 0 1073741824 [m_0.2.2.2.2.1, m_0.2.2.2.2.2.1]) fun (r18 : (Bool × Unit) × Unit) =>
   bif r18.1.1 then
    Option.bind (path_May m_0.2.2.2.2.2.2.1) fun (r19 : (Bool × Unit) × Unit) =>
    bif r19.1.1 then
     Option.bind (msg_from 0 1000000 [m_0.2.2.2.2.2.2.2.1, r1.1.1.2.2.2.2.2.2.2.2.1]) fun (r20 : (Bool × Unit) × Unit) =>
     bif r20.1.1 then
      Option.bind (msg_Same m_0 (r1.1.1.1, r1.1.1.2.1, r1.1.1.2.2.1, r1.1.1.2.2.2.1, m_0.2.2.2.2.1, m_0.2.2.2.2.2.1, m_0.2.2.2.2.2.2.1, m_0.2.2.2.2.2.2.2.1, r1.1.1.2.2.2.2.2.2.2.2)) fun (r21 : (Bool × Unit) × Unit) =>
      some ((r21.1.1, ()), ())
     else
      some ((false, ()), ())
    else
     some ((false, ()), ())
   else
    some ((false, ()), ())
  else
   Option.bind (msg_from 0 1073741824 [m_0.2.2.2.2.1, m_0.2.2.2.2.2.1]) fun (r22 : (Bool × Unit) × Unit) =>
   bif r22.1.1 then
    Option.bind (path_May m_0.2.2.2.2.2.2.1) fun (r23 : (Bool × Unit) × Unit) =>
    bif r23.1.1 then
     Option.bind (msg_from 0 1000000 [r1.1.1.2.2.2.2.2.2.2.1, m_0.2.2.2.2.2.2.2.2.1]) fun (r24 : (Bool × Unit) × Unit) =>
     bif r24.1.1 then
      Option.bind (msg_Same m_0 (r1.1.1.1, r1.1.1.2.1, r1.1.1.2.2.1, r1.1.1.2.2.2.1, m_0.2.2.2.2.1, m_0.2.2.2.2.2.1, m_0.2.2.2.2.2.2.1, r1.1.1.2.2.2.2.2.2.2.1, m_0.2.2.2.2.2.2.2.2.1, r1.1.1.2.2.2.2.2.2.2.2.2)) fun (r25 : (Bool × Unit) × Unit) =>
      some ((r25.1.1, ()), ())
     else
      some ((false, ()), ())
    else
     some ((false, ()), ())
   else
    some ((false, ()), ())
 else
 bif m_0.1 == 7 then
  Option.bind (msg_from 1 1000000 [m_0.2.2.2.2.2.2.2.1]) fun (r26 : (Bool × Unit) × Unit) =>
  bif r26.1.1 then
   bif decide ((m_0.2.2.2.2.2.2.2.2.2.size : Int) ≤ 12) then
    Option.bind (msg_Same m_0 (r1.1.1.1, r1.1.1.2.1, r1.1.1.2.2.1, r1.1.1.2.2.2.1, r1.1.1.2.2.2.2.1, r1.1.1.2.2.2.2.2.1, r1.1.1.2.2.2.2.2.2.1, m_0.2.2.2.2.2.2.2.1, r1.1.1.2.2.2.2.2.2.2.2.1, m_0.2.2.2.2.2.2.2.2.2)) fun (r27 : (Bool × Unit) × Unit) =>
    some ((r27.1.1, ()), ())
   else
    some ((false, ()), ())
  else
   some ((false, ()), ())
 else
 bif m_0.1 == 8 then
  bif m_0.1 == 8 then
   bif decide (m_0.2.2.2.2.2.2.2.1 ≤ m_0.2.2.2.2.2.2.2.2.1) then
    Option.bind (msg_from 1 1000000 [m_0.2.2.2.2.2.2.2.1, m_0.2.2.2.2.2.2.2.2.1]) fun (r28 : (Bool × Unit) × Unit) =>
    bif r28.1.1 then
     Option.bind (msg_Same m_0 (r1.1.1.1, r1.1.1.2.1, r1.1.1.2.2.1, r1.1.1.2.2.2.1, r1.1.1.2.2.2.2.1, r1.1.1.2.2.2.2.2.1, r1.1.1.2.2.2.2.2.2.1, m_0.2.2.2.2.2.2.2.1, m_0.2.2.2.2.2.2.2.2.1, r1.1.1.2.2.2.2.2.2.2.2.2)) fun (r29 : (Bool × Unit) × Unit) =>
     some ((r29.1.1, ()), ())
    else
     some ((false, ()), ())
   else
    some ((false, ()), ())
  else
   Option.bind (msg_Same m_0 r1.1.1) fun (r30 : (Bool × Unit) × Unit) =>
   some ((r30.1.1, ()), ())
 else
 bif m_0.1 == 9 then
  bif decide (m_0.2.2.2.2.2.2.2.1 ≤ m_0.2.2.2.2.2.2.2.2.1) then
   Option.bind (msg_from 1 1000000 [m_0.2.2.2.2.2.2.2.1, m_0.2.2.2.2.2.2.2.2.1]) fun (r31 : (Bool × Unit) × Unit) =>
   bif r31.1.1 then
    Option.bind (msg_Same m_0 (r1.1.1.1, r1.1.1.2.1, r1.1.1.2.2.1, r1.1.1.2.2.2.1, r1.1.1.2.2.2.2.1, r1.1.1.2.2.2.2.2.1, r1.1.1.2.2.2.2.2.2.1, m_0.2.2.2.2.2.2.2.1, m_0.2.2.2.2.2.2.2.2.1, r1.1.1.2.2.2.2.2.2.2.2.2)) fun (r32 : (Bool × Unit) × Unit) =>
    some ((r32.1.1, ()), ())
   else
    some ((false, ()), ())
  else
   some ((false, ()), ())
 else
  Option.bind (msg_Same m_0 r1.1.1) fun (r33 : (Bool × Unit) × Unit) =>
  some ((r33.1.1, ()), ())
theorem msg_fields_eq (m_0 : Int × Int × Int × Int × Int × Int × (List Int) × Int × Int × ByteArray) : evFn msg_fields_Γ tab msg_fields_fi 1 [.val t40] [⟨t4, [false], none⟩] Tryz.f244 (m_0, ()) = msg_fields m_0 := by kernel_rfl
noncomputable def msg_fields_e : Ent := ⟨[.val t40], [⟨t4, [false], none⟩], fun x => msg_fields x.1⟩
theorem msg_fields_good : Good tab.ty Tryz.prog 244 msg_fields_e := by
  refine fn_good (Γ := msg_fields_Γ) (fi := msg_fields_fi) (n := 1) follows (gcons path_May_good (gcons msg_from_good (gcons msg_bare_good (gcons msg_Same_good gnil)))) tabok Tryz.func244 (by kernel_rfl) (by kernel_rfl) (fun x r h => ?_)
  obtain ⟨m_0, _u⟩ := x
  exact (msg_fields_eq m_0).trans h
noncomputable def msg_May_Γ : Ctx := [(243, msg_from_e), (244, msg_fields_e)]
def msg_May_fi : Fi := { keep := [], vty := [], vals := [], live := [(0, [1, 8, 9, 10, 11, 12, 13, 16, 17, 18, 19, 20, 23, 24, 25, 26, 29, 30]), (1, [2])] }
noncomputable def msg_May (m_0 : Int × Int × Int × Int × Int × Int × (List Int) × Int × Int × ByteArray) : Option ((Bool × Unit) × Unit) :=
 Option.bind (msg_from 1 9 [m_0.1]) fun (r1 : (Bool × Unit) × Unit) =>
 bif r1.1.1 then
  Option.bind (msg_from 1 8 [m_0.2.1, m_0.2.2.1]) fun (r2 : (Bool × Unit) × Unit) =>
  bif r2.1.1 then
   bif m_0.2.1 != m_0.2.2.1 then
    Option.bind (msg_from 1 1073741824 [m_0.2.2.2.1]) fun (r3 : (Bool × Unit) × Unit) =>
    bif r3.1.1 then
     Option.bind (msg_fields m_0) fun (r4 : (Bool × Unit) × Unit) =>
     some ((r4.1.1, ()), ())
    else
     some ((false, ()), ())
   else
    some ((false, ()), ())
  else
   some ((false, ()), ())
 else
  some ((false, ()), ())
theorem msg_May_eq (m_0 : Int × Int × Int × Int × Int × Int × (List Int) × Int × Int × ByteArray) : evFn msg_May_Γ tab msg_May_fi 1 [.val t40] [⟨t4, [false], none⟩] Tryz.f172 (m_0, ()) = msg_May m_0 := by kernel_rfl
noncomputable def msg_May_e : Ent := ⟨[.val t40], [⟨t4, [false], none⟩], fun x => msg_May x.1⟩
theorem msg_May_good : Good tab.ty Tryz.prog 172 msg_May_e := by
  refine fn_good (Γ := msg_May_Γ) (fi := msg_May_fi) (n := 1) follows (gcons msg_from_good (gcons msg_fields_good gnil)) tabok Tryz.func172 (by kernel_rfl) (by kernel_rfl) (fun x r h => ?_)
  obtain ⟨m_0, _u⟩ := x
  exact (msg_May_eq m_0).trans h
noncomputable def slices_Clone_byte (s : List Int) : Option (((List Int) × Unit) × Unit) := bif Nat.ble s.length 1073741824 then some ((s, ()), ()) else none
theorem slices_Clone_byte_raw (s : List Int) : evFn [] tab (fiOf Tryz.f245 []) 1 [.val t43] [⟨t43, [true], none⟩] Tryz.f245 (s, ()) = bif !(List.isEmpty s) then bif Nat.ble (0 + s.length) 1073741824 then some (([] ++ s, ()), ()) else none
 else bothEq (some (([], ()), ())) (bif Nat.ble (0 + s.length) 1073741824 then some (([] ++ s, ()), ()) else none) := by kernel_rfl
theorem slices_Clone_byte_eq (s : List Int) : evFn [] tab (fiOf Tryz.f245 []) 1 [.val t43] [⟨t43, [true], none⟩] Tryz.f245 (s, ()) = slices_Clone_byte s := by
  rw [slices_Clone_byte_raw]
  cases s with
  | nil => exact bothEq_same _
  | cons x q => rw [Nat.zero_add]; rfl
noncomputable def slices_Clone_byte_e : Ent := ⟨[.val t43], [⟨t43, [true], none⟩], fun x => slices_Clone_byte x.1⟩
theorem slices_Clone_byte_good : Good tab.ty Tryz.prog 245 slices_Clone_byte_e := by
  refine fn_good (Γ := []) (fi := fiOf Tryz.f245 []) (n := 1) follows gnil tabok Tryz.func245 (by kernel_rfl) (by kernel_rfl) (fun x r h => ?_)
  obtain ⟨s, _u⟩ := x
  exact (slices_Clone_byte_eq s).trans h
noncomputable def bits_Put_Γ : Ctx := [(245, slices_Clone_byte_e)]
def bits_Put_fi : Fi := { keep := [], vty := [], vals := [], live := [(0, [0, 1]), (1, [0, 1]), (2, [0, 5]), (3, [0, 5, 11]), (4, [0, 5]), (5, [0, 5]), (6, [4])] }
noncomputable def bits_Put_B1 (L1 : Int → List Int → Option (((List Int) × Unit) × Unit)) (v2 : Int) (v3 : List Int) : Option (((List Int) × Unit) × Unit) :=
 bif decide (v2 ≥ 128) then
  bif Nat.ble (v3.length + 1) 1073741824 then
   L1 (Int.fdiv v2 (2 ^ 7)) (v3 ++ [IntKind.wrap .u8 ((BitVec.ofInt 8 (IntKind.wrap .u8 v2) ||| BitVec.ofInt 8 128).toNat)])
  else none
 else
 bif Nat.ble (v3.length + 1) 1073741824 then
  some ((v3 ++ [IntKind.wrap .u8 v2], ()), ())
 else none
noncomputable def bits_Put_T (L1 : Int → List Int → Option (((List Int) × Unit) × Unit)) (b_0 : List Int) (v_1 : Int) : Option (((List Int) × Unit) × Unit) :=
 Option.bind (slices_Clone_byte b_0) fun (r1 : ((List Int) × Unit) × Unit) =>
 L1 (IntKind.wrap .u64 v_1) r1.1.1
noncomputable def bits_Put_L1 (n : Nat) : Nat → Int → List Int → Option (((List Int) × Unit) × Unit) := iter (fun _ _ => none) fun L => bits_Put_B1 L
noncomputable def bits_Put_X1 (n m : Nat) (v2 : Int) (v3 : List Int) : Option (((List Int) × Unit) × Unit) :=
 atLoop bits_Put_Γ tab (fiB [.val t43, .val t2] bits_Put_fi) n [.val t43, .val t2] [⟨t43, [true], none⟩] Tryz.f173 [1, 1, 1, 0, 0] [] [0, 5] m
 ⟨[(0, SV.cv (CV.one (LV.ref (888888, 0)))), (5, SV.cv (CV.one (LV.pure t12 v2)))],
  [((888888, 0), Ob.row 5 t5 v3)]⟩
theorem bits_Put_step1 (n m : Nat) (v2 : Int) (v3 : List Int) : bits_Put_X1 n (m + 1) v2 v3 = bits_Put_B1 (bits_Put_X1 n m) v2 v3 := by kernel_rfl
theorem bits_Put_start (n : Nat) (b_0 : List Int) (v_1 : Int) : evFn bits_Put_Γ tab bits_Put_fi n [.val t43, .val t2] [⟨t43, [true], none⟩] Tryz.f173 (b_0, v_1, ()) = bits_Put_T (bits_Put_X1 n n) b_0 v_1 := by kernel_rfl
theorem bits_Put_XL1 (n : Nat) : ∀ m, bits_Put_X1 n m = bits_Put_L1 n m
 | 0 => rfl
 | m + 1 => by
  have ih := bits_Put_XL1 n m
  funext v2 v3
  rw [bits_Put_step1, ih]
  rfl
noncomputable def bits_Put_n (n : Nat) (b_0 : List Int) (v_1 : Int) : Option (((List Int) × Unit) × Unit) := bits_Put_T (bits_Put_L1 n n) b_0 v_1
noncomputable def bits_Put (b_0 : List Int) (v_1 : Int) : Option (((List Int) × Unit) × Unit) := bits_Put_n 1099511627776 b_0 v_1
theorem bits_Put_eq (n : Nat) (b_0 : List Int) (v_1 : Int) : evFn bits_Put_Γ tab bits_Put_fi n [.val t43, .val t2] [⟨t43, [true], none⟩] Tryz.f173 (b_0, v_1, ()) = bits_Put_n n b_0 v_1 := by
  rw [bits_Put_start, bits_Put_XL1 n n]
  rfl
noncomputable def bits_Put_e : Ent := ⟨[.val t43, .val t2], [⟨t43, [true], none⟩], fun x => bits_Put x.1 x.2.1⟩
theorem bits_Put_good : Good tab.ty Tryz.prog 173 bits_Put_e := by
  refine fn_good (Γ := bits_Put_Γ) (fi := bits_Put_fi) (n := 1099511627776) follows (gcons slices_Clone_byte_good gnil) tabok Tryz.func173 (by kernel_rfl) (by kernel_rfl) (fun x r h => ?_)
  obtain ⟨b_0, v_1, _u⟩ := x
  exact (bits_Put_eq 1099511627776 b_0 v_1).trans h
noncomputable def bits_PutText_Γ : Ctx := [(173, bits_Put_e)]
def bits_PutText_fi : Fi := { keep := [], vty := [], vals := [], live := [(0, [0, 1]), (1, [4])] }
noncomputable def bits_PutText (b_0 : List Int) (s_1 : ByteArray) : Option (((List Int) × Unit) × Unit) :=
 Option.bind (bits_Put b_0 (s_1.size : Int)) fun (r1 : ((List Int) × Unit) × Unit) =>
 bif Nat.ble (r1.1.1.length + (s_1.data.toList.map fun b => (b.toNat : Int)).length) 1073741824 then
  some ((r1.1.1 ++ (s_1.data.toList.map fun b => (b.toNat : Int)), ()), ())
 else none
theorem bits_PutText_eq (b_0 : List Int) (s_1 : ByteArray) : evFn bits_PutText_Γ tab bits_PutText_fi 1 [.val t43, .val t9] [⟨t43, [true], none⟩] Tryz.f174 (b_0, s_1, ()) = bits_PutText b_0 s_1 := by kernel_rfl
noncomputable def bits_PutText_e : Ent := ⟨[.val t43, .val t9], [⟨t43, [true], none⟩], fun x => bits_PutText x.1 x.2.1⟩
theorem bits_PutText_good : Good tab.ty Tryz.prog 174 bits_PutText_e := by
  refine fn_good (Γ := bits_PutText_Γ) (fi := bits_PutText_fi) (n := 1) follows (gcons bits_Put_good gnil) tabok Tryz.func174 (by kernel_rfl) (by kernel_rfl) (fun x r h => ?_)
  obtain ⟨b_0, s_1, _u⟩ := x
  exact (bits_PutText_eq b_0 s_1).trans h
noncomputable def crc_Sum_Γ : Ctx := []
def crc_Sum_fi : Fi := { keep := [], vty := [], vals := [], live := [(0, [0]), (1, [0, 3]), (2, [3, 7, 8, 9]), (3, [3, 7, 8, 9, 10]), (4, [3, 5, 7, 8, 9]), (5, [3, 7, 8, 9]), (6, [3, 7, 8, 9, 17]), (7, [3, 7, 8, 9, 17, 18]), (8, [3, 6, 7, 8, 9, 17]), (9, [3, 6, 7, 8, 9, 17]), (10, [3, 7, 8, 9, 17, 24]), (11, [3, 7, 8, 9, 17]), (12, [3, 7, 8, 9, 17]), (13, [3, 7, 8, 9]), (14, [2])] }
noncomputable def crc_Sum_B1 (L2 : Int → List Int → Int → Int → Int → Option ((Int × Unit) × Unit)) (v1 : Int) (v2 : List Int) (v3 : Int) (v4 : Int) : Option ((Int × Unit) × Unit) :=
 bif decide (v4 < v3) then
  bif decide (0 ≤ v4) && decide (v4 < (v2.length : Int)) then
   L2 (IntKind.wrap .u32 ((BitVec.ofInt 32 v1 ^^^ BitVec.ofInt 32 (IntKind.wrap .u32 (List.getD v2 v4.toNat 0))).toNat)) v2 v3 v4 0
  else none
 else
  some ((IntKind.wrap .u32 ((BitVec.ofInt 32 v1 ^^^ BitVec.ofInt 32 4294967295).toNat), ()), ())
noncomputable def crc_Sum_B2 (L2 : Int → List Int → Int → Int → Int → Option ((Int × Unit) × Unit)) (L1 : Int → List Int → Int → Int → Option ((Int × Unit) × Unit)) (v5 : Int) (v6 : List Int) (v7 : Int) (v8 : Int) (v9 : Int) : Option ((Int × Unit) × Unit) :=
 bif decide (v9 < 8) then
  bif (IntKind.wrap .u32 ((BitVec.ofInt 32 v5 &&& BitVec.ofInt 32 1).toNat)) == 1 then
   L2 (IntKind.wrap .u32 ((BitVec.ofInt 32 (Int.fdiv v5 (2 ^ 1)) ^^^ BitVec.ofInt 32 3988292384).toNat)) v6 v7 v8 (IntKind.wrap .i64 (v9 + 1))
  else
   L2 (Int.fdiv v5 (2 ^ 1)) v6 v7 v8 (IntKind.wrap .i64 (v9 + 1))
 else
  L1 v5 v6 v7 (IntKind.wrap .i64 (v8 + 1))
noncomputable def crc_Sum_T (L1 : Int → List Int → Int → Int → Option ((Int × Unit) × Unit)) (b_0 : List Int) : Option ((Int × Unit) × Unit) :=
 L1 4294967295 b_0 (b_0.length : Int) 0
noncomputable def crc_Sum_L2 (n : Nat) (m1 : Nat) (r1 : Int → List Int → Int → Int → Option ((Int × Unit) × Unit)) : Nat → Int → List Int → Int → Int → Int → Option ((Int × Unit) × Unit) := iter (fun _ _ _ _ _ => none) fun L => crc_Sum_B2 L r1
noncomputable def crc_Sum_L1 (n : Nat) : Nat → Int → List Int → Int → Int → Option ((Int × Unit) × Unit) := iterN (fun _ _ _ _ => none) fun m L => crc_Sum_B1 (crc_Sum_L2 n m L n)
noncomputable def crc_Sum_X1 (n m : Nat) (v1 : Int) (v2 : List Int) (v3 : Int) (v4 : Int) : Option ((Int × Unit) × Unit) :=
 atLoop crc_Sum_Γ tab (fiB [.val t43] crc_Sum_fi) n [.val t43] [⟨t94, [false], none⟩] Tryz.f175 [1, 1, 0, 1, 0] [] [3, 7, 8, 9] m
 ⟨[(3, SV.cv (CV.one (LV.pure t94 v1))), (7, SV.cv (CV.one (LV.pure t43 v2))), (8, SV.cv (CV.one (LV.pure t2 v3))), (9, SV.cv (CV.one (LV.pure t2 v4)))],
  []⟩
noncomputable def crc_Sum_X2 (n m1 m : Nat) (v5 : Int) (v6 : List Int) (v7 : Int) (v8 : Int) (v9 : Int) : Option ((Int × Unit) × Unit) :=
 atLoop crc_Sum_Γ tab (fiB [.val t43] crc_Sum_fi) n [.val t43] [⟨t94, [false], none⟩] Tryz.f175 [1, 1, 0, 1, 0, 0, 1, 1, 0, 0, 1, 1, 1, 0] [(m1, [3, 7, 8, 9])] [3, 7, 8, 9, 17] m
 ⟨[(3, SV.cv (CV.one (LV.pure t94 v5))), (7, SV.cv (CV.one (LV.pure t43 v6))), (8, SV.cv (CV.one (LV.pure t2 v7))), (9, SV.cv (CV.one (LV.pure t2 v8))), (17, SV.cv (CV.one (LV.pure t2 v9)))],
  []⟩
theorem crc_Sum_step1 (n m : Nat) (v1 : Int) (v2 : List Int) (v3 : Int) (v4 : Int) : crc_Sum_X1 n (m + 1) v1 v2 v3 v4 = crc_Sum_B1 (crc_Sum_X2 n m n) v1 v2 v3 v4 := by kernel_rfl
theorem crc_Sum_step2 (n m1 m : Nat) (v5 : Int) (v6 : List Int) (v7 : Int) (v8 : Int) (v9 : Int) : crc_Sum_X2 n m1 (m + 1) v5 v6 v7 v8 v9 = crc_Sum_B2 (crc_Sum_X2 n m1 m) (crc_Sum_X1 n m1) v5 v6 v7 v8 v9 := by kernel_rfl
theorem crc_Sum_start (n : Nat) (b_0 : List Int) : evFn crc_Sum_Γ tab crc_Sum_fi n [.val t43] [⟨t94, [false], none⟩] Tryz.f175 (b_0, ()) = crc_Sum_T (crc_Sum_X1 n n) b_0 := by kernel_rfl
theorem crc_Sum_XL2 (n : Nat) (m1 : Nat) (r1 : Int → List Int → Int → Int → Option ((Int × Unit) × Unit)) (h1 : crc_Sum_X1 n m1 = r1) : ∀ m, crc_Sum_X2 n m1 m = crc_Sum_L2 n m1 r1 m
 | 0 => rfl
 | m + 1 => by
  have ih := crc_Sum_XL2 n m1 r1 h1 m
  funext v5 v6 v7 v8 v9
  rw [crc_Sum_step2, ih, h1]
  rfl
theorem crc_Sum_XL1 (n : Nat) : ∀ m, crc_Sum_X1 n m = crc_Sum_L1 n m
 | 0 => rfl
 | m + 1 => by
  have ih := crc_Sum_XL1 n m
  funext v1 v2 v3 v4
  rw [crc_Sum_step1, crc_Sum_XL2 n m _ ih n]
  rfl
noncomputable def crc_Sum_n (n : Nat) (b_0 : List Int) : Option ((Int × Unit) × Unit) := crc_Sum_T (crc_Sum_L1 n n) b_0
noncomputable def crc_Sum (b_0 : List Int) : Option ((Int × Unit) × Unit) := crc_Sum_n 1099511627776 b_0
theorem crc_Sum_eq (n : Nat) (b_0 : List Int) : evFn crc_Sum_Γ tab crc_Sum_fi n [.val t43] [⟨t94, [false], none⟩] Tryz.f175 (b_0, ()) = crc_Sum_n n b_0 := by
  rw [crc_Sum_start, crc_Sum_XL1 n n]
  rfl
noncomputable def crc_Sum_e : Ent := ⟨[.val t43], [⟨t94, [false], none⟩], fun x => crc_Sum x.1⟩
theorem crc_Sum_good : Good tab.ty Tryz.prog 175 crc_Sum_e := by
  refine fn_good (Γ := crc_Sum_Γ) (fi := crc_Sum_fi) (n := 1099511627776) follows gnil tabok Tryz.func175 (by kernel_rfl) (by kernel_rfl) (fun x r h => ?_)
  obtain ⟨b_0, _u⟩ := x
  exact (crc_Sum_eq 1099511627776 b_0).trans h
noncomputable def msg_Put_Γ : Ctx := [(172, msg_May_e), (173, bits_Put_e), (174, bits_PutText_e), (175, crc_Sum_e)]
def msg_Put_fi : Fi := { keep := [], vty := [(4, 43)], vals := [], live := [(0, [1]), (1, [1, 10]), (2, [2]), (3, [1, 3]), (4, [1, 3]), (5, [1, 3, 4]), (6, [1, 4, 37, 38, 39]), (7, [1, 4, 37, 38, 39, 40]), (8, [1, 4, 6, 37, 38, 39]), (9, [1, 4, 37, 38, 39]), (10, [1, 4, 37, 38, 39]), (11, [4]), (12, [4, 7]), (13, [2])] }
noncomputable def msg_Put_B1 (L1 : Int → Int → Int → Int → Int → Int → Int → Int → List Int → Int → Int → ByteArray → List Int → List Int → Option (((List Int) × Unit) × Unit)) (v2 : Int) (v3 : Int) (v4 : Int) (v5 : Int) (v6 : Int) (v7 : Int) (v8 : Int) (v9 : Int) (v10 : List Int) (v11 : Int) (v12 : Int) (v13 : ByteArray) (v14 : List Int) (v15 : List Int) : Option (((List Int) × Unit) × Unit) :=
 bif decide (v3 < v2) then
  bif decide (0 ≤ v3) && decide (v3 < (v15.length : Int)) then
   bif decide (0 ≤ v3) && decide (v3 < (v15.length : Int)) then
    Option.bind (bits_Put v14 (List.getD v15 v3.toNat 0)) fun (r16 : ((List Int) × Unit) × Unit) =>
    L1 v2 (IntKind.wrap .i64 (v3 + 1)) v4 v5 v6 v7 v8 v9 v10 v11 v12 v13 r16.1.1 v15
   else none
  else none
 else
  Option.bind (bits_PutText v14 v13) fun (r17 : ((List Int) × Unit) × Unit) =>
  Option.bind (crc_Sum r17.1.1) fun (r18 : (Int × Unit) × Unit) =>
  bif Nat.ble (r17.1.1.length + 4) 1073741824 then
   some ((r17.1.1 ++ [IntKind.wrap .u8 (Int.fdiv r18.1.1 (2 ^ 24)), IntKind.wrap .u8 (Int.fdiv r18.1.1 (2 ^ 16)), IntKind.wrap .u8 (Int.fdiv r18.1.1 (2 ^ 8)), IntKind.wrap .u8 r18.1.1], ()), ())
  else none
noncomputable def msg_Put_T (L1 : Int → Int → Int → Int → Int → Int → Int → Int → List Int → Int → Int → ByteArray → List Int → List Int → Option (((List Int) × Unit) × Unit)) (m_0 : Int × Int × Int × Int × Int × Int × (List Int) × Int × Int × ByteArray) : Option (((List Int) × Unit) × Unit) :=
 Option.bind (msg_May m_0) fun (r1 : (Bool × Unit) × Unit) =>
 bif !r1.1.1 then
  some (([], ()), ())
 else
 bif Nat.ble (7 + m_0.2.2.2.2.2.2.1.length) 1073741824 then
  bif Nat.ble (([m_0.1, m_0.2.1, m_0.2.2.1, m_0.2.2.2.1, m_0.2.2.2.2.1, m_0.2.2.2.2.2.1, (m_0.2.2.2.2.2.2.1.length : Int)] ++ m_0.2.2.2.2.2.2.1).length + 2) 1073741824 then
   L1 ((([m_0.1, m_0.2.1, m_0.2.2.1, m_0.2.2.2.1, m_0.2.2.2.2.1, m_0.2.2.2.2.2.1, (m_0.2.2.2.2.2.2.1.length : Int)] ++ m_0.2.2.2.2.2.2.1) ++ [m_0.2.2.2.2.2.2.2.1, m_0.2.2.2.2.2.2.2.2.1]).length : Int) 0 m_0.1 m_0.2.1 m_0.2.2.1 m_0.2.2.2.1 m_0.2.2.2.2.1 m_0.2.2.2.2.2.1 m_0.2.2.2.2.2.2.1 m_0.2.2.2.2.2.2.2.1 m_0.2.2.2.2.2.2.2.2.1 m_0.2.2.2.2.2.2.2.2.2 [] (([m_0.1, m_0.2.1, m_0.2.2.1, m_0.2.2.2.1, m_0.2.2.2.2.1, m_0.2.2.2.2.2.1, (m_0.2.2.2.2.2.2.1.length : Int)] ++ m_0.2.2.2.2.2.2.1) ++ [m_0.2.2.2.2.2.2.2.1, m_0.2.2.2.2.2.2.2.2.1])
  else none
 else none
noncomputable def msg_Put_L1 (n : Nat) : Nat → Int → Int → Int → Int → Int → Int → Int → Int → List Int → Int → Int → ByteArray → List Int → List Int → Option (((List Int) × Unit) × Unit) := iter (fun _ _ _ _ _ _ _ _ _ _ _ _ _ _ => none) fun L => msg_Put_B1 L
noncomputable def msg_Put_X1 (n m : Nat) (v2 : Int) (v3 : Int) (v4 : Int) (v5 : Int) (v6 : Int) (v7 : Int) (v8 : Int) (v9 : Int) (v10 : List Int) (v11 : Int) (v12 : Int) (v13 : ByteArray) (v14 : List Int) (v15 : List Int) : Option (((List Int) × Unit) × Unit) :=
 atLoop msg_Put_Γ tab (fiB [.val t40] msg_Put_fi) n [.val t40] [⟨t43, [true], none⟩] Tryz.f86 [1, 1, 1, 1, 1, 0, 1, 0] [] [1, 4, 37, 38, 39] m
 ⟨[(1, SV.cv (CV.one (LV.ptr (1, 0) 0))), (4, SV.cv (CV.one (LV.ref (888888, 4)))), (37, SV.cv (CV.one (LV.ref (888888, 37)))), (38, SV.cv (CV.one (LV.pure t2 v2))), (39, SV.cv (CV.one (LV.pure t2 v3)))],
  [((1, 0), Ob.box 41 [LV.pure t2 v4, LV.pure t2 v5, LV.pure t2 v6, LV.pure t2 v7, LV.pure t2 v8, LV.pure t2 v9, LV.pure t23 v10, LV.pure t2 v11, LV.pure t2 v12, LV.pure t9 v13]), ((888888, 4), Ob.row 5 t5 v14), ((888888, 37), Ob.row 3 t2 v15)]⟩
theorem msg_Put_step1 (n m : Nat) (v2 : Int) (v3 : Int) (v4 : Int) (v5 : Int) (v6 : Int) (v7 : Int) (v8 : Int) (v9 : Int) (v10 : List Int) (v11 : Int) (v12 : Int) (v13 : ByteArray) (v14 : List Int) (v15 : List Int) : msg_Put_X1 n (m + 1) v2 v3 v4 v5 v6 v7 v8 v9 v10 v11 v12 v13 v14 v15 = msg_Put_B1 (msg_Put_X1 n m) v2 v3 v4 v5 v6 v7 v8 v9 v10 v11 v12 v13 v14 v15 := by kernel_rfl
theorem msg_Put_start (n : Nat) (m_0 : Int × Int × Int × Int × Int × Int × (List Int) × Int × Int × ByteArray) : evFn msg_Put_Γ tab msg_Put_fi n [.val t40] [⟨t43, [true], none⟩] Tryz.f86 (m_0, ()) = msg_Put_T (msg_Put_X1 n n) m_0 := by kernel_rfl
theorem msg_Put_XL1 (n : Nat) : ∀ m, msg_Put_X1 n m = msg_Put_L1 n m
 | 0 => rfl
 | m + 1 => by
  have ih := msg_Put_XL1 n m
  funext v2 v3 v4 v5 v6 v7 v8 v9 v10 v11 v12 v13 v14 v15
  rw [msg_Put_step1, ih]
  rfl
noncomputable def msg_Put_n (n : Nat) (m_0 : Int × Int × Int × Int × Int × Int × (List Int) × Int × Int × ByteArray) : Option (((List Int) × Unit) × Unit) := msg_Put_T (msg_Put_L1 n n) m_0
noncomputable def msg_Put (m_0 : Int × Int × Int × Int × Int × Int × (List Int) × Int × Int × ByteArray) : Option (((List Int) × Unit) × Unit) := msg_Put_n 1099511627776 m_0
theorem msg_Put_eq (n : Nat) (m_0 : Int × Int × Int × Int × Int × Int × (List Int) × Int × Int × ByteArray) : evFn msg_Put_Γ tab msg_Put_fi n [.val t40] [⟨t43, [true], none⟩] Tryz.f86 (m_0, ()) = msg_Put_n n m_0 := by
  rw [msg_Put_start, msg_Put_XL1 n n]
  rfl
noncomputable def msg_Put_e : Ent := ⟨[.val t40], [⟨t43, [true], none⟩], fun x => msg_Put x.1⟩
theorem msg_Put_good : Good tab.ty Tryz.prog 86 msg_Put_e := by
  refine fn_good (Γ := msg_Put_Γ) (fi := msg_Put_fi) (n := 1099511627776) follows (gcons msg_May_good (gcons bits_Put_good (gcons bits_PutText_good (gcons crc_Sum_good gnil)))) tabok Tryz.func86 (by kernel_rfl) (by kernel_rfl) (fun x r h => ?_)
  obtain ⟨m_0, _u⟩ := x
  exact (msg_Put_eq 1099511627776 m_0).trans h
noncomputable def slices_Equal_byte_Γ : Ctx := []
def slices_Equal_byte_fi : Fi := { keep := [], vty := [], vals := [], live := [(0, [0, 1]), (1, [0, 1, 10]), (2, [4]), (3, [0, 1, 12, 13]), (4, [0, 1, 12, 13, 14]), (5, [0, 1, 5, 12, 13]), (6, [0, 1, 12, 13, 24]), (7, [4]), (8, [0, 1, 12, 13]), (9, [4])] }
noncomputable def slices_Equal_byte_B1 (L1 : List Int → List Int → Int → Int → Option ((Bool × Unit) × Unit)) (v1 : List Int) (v2 : List Int) (v3 : Int) (v4 : Int) : Option ((Bool × Unit) × Unit) :=
 bif decide (v4 < v3) then
  bif decide (0 ≤ v4) && decide (v4 < (v1.length : Int)) then
   bif decide (0 ≤ v4) && decide (v4 < (v2.length : Int)) then
    bif (List.getD v1 v4.toNat 0) != (List.getD v2 v4.toNat 0) then
     some ((false, ()), ())
    else
     L1 v1 v2 v3 (IntKind.wrap .i64 (v4 + 1))
   else none
  else none
 else
  some ((true, ()), ())
noncomputable def slices_Equal_byte_T (L1 : List Int → List Int → Int → Int → Option ((Bool × Unit) × Unit)) (s1_0 : List Int) (s2_1 : List Int) : Option ((Bool × Unit) × Unit) :=
 bif (s1_0.length : Int) != (s2_1.length : Int) then
  some ((false, ()), ())
 else
  L1 s1_0 s2_1 (s1_0.length : Int) 0
noncomputable def slices_Equal_byte_L1 (n : Nat) : Nat → List Int → List Int → Int → Int → Option ((Bool × Unit) × Unit) := iter (fun _ _ _ _ => none) fun L => slices_Equal_byte_B1 L
noncomputable def slices_Equal_byte_X1 (n m : Nat) (v1 : List Int) (v2 : List Int) (v3 : Int) (v4 : Int) : Option ((Bool × Unit) × Unit) :=
 atLoop slices_Equal_byte_Γ tab (fiB [.val t43, .val t43] slices_Equal_byte_fi) n [.val t43, .val t43] [⟨t4, [false], none⟩] Tryz.f87 [1, 1, 0, 1, 0] [] [0, 1, 12, 13] m
 ⟨[(0, SV.cv (CV.one (LV.pure t43 v1))), (1, SV.cv (CV.one (LV.pure t43 v2))), (12, SV.cv (CV.one (LV.pure t2 v3))), (13, SV.cv (CV.one (LV.pure t2 v4)))],
  []⟩
theorem slices_Equal_byte_step1 (n m : Nat) (v1 : List Int) (v2 : List Int) (v3 : Int) (v4 : Int) : slices_Equal_byte_X1 n (m + 1) v1 v2 v3 v4 = slices_Equal_byte_B1 (slices_Equal_byte_X1 n m) v1 v2 v3 v4 := by kernel_rfl
theorem slices_Equal_byte_start (n : Nat) (s1_0 : List Int) (s2_1 : List Int) : evFn slices_Equal_byte_Γ tab slices_Equal_byte_fi n [.val t43, .val t43] [⟨t4, [false], none⟩] Tryz.f87 (s1_0, s2_1, ()) = slices_Equal_byte_T (slices_Equal_byte_X1 n n) s1_0 s2_1 := by kernel_rfl
theorem slices_Equal_byte_XL1 (n : Nat) : ∀ m, slices_Equal_byte_X1 n m = slices_Equal_byte_L1 n m
 | 0 => rfl
 | m + 1 => by
  have ih := slices_Equal_byte_XL1 n m
  funext v1 v2 v3 v4
  rw [slices_Equal_byte_step1, ih]
  rfl
noncomputable def slices_Equal_byte_n (n : Nat) (s1_0 : List Int) (s2_1 : List Int) : Option ((Bool × Unit) × Unit) := slices_Equal_byte_T (slices_Equal_byte_L1 n n) s1_0 s2_1
noncomputable def slices_Equal_byte (s1_0 : List Int) (s2_1 : List Int) : Option ((Bool × Unit) × Unit) := slices_Equal_byte_n 1099511627776 s1_0 s2_1
theorem slices_Equal_byte_eq (n : Nat) (s1_0 : List Int) (s2_1 : List Int) : evFn slices_Equal_byte_Γ tab slices_Equal_byte_fi n [.val t43, .val t43] [⟨t4, [false], none⟩] Tryz.f87 (s1_0, s2_1, ()) = slices_Equal_byte_n n s1_0 s2_1 := by
  rw [slices_Equal_byte_start, slices_Equal_byte_XL1 n n]
  rfl
noncomputable def slices_Equal_byte_e : Ent := ⟨[.val t43, .val t43], [⟨t4, [false], none⟩], fun x => slices_Equal_byte x.1 x.2.1⟩
theorem slices_Equal_byte_good : Good tab.ty Tryz.prog 87 slices_Equal_byte_e := by
  refine fn_good (Γ := slices_Equal_byte_Γ) (fi := slices_Equal_byte_fi) (n := 1099511627776) follows gnil tabok Tryz.func87 (by kernel_rfl) (by kernel_rfl) (fun x r h => ?_)
  obtain ⟨s1_0, s2_1, _u⟩ := x
  exact (slices_Equal_byte_eq 1099511627776 s1_0 s2_1).trans h
noncomputable def msg_Take_Γ : Ctx := [(85, msg_reader_msg_e), (86, msg_Put_e), (87, slices_Equal_byte_e)]
def msg_Take_fi : Fi := { keep := [], vty := [], vals := [], live := [(0, [0, 2, 34, 35, 38, 39, 40, 41]), (1, [0, 2, 11, 34, 35, 38, 39, 40, 41]), (2, [2, 3]), (3, [0, 2, 4, 34, 35, 38, 39, 40, 41]), (4, [0, 2, 4, 5, 34, 35, 38, 39, 40, 41]), (5, [0, 2, 5, 7, 34, 35, 38, 39, 40, 41]), (6, [0, 2, 5, 7, 8, 34, 35, 38, 39, 40, 41]), (7, [2, 5, 42]), (8, [2, 3]), (9, [2, 3])] }
noncomputable def msg_Take_raw (bothEq : Option (((Int × Int × Int × Int × Int × Int × (List Int) × Int × Int × ByteArray) × Bool × Unit) × Unit) → Option (((Int × Int × Int × Int × Int × Int × (List Int) × Int × Int × ByteArray) × Bool × Unit) × Unit) → Option (((Int × Int × Int × Int × Int × Int × (List Int) × Int × Int × ByteArray) × Bool × Unit) × Unit)) (b_0 : List Int) : Option (((Int × Int × Int × Int × Int × Int × (List Int) × Int × Int × ByteArray) × Bool × Unit) × Unit) :=
 bif decide ((b_0.length : Int) < 4) then
  some (((0, 0, 0, 0, 0, 0, [], 0, 0, (⟨#[]⟩ : ByteArray)), false, ()), ())
 else
 bif decide (0 ≤ IntKind.wrap .i64 ((b_0.length : Int) - 4)) && decide (IntKind.wrap .i64 ((b_0.length : Int) - 4) ≤ (b_0.length : Int)) then
  Option.bind (msg_reader_msg (List.drop 0 (List.take ((IntKind.wrap .i64 ((b_0.length : Int) - 4)).toNat) b_0), IV.nil)) fun (r1 : ((Int × Int × Int × Int × Int × Int × (List Int) × Int × Int × ByteArray) × Unit) × (((List Int) × IV) × Unit)) =>
  Option.bind (msg_Put r1.1.1) fun (r2 : ((List Int) × Unit) × Unit) =>
  bif IV.is r1.2.1.2 164 then
   some (((0, 0, 0, 0, 0, 0, [], 0, 0, (⟨#[]⟩ : ByteArray)), false, ()), ())
  else
  bif !(List.isEmpty r2.1.1) then
   Option.bind (slices_Equal_byte r2.1.1 b_0) fun (r3 : (Bool × Unit) × Unit) =>
   bif !r3.1.1 then
    some (((0, 0, 0, 0, 0, 0, [], 0, 0, (⟨#[]⟩ : ByteArray)), false, ()), ())
   else
    some ((r1.1.1, true, ()), ())
  else
   bothEq (
    some (((0, 0, 0, 0, 0, 0, [], 0, 0, (⟨#[]⟩ : ByteArray)), false, ()), ())) (
    Option.bind (slices_Equal_byte r2.1.1 b_0) fun (r4 : (Bool × Unit) × Unit) =>
    bif !r4.1.1 then
     some (((0, 0, 0, 0, 0, 0, [], 0, 0, (⟨#[]⟩ : ByteArray)), false, ()), ())
    else
     some ((r1.1.1, true, ()), ()))
 else none
noncomputable def msg_Take (b_0 : List Int) : Option (((Int × Int × Int × Int × Int × Int × (List Int) × Int × Int × ByteArray) × Bool × Unit) × Unit) := msg_Take_raw (@bothDec _ (@instDecidableEqProd _ _ (@instDecidableEqProd _ _ (@instDecidableEqProd _ _ inferInstance (@instDecidableEqProd _ _ inferInstance (@instDecidableEqProd _ _ inferInstance (@instDecidableEqProd _ _ inferInstance (@instDecidableEqProd _ _ inferInstance (@instDecidableEqProd _ _ inferInstance (@instDecidableEqProd _ _ inferInstance (@instDecidableEqProd _ _ inferInstance (@instDecidableEqProd _ _ inferInstance inferInstance))))))))) (@instDecidableEqProd _ _ inferInstance inferInstance)) inferInstance)) b_0
theorem msg_Take_eq0 (b_0 : List Int) : evFn msg_Take_Γ tab msg_Take_fi 1 [.val t43] [⟨t40, [false, false, false, false, false, false, true, false, false, false], none⟩, ⟨t4, [false], none⟩] Tryz.f34 (b_0, ()) = msg_Take_raw bothEq b_0 := by kernel_rfl
theorem msg_Take_eq (b_0 : List Int) : evFn msg_Take_Γ tab msg_Take_fi 1 [.val t43] [⟨t40, [false, false, false, false, false, false, true, false, false, false], none⟩, ⟨t4, [false], none⟩] Tryz.f34 (b_0, ()) = msg_Take b_0 := (msg_Take_eq0 b_0).trans (congrArg (fun b => msg_Take_raw b b_0) (@bothEq_dec _ (@instDecidableEqProd _ _ (@instDecidableEqProd _ _ (@instDecidableEqProd _ _ inferInstance (@instDecidableEqProd _ _ inferInstance (@instDecidableEqProd _ _ inferInstance (@instDecidableEqProd _ _ inferInstance (@instDecidableEqProd _ _ inferInstance (@instDecidableEqProd _ _ inferInstance (@instDecidableEqProd _ _ inferInstance (@instDecidableEqProd _ _ inferInstance (@instDecidableEqProd _ _ inferInstance inferInstance))))))))) (@instDecidableEqProd _ _ inferInstance inferInstance)) inferInstance)))
noncomputable def msg_Take_e : Ent := ⟨[.val t43], [⟨t40, [false, false, false, false, false, false, true, false, false, false], none⟩, ⟨t4, [false], none⟩], fun x => msg_Take x.1⟩
theorem msg_Take_good : Good tab.ty Tryz.prog 34 msg_Take_e := by
  refine fn_good (Γ := msg_Take_Γ) (fi := msg_Take_fi) (n := 1) follows (gcons msg_reader_msg_good (gcons msg_Put_good (gcons slices_Equal_byte_good gnil))) tabok Tryz.func34 (by kernel_rfl) (by kernel_rfl) (fun x r h => ?_)
  obtain ⟨b_0, _u⟩ := x
  exact (msg_Take_eq b_0).trans h
noncomputable def tie_of_Γ : Ctx := [(67, slices_Clone_int_e), (68, slices_Clone_Kid_e)]
def tie_of_fi : Fi := { keep := [], vty := [], vals := [], live := [(0, [1]), (1, [1]), (2, [2])] }
noncomputable def tie_of (t_0 : Int × Int × Int × Int × Int × Int × (List Int) × Int × Int × Int × Int × Int × List (Int × Int × Int)) : Option ((((Int × Int × Int × Int × Int × Int × (List Int) × Int × Int × Int × Int × Int × List (Int × Int × Int)) × List (Int × Int × Int × Int × Int × Int × (List Int) × Int × Int × ByteArray)) × Unit) × Unit) :=
 Option.bind (slices_Clone_int t_0.2.2.2.2.2.2.1) fun (r1 : ((List Int) × Unit) × Unit) =>
 Option.bind (slices_Clone_Kid t_0.2.2.2.2.2.2.2.2.2.2.2.2) fun (r2 : ((List (Int × Int × Int)) × Unit) × Unit) =>
 some ((((t_0.1, t_0.2.1, t_0.2.2.1, t_0.2.2.2.1, t_0.2.2.2.2.1, t_0.2.2.2.2.2.1, r1.1.1, t_0.2.2.2.2.2.2.2.1, t_0.2.2.2.2.2.2.2.2.1, t_0.2.2.2.2.2.2.2.2.2.1, t_0.2.2.2.2.2.2.2.2.2.2.1, t_0.2.2.2.2.2.2.2.2.2.2.2.1, r2.1.1), []), ()), ())
theorem tie_of_eq (t_0 : Int × Int × Int × Int × Int × Int × (List Int) × Int × Int × Int × Int × Int × List (Int × Int × Int)) : evFn tie_of_Γ tab tie_of_fi 1 [.val t25] [⟨t142, [false, false, false, false, false, false, false, false, false, false, false, false, false, true], some 143⟩] Tryz.f71 (t_0, ()) = tie_of t_0 := by kernel_rfl
noncomputable def tie_of_e : Ent := ⟨[.val t25], [⟨t142, [false, false, false, false, false, false, false, false, false, false, false, false, false, true], some 143⟩], fun x => tie_of x.1⟩
theorem tie_of_good : Good tab.ty Tryz.prog 71 tie_of_e := by
  refine fn_good (Γ := tie_of_Γ) (fi := tie_of_fi) (n := 1) follows (gcons slices_Clone_int_good (gcons slices_Clone_Kid_good gnil)) tabok Tryz.func71 (by kernel_rfl) (by kernel_rfl) (fun x r h => ?_)
  obtain ⟨t_0, _u⟩ := x
  exact (tie_of_eq t_0).trans h
noncomputable def slices_BinarySearchFunc_Kid_Kid_int_Γ : Ctx := []
def slices_BinarySearchFunc_Kid_Kid_int_fi : Fi := { keep := [], vty := [], vals := [], live := [(0, [0, 1, 2, 40, 41, 42, 43, 44, 45, 46, 47]), (1, [0, 1, 2, 8, 40, 41, 42, 43, 44, 45, 46, 47]), (2, [0, 1, 2, 8, 9, 10, 40, 41, 42, 43, 44, 45, 46, 47]), (3, [0, 1, 2, 8, 9, 10, 17, 40, 41, 42, 43, 44, 45, 46, 47]), (4, [0, 1, 2, 8, 9, 10, 11, 40, 41, 42, 43, 44, 45, 46, 47]), (5, [0, 1, 2, 8, 9, 10, 11, 31, 40, 41, 42, 43, 44, 45, 46, 47]), (6, [0, 1, 2, 8, 9, 10, 40, 41, 42, 43, 44, 45, 46, 47]), (7, [0, 1, 2, 8, 9, 10, 40, 41, 42, 43, 44, 45, 46, 47]), (8, [6, 7])] }
noncomputable def slices_BinarySearchFunc_Kid_Kid_int_B1 (L1 : (List (Int × Int × Int)) → Int → ((Int × Int × Int) × Int × Unit → Option (Int × Unit)) → Int → Int → Int → Option ((Int × Bool × Unit) × Unit)) (v1 : List (Int × Int × Int)) (v2 : Int) (v3 : ((Int × Int × Int) × Int × Unit → Option (Int × Unit))) (v4 : Int) (v5 : Int) (v6 : Int) : Option ((Int × Bool × Unit) × Unit) :=
 bif decide (v5 < v6) then
  bif decide (0 ≤ IntKind.wrap .i64 (Int.fdiv (IntKind.wrap .u64 (IntKind.wrap .i64 (v5 + v6))) (2 ^ 1))) && decide (IntKind.wrap .i64 (Int.fdiv (IntKind.wrap .u64 (IntKind.wrap .i64 (v5 + v6))) (2 ^ 1)) < (v1.length : Int)) then
   Option.bind (v3 (((List.getD v1 ((IntKind.wrap .i64 (Int.fdiv (IntKind.wrap .u64 (IntKind.wrap .i64 (v5 + v6))) (2 ^ 1))).toNat) (0, 0, 0)).1, ((List.getD v1 ((IntKind.wrap .i64 (Int.fdiv (IntKind.wrap .u64 (IntKind.wrap .i64 (v5 + v6))) (2 ^ 1))).toNat) (0, 0, 0)).2)), v2, ())) fun (r7 : Int × Unit) =>
   bif decide (r7.1 < 0) then
    L1 v1 v2 v3 v4 (IntKind.wrap .i64 ((IntKind.wrap .i64 (Int.fdiv (IntKind.wrap .u64 (IntKind.wrap .i64 (v5 + v6))) (2 ^ 1))) + 1)) v6
   else
    L1 v1 v2 v3 v4 v5 (IntKind.wrap .i64 (Int.fdiv (IntKind.wrap .u64 (IntKind.wrap .i64 (v5 + v6))) (2 ^ 1)))
  else none
 else
 bif decide (v5 < v4) then
  bif decide (0 ≤ v5) && decide (v5 < (v1.length : Int)) then
   Option.bind (v3 (((List.getD v1 v5.toNat (0, 0, 0)).1, ((List.getD v1 v5.toNat (0, 0, 0)).2)), v2, ())) fun (r8 : Int × Unit) =>
   some ((v5, r8.1 == 0, ()), ())
  else none
 else
  some ((v5, false, ()), ())
noncomputable def slices_BinarySearchFunc_Kid_Kid_int_T (L1 : (List (Int × Int × Int)) → Int → ((Int × Int × Int) × Int × Unit → Option (Int × Unit)) → Int → Int → Int → Option ((Int × Bool × Unit) × Unit)) (x_0 : List (Int × Int × Int)) (target_1 : Int) (cmp_2 : ((Int × Int × Int) × Int × Unit → Option (Int × Unit))) : Option ((Int × Bool × Unit) × Unit) :=
 L1 x_0 target_1 cmp_2 (x_0.length : Int) 0 (x_0.length : Int)
noncomputable def slices_BinarySearchFunc_Kid_Kid_int_L1 (n : Nat) : Nat → (List (Int × Int × Int)) → Int → ((Int × Int × Int) × Int × Unit → Option (Int × Unit)) → Int → Int → Int → Option ((Int × Bool × Unit) × Unit) := iter (fun _ _ _ _ _ _ => none) fun L => slices_BinarySearchFunc_Kid_Kid_int_B1 L
noncomputable def slices_BinarySearchFunc_Kid_Kid_int_X1 (n m : Nat) (v1 : List (Int × Int × Int)) (v2 : Int) (v3 : ((Int × Int × Int) × Int × Unit → Option (Int × Unit))) (v4 : Int) (v5 : Int) (v6 : Int) : Option ((Int × Bool × Unit) × Unit) :=
 atLoop slices_BinarySearchFunc_Kid_Kid_int_Γ tab (fiB [.val t24, .val t2, .fn [t126, t2] [t2]] slices_BinarySearchFunc_Kid_Kid_int_fi) n [.val t24, .val t2, .fn [t126, t2] [t2]] [⟨t2, [false], none⟩, ⟨t4, [false], none⟩] Tryz.f249 [1, 1, 1, 0, 0] [] [0, 1, 2, 8, 9, 10] m
 ⟨[(0, SV.cv (CV.one (LV.pure t24 v1))), (1, SV.cv (CV.one (LV.pure t2 v2))), (2, SV.cv (CV.one (LV.clo [t126, t2] [t2] v3))), (8, SV.cv (CV.one (LV.pure t2 v4))), (9, SV.cv (CV.one (LV.pure t2 v5))), (10, SV.cv (CV.one (LV.pure t2 v6)))],
  []⟩
theorem slices_BinarySearchFunc_Kid_Kid_int_step1 (n m : Nat) (v1 : List (Int × Int × Int)) (v2 : Int) (v3 : ((Int × Int × Int) × Int × Unit → Option (Int × Unit))) (v4 : Int) (v5 : Int) (v6 : Int) : slices_BinarySearchFunc_Kid_Kid_int_X1 n (m + 1) v1 v2 v3 v4 v5 v6 = slices_BinarySearchFunc_Kid_Kid_int_B1 (slices_BinarySearchFunc_Kid_Kid_int_X1 n m) v1 v2 v3 v4 v5 v6 := by kernel_rfl
theorem slices_BinarySearchFunc_Kid_Kid_int_start (n : Nat) (x_0 : List (Int × Int × Int)) (target_1 : Int) (cmp_2 : ((Int × Int × Int) × Int × Unit → Option (Int × Unit))) : evFn slices_BinarySearchFunc_Kid_Kid_int_Γ tab slices_BinarySearchFunc_Kid_Kid_int_fi n [.val t24, .val t2, .fn [t126, t2] [t2]] [⟨t2, [false], none⟩, ⟨t4, [false], none⟩] Tryz.f249 (x_0, target_1, cmp_2, ()) = slices_BinarySearchFunc_Kid_Kid_int_T (slices_BinarySearchFunc_Kid_Kid_int_X1 n n) x_0 target_1 cmp_2 := by kernel_rfl
theorem slices_BinarySearchFunc_Kid_Kid_int_XL1 (n : Nat) : ∀ m, slices_BinarySearchFunc_Kid_Kid_int_X1 n m = slices_BinarySearchFunc_Kid_Kid_int_L1 n m
 | 0 => rfl
 | m + 1 => by
  have ih := slices_BinarySearchFunc_Kid_Kid_int_XL1 n m
  funext v1 v2 v3 v4 v5 v6
  rw [slices_BinarySearchFunc_Kid_Kid_int_step1, ih]
  rfl
noncomputable def slices_BinarySearchFunc_Kid_Kid_int_n (n : Nat) (x_0 : List (Int × Int × Int)) (target_1 : Int) (cmp_2 : ((Int × Int × Int) × Int × Unit → Option (Int × Unit))) : Option ((Int × Bool × Unit) × Unit) := slices_BinarySearchFunc_Kid_Kid_int_T (slices_BinarySearchFunc_Kid_Kid_int_L1 n n) x_0 target_1 cmp_2
noncomputable def slices_BinarySearchFunc_Kid_Kid_int (x_0 : List (Int × Int × Int)) (target_1 : Int) (cmp_2 : ((Int × Int × Int) × Int × Unit → Option (Int × Unit))) : Option ((Int × Bool × Unit) × Unit) := slices_BinarySearchFunc_Kid_Kid_int_n 1099511627776 x_0 target_1 cmp_2
theorem slices_BinarySearchFunc_Kid_Kid_int_eq (n : Nat) (x_0 : List (Int × Int × Int)) (target_1 : Int) (cmp_2 : ((Int × Int × Int) × Int × Unit → Option (Int × Unit))) : evFn slices_BinarySearchFunc_Kid_Kid_int_Γ tab slices_BinarySearchFunc_Kid_Kid_int_fi n [.val t24, .val t2, .fn [t126, t2] [t2]] [⟨t2, [false], none⟩, ⟨t4, [false], none⟩] Tryz.f249 (x_0, target_1, cmp_2, ()) = slices_BinarySearchFunc_Kid_Kid_int_n n x_0 target_1 cmp_2 := by
  rw [slices_BinarySearchFunc_Kid_Kid_int_start, slices_BinarySearchFunc_Kid_Kid_int_XL1 n n]
  rfl
noncomputable def slices_BinarySearchFunc_Kid_Kid_int_e : Ent := ⟨[.val t24, .val t2, .fn [t126, t2] [t2]], [⟨t2, [false], none⟩, ⟨t4, [false], none⟩], fun x => slices_BinarySearchFunc_Kid_Kid_int x.1 x.2.1 x.2.2.1⟩
theorem slices_BinarySearchFunc_Kid_Kid_int_good : Good tab.ty Tryz.prog 249 slices_BinarySearchFunc_Kid_Kid_int_e := by
  refine fn_good (Γ := slices_BinarySearchFunc_Kid_Kid_int_Γ) (fi := slices_BinarySearchFunc_Kid_Kid_int_fi) (n := 1099511627776) follows gnil tabok Tryz.func249 (by kernel_rfl) (by kernel_rfl) (fun x r h => ?_)
  obtain ⟨x_0, target_1, cmp_2, _u⟩ := x
  exact (slices_BinarySearchFunc_Kid_Kid_int_eq 1099511627776 x_0 target_1 cmp_2).trans h
noncomputable def cmp_isNaN_int_Γ : Ctx := []
def cmp_isNaN_int_fi : Fi := { keep := [], vty := [], vals := [], live := [(0, [0]), (1, [2])] }
noncomputable def cmp_isNaN_int (x_0 : Int) : Option ((Bool × Unit) × Unit) :=
 some ((x_0 != x_0, ()), ())
theorem cmp_isNaN_int_eq (x_0 : Int) : evFn cmp_isNaN_int_Γ tab cmp_isNaN_int_fi 1 [.val t2] [⟨t4, [false], none⟩] Tryz.f306 (x_0, ()) = cmp_isNaN_int x_0 := by kernel_rfl
noncomputable def cmp_isNaN_int_e : Ent := ⟨[.val t2], [⟨t4, [false], none⟩], fun x => cmp_isNaN_int x.1⟩
theorem cmp_isNaN_int_good : Good tab.ty Tryz.prog 306 cmp_isNaN_int_e := by
  refine fn_good (Γ := cmp_isNaN_int_Γ) (fi := cmp_isNaN_int_fi) (n := 1) follows gnil tabok Tryz.func306 (by kernel_rfl) (by kernel_rfl) (fun x r h => ?_)
  obtain ⟨x_0, _u⟩ := x
  exact (cmp_isNaN_int_eq x_0).trans h
noncomputable def cmp_Compare_int_Γ : Ctx := [(306, cmp_isNaN_int_e)]
def cmp_Compare_int_fi : Fi := { keep := [], vty := [], vals := [], live := [(0, [0, 1]), (1, [0, 1, 5]), (2, [0, 1, 5, 6]), (3, [0, 1, 6, 11]), (4, [12]), (5, [4]), (6, [4]), (7, [0, 1, 13]), (8, [4]), (9, [0, 1, 16]), (10, [4]), (11, [19]), (12, [4]), (13, [4])] }
noncomputable def cmp_Compare_int (x_0 : Int) (y_1 : Int) : Option ((Int × Unit) × Unit) :=
 Option.bind (cmp_isNaN_int x_0) fun (r1 : (Bool × Unit) × Unit) =>
 Option.bind (cmp_isNaN_int y_1) fun (r2 : (Bool × Unit) × Unit) =>
 bif r1.1.1 then
  bif r2.1.1 then
   some ((0, ()), ())
  else
   some (((-1), ()), ())
 else
 bif r2.1.1 then
  some ((1, ()), ())
 else
 bif decide (x_0 < y_1) then
  some (((-1), ()), ())
 else
 bif decide (x_0 > y_1) then
  some ((1, ()), ())
 else
  some ((0, ()), ())
theorem cmp_Compare_int_eq (x_0 : Int) (y_1 : Int) : evFn cmp_Compare_int_Γ tab cmp_Compare_int_fi 1 [.val t2, .val t2] [⟨t2, [false], none⟩] Tryz.f251 (x_0, y_1, ()) = cmp_Compare_int x_0 y_1 := by kernel_rfl
noncomputable def cmp_Compare_int_e : Ent := ⟨[.val t2, .val t2], [⟨t2, [false], none⟩], fun x => cmp_Compare_int x.1 x.2.1⟩
theorem cmp_Compare_int_good : Good tab.ty Tryz.prog 251 cmp_Compare_int_e := by
  refine fn_good (Γ := cmp_Compare_int_Γ) (fi := cmp_Compare_int_fi) (n := 1) follows (gcons cmp_isNaN_int_good gnil) tabok Tryz.func251 (by kernel_rfl) (by kernel_rfl) (fun x r h => ?_)
  obtain ⟨x_0, y_1, _u⟩ := x
  exact (cmp_Compare_int_eq x_0 y_1).trans h
noncomputable def kids_place_fn1_Γ : Ctx := [(251, cmp_Compare_int_e)]
def kids_place_fn1_fi : Fi := { keep := [], vty := [], vals := [], live := [(0, [1, 2]), (1, [4])] }
noncomputable def kids_place_fn1 (k_0 : Int × Int × Int) (id_1 : Int) : Option ((Int × Unit) × Unit) :=
 Option.bind (cmp_Compare_int k_0.1 id_1) fun (r1 : (Int × Unit) × Unit) =>
 some ((r1.1.1, ()), ())
theorem kids_place_fn1_eq (k_0 : Int × Int × Int) (id_1 : Int) : evFn kids_place_fn1_Γ tab kids_place_fn1_fi 1 [.val t126, .val t2] [⟨t2, [false], none⟩] Tryz.f250 (k_0, id_1, ()) = kids_place_fn1 k_0 id_1 := by kernel_rfl
noncomputable def kids_place_fn1_e : Ent := ⟨[.val t126, .val t2], [⟨t2, [false], none⟩], fun x => kids_place_fn1 x.1 x.2.1⟩
theorem kids_place_fn1_good : Good tab.ty Tryz.prog 250 kids_place_fn1_e := by
  refine fn_good (Γ := kids_place_fn1_Γ) (fi := kids_place_fn1_fi) (n := 1) follows (gcons cmp_Compare_int_good gnil) tabok Tryz.func250 (by kernel_rfl) (by kernel_rfl) (fun x r h => ?_)
  obtain ⟨k_0, id_1, _u⟩ := x
  exact (kids_place_fn1_eq k_0 id_1).trans h
noncomputable def kids_place_Γ : Ctx := [(249, slices_BinarySearchFunc_Kid_Kid_int_e), (250, kids_place_fn1_e)]
def kids_place_fi : Fi := { keep := [], vty := [], vals := [], live := [(0, [0, 1]), (1, [4, 5])] }
noncomputable def kids_place (l_0 : List (Int × Int × Int)) (id_1 : Int) : Option ((Int × Bool × Unit) × Unit) :=
 Option.bind (slices_BinarySearchFunc_Kid_Kid_int l_0 id_1 (fun x => (kids_place_fn1 x.1 x.2.1).bind fun r => some (r.1.1, ()))) fun (r1 : (Int × Bool × Unit) × Unit) =>
 some ((r1.1.1, r1.1.2.1, ()), ())
theorem kids_place_eq (l_0 : List (Int × Int × Int)) (id_1 : Int) : evFn kids_place_Γ tab kids_place_fi 1 [.val t24, .val t2] [⟨t2, [false], none⟩, ⟨t4, [false], none⟩] Tryz.f180 (l_0, id_1, ()) = kids_place l_0 id_1 := by kernel_rfl
noncomputable def kids_place_e : Ent := ⟨[.val t24, .val t2], [⟨t2, [false], none⟩, ⟨t4, [false], none⟩], fun x => kids_place x.1 x.2.1⟩
theorem kids_place_good : Good tab.ty Tryz.prog 180 kids_place_e := by
  refine fn_good (Γ := kids_place_Γ) (fi := kids_place_fi) (n := 1) follows (gcons slices_BinarySearchFunc_Kid_Kid_int_good (gcons kids_place_fn1_good gnil)) tabok Tryz.func180 (by kernel_rfl) (by kernel_rfl) (fun x r h => ?_)
  obtain ⟨l_0, id_1, _u⟩ := x
  exact (kids_place_eq l_0 id_1).trans h
noncomputable def kids_Find_Γ : Ctx := [(180, kids_place_e)]
def kids_Find_fi : Fi := { keep := [], vty := [], vals := [], live := [(0, [0, 1, 4]), (1, [0, 4, 6, 7]), (2, [0, 4, 6, 15]), (3, [4, 5]), (4, [4, 5])] }
noncomputable def kids_Find (l_0 : List (Int × Int × Int)) (id_1 : Int) : Option (((Int × Int × Int) × Bool × Unit) × Unit) :=
 Option.bind (kids_place l_0 id_1) fun (r1 : (Int × Bool × Unit) × Unit) =>
 bif !r1.1.2.1 then
  some (((0, 0, 0), false, ()), ())
 else
 bif decide (0 ≤ r1.1.1) && decide (r1.1.1 < (l_0.length : Int)) then
  some ((((List.getD l_0 r1.1.1.toNat (0, 0, 0)).1, ((List.getD l_0 r1.1.1.toNat (0, 0, 0)).2)), true, ()), ())
 else none
theorem kids_Find_eq (l_0 : List (Int × Int × Int)) (id_1 : Int) : evFn kids_Find_Γ tab kids_Find_fi 1 [.val t24, .val t2] [⟨t126, [false, false, false], none⟩, ⟨t4, [false], none⟩] Tryz.f95 (l_0, id_1, ()) = kids_Find l_0 id_1 := by kernel_rfl
noncomputable def kids_Find_e : Ent := ⟨[.val t24, .val t2], [⟨t126, [false, false, false], none⟩, ⟨t4, [false], none⟩], fun x => kids_Find x.1 x.2.1⟩
theorem kids_Find_good : Good tab.ty Tryz.prog 95 kids_Find_e := by
  refine fn_good (Γ := kids_Find_Γ) (fi := kids_Find_fi) (n := 1) follows (gcons kids_place_good gnil) tabok Tryz.func95 (by kernel_rfl) (by kernel_rfl) (fun x r h => ?_)
  obtain ⟨l_0, id_1, _u⟩ := x
  exact (kids_Find_eq l_0 id_1).trans h
noncomputable def kids_Old_Γ : Ctx := [(95, kids_Find_e)]
def kids_Old_fi : Fi := { keep := [], vty := [], vals := [], live := [(0, [0, 1, 2, 17, 18, 19, 20]), (1, [2, 7, 8, 17, 18, 19, 20]), (2, [6])] }
noncomputable def kids_Old (l_0 : List (Int × Int × Int)) (id_1 : Int) (inc_2 : Int) : Option ((Bool × Unit) × Unit) :=
 Option.bind (kids_Find l_0 id_1) fun (r1 : ((Int × Int × Int) × Bool × Unit) × Unit) =>
 bif r1.1.2.1 then
  some ((decide (r1.1.1.2.1 > inc_2), ()), ())
 else
  some ((false, ()), ())
theorem kids_Old_eq (l_0 : List (Int × Int × Int)) (id_1 : Int) (inc_2 : Int) : evFn kids_Old_Γ tab kids_Old_fi 1 [.val t24, .val t2, .val t2] [⟨t4, [false], none⟩] Tryz.f88 (l_0, id_1, inc_2, ()) = kids_Old l_0 id_1 inc_2 := by kernel_rfl
noncomputable def kids_Old_e : Ent := ⟨[.val t24, .val t2, .val t2], [⟨t4, [false], none⟩], fun x => kids_Old x.1 x.2.1 x.2.2.1⟩
theorem kids_Old_good : Good tab.ty Tryz.prog 88 kids_Old_e := by
  refine fn_good (Γ := kids_Old_Γ) (fi := kids_Old_fi) (n := 1) follows (gcons kids_Find_good gnil) tabok Tryz.func88 (by kernel_rfl) (by kernel_rfl) (fun x r h => ?_)
  obtain ⟨l_0, id_1, inc_2, _u⟩ := x
  exact (kids_Old_eq l_0 id_1 inc_2).trans h
noncomputable def tie_node_lets_Γ : Ctx := []
def tie_node_lets_fi : Fi := { keep := [], vty := [], vals := [], live := [(0, [0])] }
noncomputable def tie_node_lets (n_0 : (Int × Int × Int × Int × Int × Int × (List Int) × Int × Int × Int × Int × Int × List (Int × Int × Int)) × List (Int × Int × Int × Int × Int × Int × (List Int) × Int × Int × ByteArray)) (step_1 : Int) : Option (Unit × (((Int × Int × Int × Int × Int × Int × (List Int) × Int × Int × Int × Int × Int × List (Int × Int × Int)) × List (Int × Int × Int × Int × Int × Int × (List Int) × Int × Int × ByteArray)) × Unit)) :=
 some ((), (((n_0.1.1, n_0.1.2.1, n_0.1.2.2.1, 0, 0, n_0.1.2.2.2.2.2.1, [], n_0.1.2.2.2.2.2.2.2.1, n_0.1.2.2.2.2.2.2.2.2.1, 0, n_0.1.2.2.2.2.2.2.2.2.2.2.1, step_1, n_0.1.2.2.2.2.2.2.2.2.2.2.2.2), n_0.2), ()))
theorem tie_node_lets_eq (n_0 : (Int × Int × Int × Int × Int × Int × (List Int) × Int × Int × Int × Int × Int × List (Int × Int × Int)) × List (Int × Int × Int × Int × Int × Int × (List Int) × Int × Int × ByteArray)) (step_1 : Int) : evFn tie_node_lets_Γ tab tie_node_lets_fi 1 [.box 143 t142 [false, false, false, false, false, false, false, false, false, false, false, false, false, true], .val t2] [] Tryz.f74 (n_0, step_1, ()) = tie_node_lets n_0 step_1 := by kernel_rfl
noncomputable def tie_node_lets_e : Ent := ⟨[.box 143 t142 [false, false, false, false, false, false, false, false, false, false, false, false, false, true], .val t2], [], fun x => tie_node_lets x.1 x.2.1⟩
theorem tie_node_lets_good : Good tab.ty Tryz.prog 74 tie_node_lets_e := by
  refine fn_good (Γ := tie_node_lets_Γ) (fi := tie_node_lets_fi) (n := 1) follows gnil tabok Tryz.func74 (by kernel_rfl) (by kernel_rfl) (fun x r h => ?_)
  obtain ⟨n_0, step_1, _u⟩ := x
  exact (tie_node_lets_eq n_0 step_1).trans h
noncomputable def tie_Fresh_Γ : Ctx := []
def tie_Fresh_fi : Fi := { keep := [], vty := [], vals := [], live := [(0, [1, 7, 8, 9, 10, 11, 12, 13, 14, 15, 16, 17]), (1, [2])] }
noncomputable def tie_Fresh (t_0 : Int × Int × Int × Int × Int × Int × (List Int) × Int × Int × Int × Int × Int × List (Int × Int × Int)) : Option ((Bool × Unit) × Unit) :=
 bif t_0.1 == 1 then
  some ((true, ()), ())
 else
 bif t_0.2.2.2.1 != 0 then
  some ((decide (IntKind.wrap .i64 (t_0.2.2.1 - t_0.2.2.2.2.2.2.2.2.1) ≤ 20), ()), ())
 else
  some ((false, ()), ())
theorem tie_Fresh_eq (t_0 : Int × Int × Int × Int × Int × Int × (List Int) × Int × Int × Int × Int × Int × List (Int × Int × Int)) : evFn tie_Fresh_Γ tab tie_Fresh_fi 1 [.val t25] [⟨t4, [false], none⟩] Tryz.f73 (t_0, ()) = tie_Fresh t_0 := by kernel_rfl
noncomputable def tie_Fresh_e : Ent := ⟨[.val t25], [⟨t4, [false], none⟩], fun x => tie_Fresh x.1⟩
theorem tie_Fresh_good : Good tab.ty Tryz.prog 73 tie_Fresh_e := by
  refine fn_good (Γ := tie_Fresh_Γ) (fi := tie_Fresh_fi) (n := 1) follows gnil tabok Tryz.func73 (by kernel_rfl) (by kernel_rfl) (fun x r h => ?_)
  obtain ⟨t_0, _u⟩ := x
  exact (tie_Fresh_eq t_0).trans h
noncomputable def path_Has_Γ : Ctx := [(194, slices_Contains_int_e)]
def path_Has_fi : Fi := { keep := [], vty := [], vals := [], live := [(0, [0, 1]), (1, [4])] }
noncomputable def path_Has (p_0 : List Int) (id_1 : Int) : Option ((Bool × Unit) × Unit) :=
 Option.bind (slices_Contains_int p_0 id_1) fun (r1 : (Bool × Unit) × Unit) =>
 some ((r1.1.1, ()), ())
theorem path_Has_eq (p_0 : List Int) (id_1 : Int) : evFn path_Has_Γ tab path_Has_fi 1 [.val t23, .val t2] [⟨t4, [false], none⟩] Tryz.f246 (p_0, id_1, ()) = path_Has p_0 id_1 := by kernel_rfl
noncomputable def path_Has_e : Ent := ⟨[.val t23, .val t2], [⟨t4, [false], none⟩], fun x => path_Has x.1 x.2.1⟩
theorem path_Has_good : Good tab.ty Tryz.prog 246 path_Has_e := by
  refine fn_good (Γ := path_Has_Γ) (fi := path_Has_fi) (n := 1) follows (gcons slices_Contains_int_good gnil) tabok Tryz.func246 (by kernel_rfl) (by kernel_rfl) (fun x r h => ?_)
  obtain ⟨p_0, id_1, _u⟩ := x
  exact (path_Has_eq p_0 id_1).trans h
noncomputable def tie_node_room_Γ : Ctx := [(73, tie_Fresh_e), (95, kids_Find_e), (246, path_Has_e)]
def tie_node_room_fi : Fi := { keep := [], vty := [], vals := [], live := [(0, [0, 1, 30, 31, 32, 33, 34, 35, 36, 37, 40, 41, 42, 43, 44, 45, 46, 47, 48, 49, 50]), (1, [0, 1, 5, 30, 31, 32, 33, 34, 35, 36, 37, 40, 41, 42, 43, 44, 45, 46, 47, 48, 49, 50]), (2, [0, 1, 5, 13, 30, 31, 32, 33, 34, 35, 36, 37, 40, 41, 42, 43, 44, 45, 46, 47, 48, 49, 50]), (3, [0, 1, 5, 30, 31, 32, 33, 34, 35, 36, 37, 40, 41, 42, 43, 44, 45, 46, 47, 48, 49, 50]), (4, [0, 1, 5, 7, 30, 31, 32, 33, 34, 35, 36, 37, 40, 41, 42, 43, 44, 45, 46, 47, 48, 49, 50]), (5, [0, 4])] }
noncomputable def tie_node_room (n_0 : (Int × Int × Int × Int × Int × Int × (List Int) × Int × Int × Int × Int × Int × List (Int × Int × Int)) × List (Int × Int × Int × Int × Int × Int × (List Int) × Int × Int × ByteArray)) (id_1 : Int) : Option ((Bool × Unit) × (((Int × Int × Int × Int × Int × Int × (List Int) × Int × Int × Int × Int × Int × List (Int × Int × Int)) × List (Int × Int × Int × Int × Int × Int × (List Int) × Int × Int × ByteArray)) × Unit)) :=
 bif n_0.1.1 == 1 then
  Option.bind (kids_Find n_0.1.2.2.2.2.2.2.2.2.2.2.2.2 id_1) fun (r1 : ((Int × Int × Int) × Bool × Unit) × Unit) =>
  Option.bind (tie_Fresh n_0.1) fun (r2 : (Bool × Unit) × Unit) =>
  bif r2.1.1 then
   Option.bind (path_Has n_0.1.2.2.2.2.2.2.1 id_1) fun (r3 : (Bool × Unit) × Unit) =>
   bif !r3.1.1 then
    bif r1.1.2.1 then
     some ((true, ()), (n_0, ()))
    else
     some ((decide ((n_0.1.2.2.2.2.2.2.2.2.2.2.2.2.length : Int) < 8), ()), (n_0, ()))
   else
    some ((false, ()), (n_0, ()))
  else
   some ((false, ()), (n_0, ()))
 else
  Option.bind (kids_Find n_0.1.2.2.2.2.2.2.2.2.2.2.2.2 id_1) fun (r4 : ((Int × Int × Int) × Bool × Unit) × Unit) =>
  Option.bind (tie_Fresh n_0.1) fun (r5 : (Bool × Unit) × Unit) =>
  bif r5.1.1 then
   Option.bind (path_Has n_0.1.2.2.2.2.2.2.1 id_1) fun (r6 : (Bool × Unit) × Unit) =>
   bif !r6.1.1 then
    bif r4.1.2.1 then
     some ((true, ()), (n_0, ()))
    else
     some ((decide ((n_0.1.2.2.2.2.2.2.2.2.2.2.2.2.length : Int) < 3), ()), (n_0, ()))
   else
    some ((false, ()), (n_0, ()))
  else
   some ((false, ()), (n_0, ()))
theorem tie_node_room_eq (n_0 : (Int × Int × Int × Int × Int × Int × (List Int) × Int × Int × Int × Int × Int × List (Int × Int × Int)) × List (Int × Int × Int × Int × Int × Int × (List Int) × Int × Int × ByteArray)) (id_1 : Int) : evFn tie_node_room_Γ tab tie_node_room_fi 1 [.box 143 t142 [false, false, false, false, false, false, false, false, false, false, false, false, false, true], .val t2] [⟨t4, [false], none⟩] Tryz.f176 (n_0, id_1, ()) = tie_node_room n_0 id_1 := by kernel_rfl
noncomputable def tie_node_room_e : Ent := ⟨[.box 143 t142 [false, false, false, false, false, false, false, false, false, false, false, false, false, true], .val t2], [⟨t4, [false], none⟩], fun x => tie_node_room x.1 x.2.1⟩
theorem tie_node_room_good : Good tab.ty Tryz.prog 176 tie_node_room_e := by
  refine fn_good (Γ := tie_node_room_Γ) (fi := tie_node_room_fi) (n := 1) follows (gcons tie_Fresh_good (gcons kids_Find_good (gcons path_Has_good gnil))) tabok Tryz.func176 (by kernel_rfl) (by kernel_rfl) (fun x r h => ?_)
  obtain ⟨n_0, id_1, _u⟩ := x
  exact (tie_node_room_eq n_0 id_1).trans h
noncomputable def tie_node_tells_Γ : Ctx := [(67, slices_Clone_int_e)]
def tie_node_tells_fi : Fi := { keep := [], vty := [], vals := [], live := [(0, [0, 1, 8, 26, 27]), (1, [0, 8, 28]), (2, [0, 8]), (3, [0])] }
noncomputable def tie_node_tells (n_0 : (Int × Int × Int × Int × Int × Int × (List Int) × Int × Int × Int × Int × Int × List (Int × Int × Int)) × List (Int × Int × Int × Int × Int × Int × (List Int) × Int × Int × ByteArray)) (kind_1 : Int) (to_2 : Int) (lo_3 : Int) : Option (Unit × (((Int × Int × Int × Int × Int × Int × (List Int) × Int × Int × Int × Int × Int × List (Int × Int × Int)) × List (Int × Int × Int × Int × Int × Int × (List Int) × Int × Int × ByteArray)) × Unit)) :=
 bif kind_1 == 2 then
  Option.bind (slices_Clone_int n_0.1.2.2.2.2.2.2.1) fun (r1 : ((List Int) × Unit) × Unit) =>
  bif Nat.ble (n_0.2.length + 1) 1073741824 then
   some ((), ((n_0.1, n_0.2 ++ [(kind_1, n_0.1.1, to_2, n_0.1.2.1, n_0.1.2.2.2.2.2.2.2.1, IntKind.wrap .i64 (n_0.1.2.2.1 - n_0.1.2.2.2.2.2.2.2.2.1), r1.1.1, lo_3, 0, (⟨#[]⟩ : ByteArray))]), ()))
  else none
 else
 bif kind_1 == 5 then
  Option.bind (slices_Clone_int n_0.1.2.2.2.2.2.2.1) fun (r2 : ((List Int) × Unit) × Unit) =>
  bif Nat.ble (n_0.2.length + 1) 1073741824 then
   some ((), ((n_0.1, n_0.2 ++ [(kind_1, n_0.1.1, to_2, n_0.1.2.1, n_0.1.2.2.2.2.2.2.2.1, IntKind.wrap .i64 (n_0.1.2.2.1 - n_0.1.2.2.2.2.2.2.2.2.1), r2.1.1, lo_3, 0, (⟨#[]⟩ : ByteArray))]), ()))
  else none
 else
 bif Nat.ble (n_0.2.length + 1) 1073741824 then
  some ((), ((n_0.1, n_0.2 ++ [(kind_1, n_0.1.1, to_2, n_0.1.2.1, 0, 0, [], lo_3, 0, (⟨#[]⟩ : ByteArray))]), ()))
 else none
theorem tie_node_tells_eq (n_0 : (Int × Int × Int × Int × Int × Int × (List Int) × Int × Int × Int × Int × Int × List (Int × Int × Int)) × List (Int × Int × Int × Int × Int × Int × (List Int) × Int × Int × ByteArray)) (kind_1 : Int) (to_2 : Int) (lo_3 : Int) : evFn tie_node_tells_Γ tab tie_node_tells_fi 1 [.box 143 t142 [false, false, false, false, false, false, false, false, false, false, false, false, false, true], .val t2, .val t2, .val t2] [] Tryz.f163 (n_0, kind_1, to_2, lo_3, ()) = tie_node_tells n_0 kind_1 to_2 lo_3 := by kernel_rfl
noncomputable def tie_node_tells_e : Ent := ⟨[.box 143 t142 [false, false, false, false, false, false, false, false, false, false, false, false, false, true], .val t2, .val t2, .val t2], [], fun x => tie_node_tells x.1 x.2.1 x.2.2.1 x.2.2.2.1⟩
theorem tie_node_tells_good : Good tab.ty Tryz.prog 163 tie_node_tells_e := by
  refine fn_good (Γ := tie_node_tells_Γ) (fi := tie_node_tells_fi) (n := 1) follows (gcons slices_Clone_int_good gnil) tabok Tryz.func163 (by kernel_rfl) (by kernel_rfl) (fun x r h => ?_)
  obtain ⟨n_0, kind_1, to_2, lo_3, _u⟩ := x
  exact (tie_node_tells_eq n_0 kind_1 to_2 lo_3).trans h
noncomputable def slices_Insert_Kid_Γ : Ctx := [(305, markE)]
def slices_Insert_Kid_fi : Fi := { keep := [], vty := [], vals := [], live := [(0, [0, 1, 2]), (1, [0, 1, 2]), (2, [0, 1, 2, 7]), (3, [0, 1, 2, 7, 16]), (4, [6]), (5, [0, 1, 2, 7, 8]), (6, [0, 1, 2, 7, 8, 22]), (7, [6]), (8, [0, 1, 2, 7, 8, 31]), (9, [0, 1, 2, 7, 9]), (10, [0, 1, 7, 9]), (11, [9]), (12, [6]), (13, [0, 1, 2, 7, 8]), (14, [0, 1, 2, 7, 8, 68]), (15, [0, 1, 2]), (16, [0]), (17, [6]), (18, [0, 1, 7]), (19, [0]), (20, [6])] }
noncomputable def slices_Insert_Kid_c (c : Nat) (s_0 : List (Int × Int × Int)) (i_1 : Int) (v_2 : List (Int × Int × Int)) : Option (((List (Int × Int × Int)) × Unit) × Unit) :=
 bif (decide (0 ≤ i_1) && decide (i_1 ≤ ((s_0.length : Nat) : Int))) && decide (((s_0.length : Nat) : Int) ≤ ((((List.map some s_0 ++ List.replicate c none).length) - 0 : Nat) : Int)) then
  bif (v_2.length : Int) == 0 then
   bif Nat.ble s_0.length ((List.map some s_0 ++ List.replicate c none).length) then
    Option.bind (allSome (List.take s_0.length (List.map some s_0 ++ List.replicate c none))) fun (z1 : List (Int × Int × Int)) =>
    some ((z1, ()), ())
   else none
  else
  bif i_1 == ((s_0.length : Nat) : Int) then
   bif Nat.ble (0 + s_0.length) ((List.map some s_0 ++ List.replicate c none).length) then
    bif Nat.ble (s_0.length + v_2.length) ((List.map some s_0 ++ List.replicate c none).length) then
     bif Nat.ble (s_0.length + v_2.length) ((writeAt (List.map some s_0 ++ List.replicate c none) s_0.length v_2).length) then
      Option.bind (allSome (List.take (s_0.length + v_2.length) (writeAt (List.map some s_0 ++ List.replicate c none) s_0.length v_2))) fun (z2 : List (Int × Int × Int)) =>
      some ((z2, ()), ())
     else none
    else
    bif Nat.ble (s_0.length + v_2.length) 1073741824 then
     Option.bind (allSome (List.take s_0.length (List.map some s_0 ++ List.replicate c none))) fun (z3 : List (Int × Int × Int)) =>
     some ((z3 ++ v_2, ()), ())
    else none
   else none
  else
  bif Nat.ble (0 + s_0.length) ((List.map some s_0 ++ List.replicate c none).length) then
   bif decide (IntKind.wrap .i64 (((s_0.length : Nat) : Int) + (v_2.length : Int)) > ((((List.map some s_0 ++ List.replicate c none).length) - 0 : Nat) : Int)) then
    bif decide (0 ≤ i_1) && decide (i_1 ≤ ((((List.map some s_0 ++ List.replicate c none).length) - 0 : Nat) : Int)) then
     bif Nat.ble (0 + ((i_1 - 0).toNat)) ((List.map some s_0 ++ List.replicate c none).length) then
      bif decide (0 < IntKind.wrap .i64 ((IntKind.wrap .i64 (((s_0.length : Nat) : Int) + (v_2.length : Int))) - i_1)) && true && Nat.blt ((List.map some s_0 ++ List.replicate c none).length) (((i_1 - 0).toNat) + ((List.replicate ((IntKind.wrap .i64 ((IntKind.wrap .i64 (((s_0.length : Nat) : Int) + (v_2.length : Int))) - i_1)).toNat) ((0, 0, 0) : Int × Int × Int)).length)) && Nat.ble (((List.map some s_0 ++ List.replicate c none).length) + ((List.replicate ((IntKind.wrap .i64 ((IntKind.wrap .i64 (((s_0.length : Nat) : Int) + (v_2.length : Int))) - i_1)).toNat) ((0, 0, 0) : Int × Int × Int)).length)) 536870912 then
       bif (decide (0 ≤ i_1) && decide (i_1 ≤ ((((i_1 - 0).toNat) + ((List.replicate ((IntKind.wrap .i64 ((IntKind.wrap .i64 (((s_0.length : Nat) : Int) + (v_2.length : Int))) - i_1)).toNat) ((0, 0, 0) : Int × Int × Int)).length) : Nat) : Int))) && decide (((((i_1 - 0).toNat) + ((List.replicate ((IntKind.wrap .i64 ((IntKind.wrap .i64 (((s_0.length : Nat) : Int) + (v_2.length : Int))) - i_1)).toNat) ((0, 0, 0) : Int × Int × Int)).length) : Nat) : Int) ≤ ((((List.take ((i_1 - 0).toNat) (List.map some s_0 ++ List.replicate c none) ++ List.map some (List.replicate ((IntKind.wrap .i64 ((IntKind.wrap .i64 (((s_0.length : Nat) : Int) + (v_2.length : Int))) - i_1)).toNat) ((0, 0, 0) : Int × Int × Int))).length) - 0 : Nat) : Int)) then
        bif Nat.ble ((0 + i_1.toNat) + ((((((i_1 - 0).toNat) + ((List.replicate ((IntKind.wrap .i64 ((IntKind.wrap .i64 (((s_0.length : Nat) : Int) + (v_2.length : Int))) - i_1)).toNat) ((0, 0, 0) : Int × Int × Int)).length) : Nat) : Int) - i_1).toNat)) ((List.take ((i_1 - 0).toNat) (List.map some s_0 ++ List.replicate c none) ++ List.map some (List.replicate ((IntKind.wrap .i64 ((IntKind.wrap .i64 (((s_0.length : Nat) : Int) + (v_2.length : Int))) - i_1)).toNat) ((0, 0, 0) : Int × Int × Int))).length) then
         bif (decide (0 ≤ IntKind.wrap .i64 (i_1 + (v_2.length : Int))) && decide (IntKind.wrap .i64 (i_1 + (v_2.length : Int)) ≤ ((((i_1 - 0).toNat) + ((List.replicate ((IntKind.wrap .i64 ((IntKind.wrap .i64 (((s_0.length : Nat) : Int) + (v_2.length : Int))) - i_1)).toNat) ((0, 0, 0) : Int × Int × Int)).length) : Nat) : Int))) && decide (((((i_1 - 0).toNat) + ((List.replicate ((IntKind.wrap .i64 ((IntKind.wrap .i64 (((s_0.length : Nat) : Int) + (v_2.length : Int))) - i_1)).toNat) ((0, 0, 0) : Int × Int × Int)).length) : Nat) : Int) ≤ ((((writeAt (List.take ((i_1 - 0).toNat) (List.map some s_0 ++ List.replicate c none) ++ List.map some (List.replicate ((IntKind.wrap .i64 ((IntKind.wrap .i64 (((s_0.length : Nat) : Int) + (v_2.length : Int))) - i_1)).toNat) ((0, 0, 0) : Int × Int × Int))) (0 + i_1.toNat) (List.take ((((((i_1 - 0).toNat) + ((List.replicate ((IntKind.wrap .i64 ((IntKind.wrap .i64 (((s_0.length : Nat) : Int) + (v_2.length : Int))) - i_1)).toNat) ((0, 0, 0) : Int × Int × Int)).length) : Nat) : Int) - i_1).toNat) v_2)).length) - 0 : Nat) : Int)) then
          bif (decide (0 ≤ i_1) && decide (i_1 ≤ ((s_0.length : Nat) : Int))) && decide (((s_0.length : Nat) : Int) ≤ ((((List.map some s_0 ++ List.replicate c none).length) - 0 : Nat) : Int)) then
           bif Nat.ble ((0 + ((IntKind.wrap .i64 (i_1 + (v_2.length : Int))).toNat)) + ((((((i_1 - 0).toNat) + ((List.replicate ((IntKind.wrap .i64 ((IntKind.wrap .i64 (((s_0.length : Nat) : Int) + (v_2.length : Int))) - i_1)).toNat) ((0, 0, 0) : Int × Int × Int)).length) : Nat) : Int) - (IntKind.wrap .i64 (i_1 + (v_2.length : Int)))).toNat)) ((writeAt (List.take ((i_1 - 0).toNat) (List.map some s_0 ++ List.replicate c none) ++ List.map some (List.replicate ((IntKind.wrap .i64 ((IntKind.wrap .i64 (((s_0.length : Nat) : Int) + (v_2.length : Int))) - i_1)).toNat) ((0, 0, 0) : Int × Int × Int))) (0 + i_1.toNat) (List.take ((((((i_1 - 0).toNat) + ((List.replicate ((IntKind.wrap .i64 ((IntKind.wrap .i64 (((s_0.length : Nat) : Int) + (v_2.length : Int))) - i_1)).toNat) ((0, 0, 0) : Int × Int × Int)).length) : Nat) : Int) - i_1).toNat) v_2)).length) then
            bif Nat.ble ((0 + i_1.toNat) + ((((s_0.length : Nat) : Int) - i_1).toNat)) ((List.map some s_0 ++ List.replicate c none).length) then
            Option.bind (allSome (List.take (min ((((((i_1 - 0).toNat) + ((List.replicate ((IntKind.wrap .i64 ((IntKind.wrap .i64 (((s_0.length : Nat) : Int) + (v_2.length : Int))) - i_1)).toNat) ((0, 0, 0) : Int × Int × Int)).length) : Nat) : Int) - (IntKind.wrap .i64 (i_1 + (v_2.length : Int)))).toNat) ((((s_0.length : Nat) : Int) - i_1).toNat)) (List.drop (0 + i_1.toNat) (List.map some s_0 ++ List.replicate c none)))) fun (z4 : List (Int × Int × Int)) =>
            bif Nat.ble (((i_1 - 0).toNat) + ((List.replicate ((IntKind.wrap .i64 ((IntKind.wrap .i64 (((s_0.length : Nat) : Int) + (v_2.length : Int))) - i_1)).toNat) ((0, 0, 0) : Int × Int × Int)).length)) ((writeAt (writeAt (List.take ((i_1 - 0).toNat) (List.map some s_0 ++ List.replicate c none) ++ List.map some (List.replicate ((IntKind.wrap .i64 ((IntKind.wrap .i64 (((s_0.length : Nat) : Int) + (v_2.length : Int))) - i_1)).toNat) ((0, 0, 0) : Int × Int × Int))) (0 + i_1.toNat) (List.take ((((((i_1 - 0).toNat) + ((List.replicate ((IntKind.wrap .i64 ((IntKind.wrap .i64 (((s_0.length : Nat) : Int) + (v_2.length : Int))) - i_1)).toNat) ((0, 0, 0) : Int × Int × Int)).length) : Nat) : Int) - i_1).toNat) v_2)) (0 + ((IntKind.wrap .i64 (i_1 + (v_2.length : Int))).toNat)) z4).length) then
            Option.bind (allSome (List.take (((i_1 - 0).toNat) + ((List.replicate ((IntKind.wrap .i64 ((IntKind.wrap .i64 (((s_0.length : Nat) : Int) + (v_2.length : Int))) - i_1)).toNat) ((0, 0, 0) : Int × Int × Int)).length)) (writeAt (writeAt (List.take ((i_1 - 0).toNat) (List.map some s_0 ++ List.replicate c none) ++ List.map some (List.replicate ((IntKind.wrap .i64 ((IntKind.wrap .i64 (((s_0.length : Nat) : Int) + (v_2.length : Int))) - i_1)).toNat) ((0, 0, 0) : Int × Int × Int))) (0 + i_1.toNat) (List.take ((((((i_1 - 0).toNat) + ((List.replicate ((IntKind.wrap .i64 ((IntKind.wrap .i64 (((s_0.length : Nat) : Int) + (v_2.length : Int))) - i_1)).toNat) ((0, 0, 0) : Int × Int × Int)).length) : Nat) : Int) - i_1).toNat) v_2)) (0 + ((IntKind.wrap .i64 (i_1 + (v_2.length : Int))).toNat)) z4))) fun (z5 : List (Int × Int × Int)) =>
            some ((z5, ()), ())
            else none
            else none
           else none
          else none
         else none
        else none
       else none
      else none
     else none
    else none
   else
   bif decide (0 ≤ IntKind.wrap .i64 (((s_0.length : Nat) : Int) + (v_2.length : Int))) && decide (IntKind.wrap .i64 (((s_0.length : Nat) : Int) + (v_2.length : Int)) ≤ ((((List.map some s_0 ++ List.replicate c none).length) - 0 : Nat) : Int)) then
    bif (decide (0 ≤ IntKind.wrap .i64 (i_1 + (v_2.length : Int))) && decide (IntKind.wrap .i64 (i_1 + (v_2.length : Int)) ≤ ((((IntKind.wrap .i64 (((s_0.length : Nat) : Int) + (v_2.length : Int))) - 0).toNat : Nat) : Int))) && decide (((((IntKind.wrap .i64 (((s_0.length : Nat) : Int) + (v_2.length : Int))) - 0).toNat : Nat) : Int) ≤ ((((List.map some s_0 ++ List.replicate c none).length) - 0 : Nat) : Int)) then
     bif (decide (0 ≤ IntKind.wrap .i64 (i_1 + (v_2.length : Int))) && decide (IntKind.wrap .i64 (i_1 + (v_2.length : Int)) ≤ ((((IntKind.wrap .i64 (((s_0.length : Nat) : Int) + (v_2.length : Int))) - 0).toNat : Nat) : Int))) && decide (((((IntKind.wrap .i64 (((s_0.length : Nat) : Int) + (v_2.length : Int))) - 0).toNat : Nat) : Int) ≤ ((((List.map some s_0 ++ List.replicate c none).length) - 0 : Nat) : Int)) then
      bif (decide (0 ≤ i_1) && decide (i_1 ≤ ((((IntKind.wrap .i64 (((s_0.length : Nat) : Int) + (v_2.length : Int))) - 0).toNat : Nat) : Int))) && decide (((((IntKind.wrap .i64 (((s_0.length : Nat) : Int) + (v_2.length : Int))) - 0).toNat : Nat) : Int) ≤ ((((List.map some s_0 ++ List.replicate c none).length) - 0 : Nat) : Int)) then
       bif Nat.ble ((0 + ((IntKind.wrap .i64 (i_1 + (v_2.length : Int))).toNat)) + ((((((IntKind.wrap .i64 (((s_0.length : Nat) : Int) + (v_2.length : Int))) - 0).toNat : Nat) : Int) - (IntKind.wrap .i64 (i_1 + (v_2.length : Int)))).toNat)) ((List.map some s_0 ++ List.replicate c none).length) then
        bif Nat.ble ((0 + i_1.toNat) + ((((((IntKind.wrap .i64 (((s_0.length : Nat) : Int) + (v_2.length : Int))) - 0).toNat : Nat) : Int) - i_1).toNat)) ((List.map some s_0 ++ List.replicate c none).length) then
         Option.bind (allSome (List.take (min ((((((IntKind.wrap .i64 (((s_0.length : Nat) : Int) + (v_2.length : Int))) - 0).toNat : Nat) : Int) - (IntKind.wrap .i64 (i_1 + (v_2.length : Int)))).toNat) ((((((IntKind.wrap .i64 (((s_0.length : Nat) : Int) + (v_2.length : Int))) - 0).toNat : Nat) : Int) - i_1).toNat)) (List.drop (0 + i_1.toNat) (List.map some s_0 ++ List.replicate c none)))) fun (z6 : List (Int × Int × Int)) =>
         bif (decide (0 ≤ i_1) && decide (i_1 ≤ ((((IntKind.wrap .i64 (((s_0.length : Nat) : Int) + (v_2.length : Int))) - 0).toNat : Nat) : Int))) && decide (((((IntKind.wrap .i64 (((s_0.length : Nat) : Int) + (v_2.length : Int))) - 0).toNat : Nat) : Int) ≤ ((((writeAt (List.map some s_0 ++ List.replicate c none) (0 + ((IntKind.wrap .i64 (i_1 + (v_2.length : Int))).toNat)) z6).length) - 0 : Nat) : Int)) then
          bif Nat.ble ((0 + i_1.toNat) + ((((((IntKind.wrap .i64 (((s_0.length : Nat) : Int) + (v_2.length : Int))) - 0).toNat : Nat) : Int) - i_1).toNat)) ((writeAt (List.map some s_0 ++ List.replicate c none) (0 + ((IntKind.wrap .i64 (i_1 + (v_2.length : Int))).toNat)) z6).length) then
           bif Nat.ble (((IntKind.wrap .i64 (((s_0.length : Nat) : Int) + (v_2.length : Int))) - 0).toNat) ((writeAt (writeAt (List.map some s_0 ++ List.replicate c none) (0 + ((IntKind.wrap .i64 (i_1 + (v_2.length : Int))).toNat)) z6) (0 + i_1.toNat) (List.take ((((((IntKind.wrap .i64 (((s_0.length : Nat) : Int) + (v_2.length : Int))) - 0).toNat : Nat) : Int) - i_1).toNat) v_2)).length) then
            Option.bind (allSome (List.take (((IntKind.wrap .i64 (((s_0.length : Nat) : Int) + (v_2.length : Int))) - 0).toNat) (writeAt (writeAt (List.map some s_0 ++ List.replicate c none) (0 + ((IntKind.wrap .i64 (i_1 + (v_2.length : Int))).toNat)) z6) (0 + i_1.toNat) (List.take ((((((IntKind.wrap .i64 (((s_0.length : Nat) : Int) + (v_2.length : Int))) - 0).toNat : Nat) : Int) - i_1).toNat) v_2)))) fun (z7 : List (Int × Int × Int)) =>
            some ((z7, ()), ())
           else none
          else none
         else none
        else none
       else none
      else none
     else none
    else none
   else none
  else none
 else none
theorem slices_Insert_Kid_c_eq (c : Nat) (s_0 : List (Int × Int × Int)) (i_1 : Int) (v_2 : List (Int × Int × Int)) : evFn slices_Insert_Kid_Γ tab { slices_Insert_Kid_fi with cap := c } 1 [.ownc 127 t126, .val t2, .own 127 t126] [⟨t24, [true], none⟩] Tryz.f305 (s_0, i_1, v_2, ()) = slices_Insert_Kid_c c s_0 i_1 v_2 := by kernel_rfl
theorem slices_Insert_Kid_c_is (c : Nat) (s_0 : List (Int × Int × Int)) (i_1 : Int) (v_2 : List (Int × Int × Int)) : slices_Insert_Kid_c c s_0 i_1 v_2 = insertC ((0, 0, 0) : Int × Int × Int) c s_0 i_1 v_2 := by kernel_rfl
noncomputable def slices_Insert_Kid (s_0 : List (Int × Int × Int)) (i_1 : Int) (v_2 : List (Int × Int × Int)) : Option (((List (Int × Int × Int)) × Unit) × Unit) := insertR s_0 i_1 v_2
noncomputable def slices_Insert_Kid_e : Ent := ⟨[.ownc 127 t126, .val t2, .own 127 t126], [⟨t24, [true], none⟩], fun x => slices_Insert_Kid x.1 x.2.1 x.2.2.1⟩
theorem slices_Insert_Kid_good : Good tab.ty Tryz.prog 305 slices_Insert_Kid_e := by
  refine fn_goodC (Γ := slices_Insert_Kid_Γ) (fi := slices_Insert_Kid_fi) (n := 1) follows (gcons (gmark Tryz.func305 (by kernel_rfl) (by kernel_rfl)) gnil) tabok Tryz.func305 (by kernel_rfl) (by kernel_rfl) (fun c x r hc h => ?_)
  obtain ⟨s_0, i_1, v_2, _u⟩ := x
  exact (slices_Insert_Kid_c_eq c s_0 i_1 v_2).trans ((slices_Insert_Kid_c_is c s_0 i_1 v_2).trans (insert_law ((0, 0, 0) : Int × Int × Int) c s_0 i_1 v_2 r hc h))
noncomputable def kids_Hear_Γ : Ctx := [(68, slices_Clone_Kid_e), (88, kids_Old_e), (180, kids_place_e), (305, slices_Insert_Kid_e)]
def kids_Hear_fi : Fi := { keep := [], vty := [], vals := [], live := [(0, [0, 3]), (1, [0, 3, 6]), (2, [0, 3, 6, 16]), (3, [4, 5]), (4, [3, 6, 7, 8]), (5, [3, 6, 7, 25]), (6, [6]), (7, [4, 5]), (8, [4, 5])] }
noncomputable def kids_Hear (l_0 : List (Int × Int × Int)) (k_1 : Int × Int × Int) : Option (((List (Int × Int × Int)) × Bool × Unit) × Unit) :=
 Option.bind (slices_Clone_Kid l_0) fun (r1 : ((List (Int × Int × Int)) × Unit) × Unit) =>
 Option.bind (kids_Old l_0 k_1.1 k_1.2.1) fun (r2 : (Bool × Unit) × Unit) =>
 bif r2.1.1 then
  some ((r1.1.1, false, ()), ())
 else
  Option.bind (kids_place l_0 k_1.1) fun (r3 : (Int × Bool × Unit) × Unit) =>
  bif r3.1.2.1 then
   bif decide (0 ≤ r3.1.1) && decide (r3.1.1 < (r1.1.1.length : Int)) then
    bif decide (0 ≤ r3.1.1) && decide (r3.1.1 < (r1.1.1.length : Int)) then
     some ((List.set r1.1.1 r3.1.1.toNat k_1, true, ()), ())
    else none
   else none
  else
   Option.bind (slices_Insert_Kid r1.1.1 r3.1.1 [k_1]) fun (r4 : ((List (Int × Int × Int)) × Unit) × Unit) =>
   some ((r4.1.1, true, ()), ())
theorem kids_Hear_eq (l_0 : List (Int × Int × Int)) (k_1 : Int × Int × Int) : evFn kids_Hear_Γ tab kids_Hear_fi 1 [.val t24, .val t126] [⟨t24, [true], none⟩, ⟨t4, [false], none⟩] Tryz.f247 (l_0, k_1, ()) = kids_Hear l_0 k_1 := by kernel_rfl
noncomputable def kids_Hear_e : Ent := ⟨[.val t24, .val t126], [⟨t24, [true], none⟩, ⟨t4, [false], none⟩], fun x => kids_Hear x.1 x.2.1⟩
theorem kids_Hear_good : Good tab.ty Tryz.prog 247 kids_Hear_e := by
  refine fn_good (Γ := kids_Hear_Γ) (fi := kids_Hear_fi) (n := 1) follows (gcons slices_Clone_Kid_good (gcons kids_Old_good (gcons kids_place_good (gcons slices_Insert_Kid_good gnil)))) tabok Tryz.func247 (by kernel_rfl) (by kernel_rfl) (fun x r h => ?_)
  obtain ⟨l_0, k_1, _u⟩ := x
  exact (kids_Hear_eq l_0 k_1).trans h
noncomputable def tie_node_hears_Γ : Ctx := [(247, kids_Hear_e)]
def tie_node_hears_fi : Fi := { keep := [], vty := [], vals := [], live := [(0, [0, 3]), (1, [0])] }
noncomputable def tie_node_hears (n_0 : (Int × Int × Int × Int × Int × Int × (List Int) × Int × Int × Int × Int × Int × List (Int × Int × Int)) × List (Int × Int × Int × Int × Int × Int × (List Int) × Int × Int × ByteArray)) (m_1 : Int × Int × Int × Int × Int × Int × (List Int) × Int × Int × ByteArray) : Option (Unit × (((Int × Int × Int × Int × Int × Int × (List Int) × Int × Int × Int × Int × Int × List (Int × Int × Int)) × List (Int × Int × Int × Int × Int × Int × (List Int) × Int × Int × ByteArray)) × Unit)) :=
 Option.bind (kids_Hear n_0.1.2.2.2.2.2.2.2.2.2.2.2.2 (m_1.2.1, m_1.2.2.2.1, n_0.1.2.2.1)) fun (r1 : ((List (Int × Int × Int)) × Bool × Unit) × Unit) =>
 some ((), (((n_0.1.1, n_0.1.2.1, n_0.1.2.2.1, n_0.1.2.2.2.1, n_0.1.2.2.2.2.1, n_0.1.2.2.2.2.2.1, n_0.1.2.2.2.2.2.2.1, n_0.1.2.2.2.2.2.2.2.1, n_0.1.2.2.2.2.2.2.2.2.1, n_0.1.2.2.2.2.2.2.2.2.2.1, n_0.1.2.2.2.2.2.2.2.2.2.2.1, n_0.1.2.2.2.2.2.2.2.2.2.2.2.1, r1.1.1), n_0.2), ()))
theorem tie_node_hears_eq (n_0 : (Int × Int × Int × Int × Int × Int × (List Int) × Int × Int × Int × Int × Int × List (Int × Int × Int)) × List (Int × Int × Int × Int × Int × Int × (List Int) × Int × Int × ByteArray)) (m_1 : Int × Int × Int × Int × Int × Int × (List Int) × Int × Int × ByteArray) : evFn tie_node_hears_Γ tab tie_node_hears_fi 1 [.box 143 t142 [false, false, false, false, false, false, false, false, false, false, false, false, false, true], .val t40] [] Tryz.f177 (n_0, m_1, ()) = tie_node_hears n_0 m_1 := by kernel_rfl
noncomputable def tie_node_hears_e : Ent := ⟨[.box 143 t142 [false, false, false, false, false, false, false, false, false, false, false, false, false, true], .val t40], [], fun x => tie_node_hears x.1 x.2.1⟩
theorem tie_node_hears_good : Good tab.ty Tryz.prog 177 tie_node_hears_e := by
  refine fn_good (Γ := tie_node_hears_Γ) (fi := tie_node_hears_fi) (n := 1) follows (gcons kids_Hear_good gnil) tabok Tryz.func177 (by kernel_rfl) (by kernel_rfl) (fun x r h => ?_)
  obtain ⟨n_0, m_1, _u⟩ := x
  exact (tie_node_hears_eq n_0 m_1).trans h
noncomputable def tie_node_attach_Γ : Ctx := [(163, tie_node_tells_e), (176, tie_node_room_e), (177, tie_node_hears_e)]
def tie_node_attach_fi : Fi := { keep := [], vty := [], vals := [], live := [(0, [0, 2, 4]), (1, [0, 2, 4, 10]), (2, [0]), (3, [0, 2, 4]), (4, [0])] }
noncomputable def tie_node_attach (n_0 : (Int × Int × Int × Int × Int × Int × (List Int) × Int × Int × Int × Int × Int × List (Int × Int × Int)) × List (Int × Int × Int × Int × Int × Int × (List Int) × Int × Int × ByteArray)) (m_1 : Int × Int × Int × Int × Int × Int × (List Int) × Int × Int × ByteArray) (lo_2 : Int) : Option (Unit × (((Int × Int × Int × Int × Int × Int × (List Int) × Int × Int × Int × Int × Int × List (Int × Int × Int)) × List (Int × Int × Int × Int × Int × Int × (List Int) × Int × Int × ByteArray)) × Unit)) :=
 Option.bind (tie_node_room n_0 m_1.2.1) fun (r1 : (Bool × Unit) × (((Int × Int × Int × Int × Int × Int × (List Int) × Int × Int × Int × Int × Int × List (Int × Int × Int)) × List (Int × Int × Int × Int × Int × Int × (List Int) × Int × Int × ByteArray)) × Unit)) =>
 bif !r1.1.1 then
  Option.bind (tie_node_tells r1.2.1 3 m_1.2.1 0) fun (r2 : Unit × (((Int × Int × Int × Int × Int × Int × (List Int) × Int × Int × Int × Int × Int × List (Int × Int × Int)) × List (Int × Int × Int × Int × Int × Int × (List Int) × Int × Int × ByteArray)) × Unit)) =>
  some ((), (r2.2.1, ()))
 else
  Option.bind (tie_node_hears r1.2.1 m_1) fun (r3 : Unit × (((Int × Int × Int × Int × Int × Int × (List Int) × Int × Int × Int × Int × Int × List (Int × Int × Int)) × List (Int × Int × Int × Int × Int × Int × (List Int) × Int × Int × ByteArray)) × Unit)) =>
  Option.bind (tie_node_tells r3.2.1 2 m_1.2.1 lo_2) fun (r4 : Unit × (((Int × Int × Int × Int × Int × Int × (List Int) × Int × Int × Int × Int × Int × List (Int × Int × Int)) × List (Int × Int × Int × Int × Int × Int × (List Int) × Int × Int × ByteArray)) × Unit)) =>
  some ((), (r4.2.1, ()))
theorem tie_node_attach_eq (n_0 : (Int × Int × Int × Int × Int × Int × (List Int) × Int × Int × Int × Int × Int × List (Int × Int × Int)) × List (Int × Int × Int × Int × Int × Int × (List Int) × Int × Int × ByteArray)) (m_1 : Int × Int × Int × Int × Int × Int × (List Int) × Int × Int × ByteArray) (lo_2 : Int) : evFn tie_node_attach_Γ tab tie_node_attach_fi 1 [.box 143 t142 [false, false, false, false, false, false, false, false, false, false, false, false, false, true], .val t40, .val t2] [] Tryz.f89 (n_0, m_1, lo_2, ()) = tie_node_attach n_0 m_1 lo_2 := by kernel_rfl
noncomputable def tie_node_attach_e : Ent := ⟨[.box 143 t142 [false, false, false, false, false, false, false, false, false, false, false, false, false, true], .val t40, .val t2], [], fun x => tie_node_attach x.1 x.2.1 x.2.2.1⟩
theorem tie_node_attach_good : Good tab.ty Tryz.prog 89 tie_node_attach_e := by
  refine fn_good (Γ := tie_node_attach_Γ) (fi := tie_node_attach_fi) (n := 1) follows (gcons tie_node_tells_good (gcons tie_node_room_good (gcons tie_node_hears_good gnil))) tabok Tryz.func89 (by kernel_rfl) (by kernel_rfl) (fun x r h => ?_)
  obtain ⟨n_0, m_1, lo_2, _u⟩ := x
  exact (tie_node_attach_eq n_0 m_1 lo_2).trans h
noncomputable def path_Add_Γ : Ctx := [(67, slices_Clone_int_e), (234, path_May_e)]
def path_Add_fi : Fi := { keep := [], vty := [], vals := [], live := [(0, [0, 1]), (1, [6]), (2, [6, 14]), (3, [4, 5]), (4, [4, 5])] }
noncomputable def path_Add (p_0 : List Int) (id_1 : Int) : Option (((List Int) × Bool × Unit) × Unit) :=
 Option.bind (slices_Clone_int p_0) fun (r1 : ((List Int) × Unit) × Unit) =>
 bif Nat.ble (r1.1.1.length + 1) 1073741824 then
  Option.bind (path_May (r1.1.1 ++ [id_1])) fun (r2 : (Bool × Unit) × Unit) =>
  bif !r2.1.1 then
   some (([], false, ()), ())
  else
   some ((r1.1.1 ++ [id_1], true, ()), ())
 else none
theorem path_Add_eq (p_0 : List Int) (id_1 : Int) : evFn path_Add_Γ tab path_Add_fi 1 [.val t23, .val t2] [⟨t23, [true], none⟩, ⟨t4, [false], none⟩] Tryz.f156 (p_0, id_1, ()) = path_Add p_0 id_1 := by kernel_rfl
noncomputable def path_Add_e : Ent := ⟨[.val t23, .val t2], [⟨t23, [true], none⟩, ⟨t4, [false], none⟩], fun x => path_Add x.1 x.2.1⟩
theorem path_Add_good : Good tab.ty Tryz.prog 156 path_Add_e := by
  refine fn_good (Γ := path_Add_Γ) (fi := path_Add_fi) (n := 1) follows (gcons slices_Clone_int_good (gcons path_May_good gnil)) tabok Tryz.func156 (by kernel_rfl) (by kernel_rfl) (fun x r h => ?_)
  obtain ⟨p_0, id_1, _u⟩ := x
  exact (path_Add_eq p_0 id_1).trans h
noncomputable def path_Grand_Γ : Ctx := []
def path_Grand_fi : Fi := { keep := [], vty := [], vals := [], live := [(0, [0]), (1, [0, 5]), (2, [2]), (3, [2])] }
noncomputable def path_Grand (p_0 : List Int) : Option ((Int × Unit) × Unit) :=
 bif decide ((p_0.length : Int) < 2) then
  some ((0, ()), ())
 else
 bif decide (0 ≤ IntKind.wrap .i64 ((p_0.length : Int) - 2)) && decide (IntKind.wrap .i64 ((p_0.length : Int) - 2) < (p_0.length : Int)) then
  some ((List.getD p_0 ((IntKind.wrap .i64 ((p_0.length : Int) - 2)).toNat) 0, ()), ())
 else none
theorem path_Grand_eq (p_0 : List Int) : evFn path_Grand_Γ tab path_Grand_fi 1 [.val t23] [⟨t2, [false], none⟩] Tryz.f248 (p_0, ()) = path_Grand p_0 := by kernel_rfl
noncomputable def path_Grand_e : Ent := ⟨[.val t23], [⟨t2, [false], none⟩], fun x => path_Grand x.1⟩
theorem path_Grand_good : Good tab.ty Tryz.prog 248 path_Grand_e := by
  refine fn_good (Γ := path_Grand_Γ) (fi := path_Grand_fi) (n := 1) follows gnil tabok Tryz.func248 (by kernel_rfl) (by kernel_rfl) (fun x r h => ?_)
  obtain ⟨p_0, _u⟩ := x
  exact (path_Grand_eq p_0).trans h
noncomputable def tie_node_way_Γ : Ctx := [(248, path_Grand_e)]
def tie_node_way_fi : Fi := { keep := [], vty := [], vals := [], live := [(0, [0, 2, 4]), (1, [0]), (2, [0, 23]), (3, [0])] }
noncomputable def tie_node_way (n_0 : (Int × Int × Int × Int × Int × Int × (List Int) × Int × Int × Int × Int × Int × List (Int × Int × Int)) × List (Int × Int × Int × Int × Int × Int × (List Int) × Int × Int × ByteArray)) (m_1 : Int × Int × Int × Int × Int × Int × (List Int) × Int × Int × ByteArray) (p_2 : List Int) : Option (Unit × (((Int × Int × Int × Int × Int × Int × (List Int) × Int × Int × Int × Int × Int × List (Int × Int × Int)) × List (Int × Int × Int × Int × Int × Int × (List Int) × Int × Int × ByteArray)) × Unit)) :=
 Option.bind (path_Grand m_1.2.2.2.2.2.2.1) fun (r1 : (Int × Unit) × Unit) =>
 bif r1.1.1 == 0 then
  some ((), (((n_0.1.1, n_0.1.2.1, n_0.1.2.2.1, n_0.1.2.2.2.1, n_0.1.2.2.2.2.1, 1, p_2, n_0.1.2.2.2.2.2.2.2), n_0.2), ()))
 else
  some ((), (((n_0.1.1, n_0.1.2.1, n_0.1.2.2.1, n_0.1.2.2.2.1, n_0.1.2.2.2.2.1, r1.1.1, p_2, n_0.1.2.2.2.2.2.2.2), n_0.2), ()))
theorem tie_node_way_eq (n_0 : (Int × Int × Int × Int × Int × Int × (List Int) × Int × Int × Int × Int × Int × List (Int × Int × Int)) × List (Int × Int × Int × Int × Int × Int × (List Int) × Int × Int × ByteArray)) (m_1 : Int × Int × Int × Int × Int × Int × (List Int) × Int × Int × ByteArray) (p_2 : List Int) : evFn tie_node_way_Γ tab tie_node_way_fi 1 [.box 143 t142 [false, false, false, false, false, false, false, false, false, false, false, false, false, true], .val t40, .val t23] [] Tryz.f178 (n_0, m_1, p_2, ()) = tie_node_way n_0 m_1 p_2 := by kernel_rfl
noncomputable def tie_node_way_e : Ent := ⟨[.box 143 t142 [false, false, false, false, false, false, false, false, false, false, false, false, false, true], .val t40, .val t23], [], fun x => tie_node_way x.1 x.2.1 x.2.2.1⟩
theorem tie_node_way_good : Good tab.ty Tryz.prog 178 tie_node_way_e := by
  refine fn_good (Γ := tie_node_way_Γ) (fi := tie_node_way_fi) (n := 1) follows (gcons path_Grand_good gnil) tabok Tryz.func178 (by kernel_rfl) (by kernel_rfl) (fun x r h => ?_)
  obtain ⟨n_0, m_1, p_2, _u⟩ := x
  exact (tie_node_way_eq n_0 m_1 p_2).trans h
noncomputable def tie_node_accept_Γ : Ctx := [(156, path_Add_e), (163, tie_node_tells_e), (178, tie_node_way_e)]
def tie_node_accept_fi : Fi := { keep := [], vty := [], vals := [], live := [(0, [0, 3, 15, 16, 17, 18, 19, 20, 52, 53, 54]), (1, [0, 3, 21, 52, 53, 54]), (2, [0, 3, 29]), (3, [0]), (4, [0, 3, 52, 53, 54]), (5, [0, 3, 4, 5, 52, 53, 54]), (6, [0, 3, 4, 55]), (7, [0]), (8, [0]), (9, [0, 3]), (10, [0])] }
noncomputable def tie_node_accept (n_0 : (Int × Int × Int × Int × Int × Int × (List Int) × Int × Int × Int × Int × Int × List (Int × Int × Int)) × List (Int × Int × Int × Int × Int × Int × (List Int) × Int × Int × ByteArray)) (m_1 : Int × Int × Int × Int × Int × Int × (List Int) × Int × Int × ByteArray) : Option (Unit × (((Int × Int × Int × Int × Int × Int × (List Int) × Int × Int × Int × Int × Int × List (Int × Int × Int)) × List (Int × Int × Int × Int × Int × Int × (List Int) × Int × Int × ByteArray)) × Unit)) :=
 bif n_0.1.2.2.2.2.2.2.2.2.2.1 != m_1.2.1 then
  bif n_0.1.2.2.2.1 != m_1.2.1 then
   Option.bind (tie_node_tells n_0 6 m_1.2.1 0) fun (r1 : Unit × (((Int × Int × Int × Int × Int × Int × (List Int) × Int × Int × Int × Int × Int × List (Int × Int × Int)) × List (Int × Int × Int × Int × Int × Int × (List Int) × Int × Int × ByteArray)) × Unit)) =>
   some ((), (r1.2.1, ()))
  else
   some ((), (n_0, ()))
 else
 bif n_0.1.2.2.2.1 != 0 then
  bif n_0.1.2.2.2.1 != m_1.2.1 then
   Option.bind (tie_node_tells n_0 6 m_1.2.1 0) fun (r2 : Unit × (((Int × Int × Int × Int × Int × Int × (List Int) × Int × Int × Int × Int × Int × List (Int × Int × Int)) × List (Int × Int × Int × Int × Int × Int × (List Int) × Int × Int × ByteArray)) × Unit)) =>
   some ((), (r2.2.1, ()))
  else
   some ((), (n_0, ()))
 else
  Option.bind (path_Add m_1.2.2.2.2.2.2.1 n_0.1.1) fun (r3 : ((List Int) × Bool × Unit) × Unit) =>
  bif !r3.1.2.1 then
   Option.bind (tie_node_tells ((n_0.1.1, n_0.1.2.1, n_0.1.2.2.1, n_0.1.2.2.2.1, n_0.1.2.2.2.2.1, n_0.1.2.2.2.2.2.1, n_0.1.2.2.2.2.2.2.1, n_0.1.2.2.2.2.2.2.2.1, n_0.1.2.2.2.2.2.2.2.2.1, 0, n_0.1.2.2.2.2.2.2.2.2.2.2), n_0.2) 6 m_1.2.1 0) fun (r4 : Unit × (((Int × Int × Int × Int × Int × Int × (List Int) × Int × Int × Int × Int × Int × List (Int × Int × Int)) × List (Int × Int × Int × Int × Int × Int × (List Int) × Int × Int × ByteArray)) × Unit)) =>
   some ((), (((r4.2.1.1.1, r4.2.1.1.2.1, r4.2.1.1.2.2.1, r4.2.1.1.2.2.2.1, r4.2.1.1.2.2.2.2.1, r4.2.1.1.2.2.2.2.2.1, r4.2.1.1.2.2.2.2.2.2.1, r4.2.1.1.2.2.2.2.2.2.2.1, r4.2.1.1.2.2.2.2.2.2.2.2.1, r4.2.1.1.2.2.2.2.2.2.2.2.2.1, r4.2.1.1.2.2.2.2.2.2.2.2.2.2.1, IntKind.wrap .i64 (r4.2.1.1.2.2.2.2.2.2.2.2.2.2.2.1 + 1), r4.2.1.1.2.2.2.2.2.2.2.2.2.2.2.2), r4.2.1.2), ()))
  else
  bif decide (m_1.2.2.2.2.2.1 > 20) then
   Option.bind (tie_node_tells ((n_0.1.1, n_0.1.2.1, n_0.1.2.2.1, n_0.1.2.2.2.1, n_0.1.2.2.2.2.1, n_0.1.2.2.2.2.2.1, n_0.1.2.2.2.2.2.2.1, n_0.1.2.2.2.2.2.2.2.1, n_0.1.2.2.2.2.2.2.2.2.1, 0, n_0.1.2.2.2.2.2.2.2.2.2.2), n_0.2) 6 m_1.2.1 0) fun (r5 : Unit × (((Int × Int × Int × Int × Int × Int × (List Int) × Int × Int × Int × Int × Int × List (Int × Int × Int)) × List (Int × Int × Int × Int × Int × Int × (List Int) × Int × Int × ByteArray)) × Unit)) =>
   some ((), (((r5.2.1.1.1, r5.2.1.1.2.1, r5.2.1.1.2.2.1, r5.2.1.1.2.2.2.1, r5.2.1.1.2.2.2.2.1, r5.2.1.1.2.2.2.2.2.1, r5.2.1.1.2.2.2.2.2.2.1, r5.2.1.1.2.2.2.2.2.2.2.1, r5.2.1.1.2.2.2.2.2.2.2.2.1, r5.2.1.1.2.2.2.2.2.2.2.2.2.1, r5.2.1.1.2.2.2.2.2.2.2.2.2.2.1, IntKind.wrap .i64 (r5.2.1.1.2.2.2.2.2.2.2.2.2.2.2.1 + 1), r5.2.1.1.2.2.2.2.2.2.2.2.2.2.2.2), r5.2.1.2), ()))
  else
   Option.bind (tie_node_way ((n_0.1.1, n_0.1.2.1, n_0.1.2.2.1, n_0.1.2.2.2.1, n_0.1.2.2.2.2.1, n_0.1.2.2.2.2.2.1, n_0.1.2.2.2.2.2.2.1, n_0.1.2.2.2.2.2.2.2.1, n_0.1.2.2.2.2.2.2.2.2.1, 0, n_0.1.2.2.2.2.2.2.2.2.2.2), n_0.2) m_1 r3.1.1) fun (r6 : Unit × (((Int × Int × Int × Int × Int × Int × (List Int) × Int × Int × Int × Int × Int × List (Int × Int × Int)) × List (Int × Int × Int × Int × Int × Int × (List Int) × Int × Int × ByteArray)) × Unit)) =>
   some ((), (((r6.2.1.1.1, r6.2.1.1.2.1, r6.2.1.1.2.2.1, m_1.2.1, m_1.2.2.2.1, r6.2.1.1.2.2.2.2.2.1, r6.2.1.1.2.2.2.2.2.2.1, m_1.2.2.2.2.1, IntKind.wrap .i64 (r6.2.1.1.2.2.1 - m_1.2.2.2.2.2.1), r6.2.1.1.2.2.2.2.2.2.2.2.2.1, r6.2.1.1.2.2.2.2.2.2.2.2.2.2.1, 0, r6.2.1.1.2.2.2.2.2.2.2.2.2.2.2.2), r6.2.1.2), ()))
theorem tie_node_accept_eq (n_0 : (Int × Int × Int × Int × Int × Int × (List Int) × Int × Int × Int × Int × Int × List (Int × Int × Int)) × List (Int × Int × Int × Int × Int × Int × (List Int) × Int × Int × ByteArray)) (m_1 : Int × Int × Int × Int × Int × Int × (List Int) × Int × Int × ByteArray) : evFn tie_node_accept_Γ tab tie_node_accept_fi 1 [.box 143 t142 [false, false, false, false, false, false, false, false, false, false, false, false, false, true], .val t40] [] Tryz.f90 (n_0, m_1, ()) = tie_node_accept n_0 m_1 := by kernel_rfl
noncomputable def tie_node_accept_e : Ent := ⟨[.box 143 t142 [false, false, false, false, false, false, false, false, false, false, false, false, false, true], .val t40], [], fun x => tie_node_accept x.1 x.2.1⟩
theorem tie_node_accept_good : Good tab.ty Tryz.prog 90 tie_node_accept_e := by
  refine fn_good (Γ := tie_node_accept_Γ) (fi := tie_node_accept_fi) (n := 1) follows (gcons path_Add_good (gcons tie_node_tells_good (gcons tie_node_way_good gnil))) tabok Tryz.func90 (by kernel_rfl) (by kernel_rfl) (fun x r h => ?_)
  obtain ⟨n_0, m_1, _u⟩ := x
  exact (tie_node_accept_eq n_0 m_1).trans h
noncomputable def tie_node_refuse_Γ : Ctx := [(74, tie_node_lets_e)]
def tie_node_refuse_fi : Fi := { keep := [], vty := [], vals := [], live := [(0, [0, 3]), (1, [0, 5]), (2, [0, 5, 6]), (3, [0]), (4, [0]), (5, [0, 26]), (6, [0])] }
noncomputable def tie_node_refuse (n_0 : (Int × Int × Int × Int × Int × Int × (List Int) × Int × Int × Int × Int × Int × List (Int × Int × Int)) × List (Int × Int × Int × Int × Int × Int × (List Int) × Int × Int × ByteArray)) (m_1 : Int × Int × Int × Int × Int × Int × (List Int) × Int × Int × ByteArray) : Option (Unit × (((Int × Int × Int × Int × Int × Int × (List Int) × Int × Int × Int × Int × Int × List (Int × Int × Int)) × List (Int × Int × Int × Int × Int × Int × (List Int) × Int × Int × ByteArray)) × Unit)) :=
 bif m_1.2.1 == n_0.1.2.2.2.2.2.2.2.2.2.1 then
  some ((), (((n_0.1.1, n_0.1.2.1, n_0.1.2.2.1, n_0.1.2.2.2.1, n_0.1.2.2.2.2.1, n_0.1.2.2.2.2.2.1, n_0.1.2.2.2.2.2.2.1, n_0.1.2.2.2.2.2.2.2.1, n_0.1.2.2.2.2.2.2.2.2.1, 0, n_0.1.2.2.2.2.2.2.2.2.2.2.1, IntKind.wrap .i64 (n_0.1.2.2.2.2.2.2.2.2.2.2.2.1 + 1), n_0.1.2.2.2.2.2.2.2.2.2.2.2.2), n_0.2), ()))
 else
 bif m_1.2.1 == n_0.1.2.2.2.1 then
  Option.bind (tie_node_lets n_0 0) fun (r1 : Unit × (((Int × Int × Int × Int × Int × Int × (List Int) × Int × Int × Int × Int × Int × List (Int × Int × Int)) × List (Int × Int × Int × Int × Int × Int × (List Int) × Int × Int × ByteArray)) × Unit)) =>
  some ((), (r1.2.1, ()))
 else
  some ((), (n_0, ()))
theorem tie_node_refuse_eq (n_0 : (Int × Int × Int × Int × Int × Int × (List Int) × Int × Int × Int × Int × Int × List (Int × Int × Int)) × List (Int × Int × Int × Int × Int × Int × (List Int) × Int × Int × ByteArray)) (m_1 : Int × Int × Int × Int × Int × Int × (List Int) × Int × Int × ByteArray) : evFn tie_node_refuse_Γ tab tie_node_refuse_fi 1 [.box 143 t142 [false, false, false, false, false, false, false, false, false, false, false, false, false, true], .val t40] [] Tryz.f91 (n_0, m_1, ()) = tie_node_refuse n_0 m_1 := by kernel_rfl
noncomputable def tie_node_refuse_e : Ent := ⟨[.box 143 t142 [false, false, false, false, false, false, false, false, false, false, false, false, false, true], .val t40], [], fun x => tie_node_refuse x.1 x.2.1⟩
theorem tie_node_refuse_good : Good tab.ty Tryz.prog 91 tie_node_refuse_e := by
  refine fn_good (Γ := tie_node_refuse_Γ) (fi := tie_node_refuse_fi) (n := 1) follows (gcons tie_node_lets_good gnil) tabok Tryz.func91 (by kernel_rfl) (by kernel_rfl) (fun x r h => ?_)
  obtain ⟨n_0, m_1, _u⟩ := x
  exact (tie_node_refuse_eq n_0 m_1).trans h
noncomputable def tie_node_beatUp_Γ : Ctx := [(95, kids_Find_e), (163, tie_node_tells_e), (177, tie_node_hears_e)]
def tie_node_beatUp_fi : Fi := { keep := [], vty := [], vals := [], live := [(0, [0, 3]), (1, [0, 3, 5]), (2, [0, 3, 17]), (3, [0]), (4, [0])] }
noncomputable def tie_node_beatUp (n_0 : (Int × Int × Int × Int × Int × Int × (List Int) × Int × Int × Int × Int × Int × List (Int × Int × Int)) × List (Int × Int × Int × Int × Int × Int × (List Int) × Int × Int × ByteArray)) (m_1 : Int × Int × Int × Int × Int × Int × (List Int) × Int × Int × ByteArray) : Option (Unit × (((Int × Int × Int × Int × Int × Int × (List Int) × Int × Int × Int × Int × Int × List (Int × Int × Int)) × List (Int × Int × Int × Int × Int × Int × (List Int) × Int × Int × ByteArray)) × Unit)) :=
 Option.bind (kids_Find n_0.1.2.2.2.2.2.2.2.2.2.2.2.2 m_1.2.1) fun (r1 : ((Int × Int × Int) × Bool × Unit) × Unit) =>
 bif r1.1.2.1 then
  Option.bind (tie_node_hears n_0 m_1) fun (r2 : Unit × (((Int × Int × Int × Int × Int × Int × (List Int) × Int × Int × Int × Int × Int × List (Int × Int × Int)) × List (Int × Int × Int × Int × Int × Int × (List Int) × Int × Int × ByteArray)) × Unit)) =>
  some ((), (r2.2.1, ()))
 else
  Option.bind (tie_node_tells n_0 3 m_1.2.1 0) fun (r3 : Unit × (((Int × Int × Int × Int × Int × Int × (List Int) × Int × Int × Int × Int × Int × List (Int × Int × Int)) × List (Int × Int × Int × Int × Int × Int × (List Int) × Int × Int × ByteArray)) × Unit)) =>
  some ((), (r3.2.1, ()))
theorem tie_node_beatUp_eq (n_0 : (Int × Int × Int × Int × Int × Int × (List Int) × Int × Int × Int × Int × Int × List (Int × Int × Int)) × List (Int × Int × Int × Int × Int × Int × (List Int) × Int × Int × ByteArray)) (m_1 : Int × Int × Int × Int × Int × Int × (List Int) × Int × Int × ByteArray) : evFn tie_node_beatUp_Γ tab tie_node_beatUp_fi 1 [.box 143 t142 [false, false, false, false, false, false, false, false, false, false, false, false, false, true], .val t40] [] Tryz.f92 (n_0, m_1, ()) = tie_node_beatUp n_0 m_1 := by kernel_rfl
noncomputable def tie_node_beatUp_e : Ent := ⟨[.box 143 t142 [false, false, false, false, false, false, false, false, false, false, false, false, false, true], .val t40], [], fun x => tie_node_beatUp x.1 x.2.1⟩
theorem tie_node_beatUp_good : Good tab.ty Tryz.prog 92 tie_node_beatUp_e := by
  refine fn_good (Γ := tie_node_beatUp_Γ) (fi := tie_node_beatUp_fi) (n := 1) follows (gcons kids_Find_good (gcons tie_node_tells_good (gcons tie_node_hears_good gnil))) tabok Tryz.func92 (by kernel_rfl) (by kernel_rfl) (fun x r h => ?_)
  obtain ⟨n_0, m_1, _u⟩ := x
  exact (tie_node_beatUp_eq n_0 m_1).trans h
noncomputable def tie_node_beatDn_Γ : Ctx := [(74, tie_node_lets_e), (156, path_Add_e), (163, tie_node_tells_e), (178, tie_node_way_e)]
def tie_node_beatDn_fi : Fi := { keep := [], vty := [], vals := [], live := [(0, [0, 3]), (1, [0, 3, 13]), (2, [0]), (3, [0, 3, 4, 5]), (4, [0, 3, 4, 30]), (5, [0]), (6, [0]), (7, [0, 3]), (8, [0, 3, 54]), (9, [0])] }
noncomputable def tie_node_beatDn (n_0 : (Int × Int × Int × Int × Int × Int × (List Int) × Int × Int × Int × Int × Int × List (Int × Int × Int)) × List (Int × Int × Int × Int × Int × Int × (List Int) × Int × Int × ByteArray)) (m_1 : Int × Int × Int × Int × Int × Int × (List Int) × Int × Int × ByteArray) : Option (Unit × (((Int × Int × Int × Int × Int × Int × (List Int) × Int × Int × Int × Int × Int × List (Int × Int × Int)) × List (Int × Int × Int × Int × Int × Int × (List Int) × Int × Int × ByteArray)) × Unit)) :=
 bif m_1.2.1 != n_0.1.2.2.2.1 then
  Option.bind (tie_node_tells n_0 6 m_1.2.1 0) fun (r1 : Unit × (((Int × Int × Int × Int × Int × Int × (List Int) × Int × Int × Int × Int × Int × List (Int × Int × Int)) × List (Int × Int × Int × Int × Int × Int × (List Int) × Int × Int × ByteArray)) × Unit)) =>
  some ((), (r1.2.1, ()))
 else
  Option.bind (path_Add m_1.2.2.2.2.2.2.1 n_0.1.1) fun (r2 : ((List Int) × Bool × Unit) × Unit) =>
  bif !r2.1.2.1 then
   Option.bind (tie_node_tells n_0 6 m_1.2.1 0) fun (r3 : Unit × (((Int × Int × Int × Int × Int × Int × (List Int) × Int × Int × Int × Int × Int × List (Int × Int × Int)) × List (Int × Int × Int × Int × Int × Int × (List Int) × Int × Int × ByteArray)) × Unit)) =>
   Option.bind (tie_node_lets r3.2.1 1) fun (r4 : Unit × (((Int × Int × Int × Int × Int × Int × (List Int) × Int × Int × Int × Int × Int × List (Int × Int × Int)) × List (Int × Int × Int × Int × Int × Int × (List Int) × Int × Int × ByteArray)) × Unit)) =>
   some ((), (r4.2.1, ()))
  else
   Option.bind (tie_node_way n_0 m_1 r2.1.1) fun (r5 : Unit × (((Int × Int × Int × Int × Int × Int × (List Int) × Int × Int × Int × Int × Int × List (Int × Int × Int)) × List (Int × Int × Int × Int × Int × Int × (List Int) × Int × Int × ByteArray)) × Unit)) =>
   bif decide (IntKind.wrap .i64 (r5.2.1.1.2.2.1 - m_1.2.2.2.2.2.1) > r5.2.1.1.2.2.2.2.2.2.2.2.1) then
    some ((), (((r5.2.1.1.1, r5.2.1.1.2.1, r5.2.1.1.2.2.1, r5.2.1.1.2.2.2.1, r5.2.1.1.2.2.2.2.1, r5.2.1.1.2.2.2.2.2.1, r5.2.1.1.2.2.2.2.2.2.1, m_1.2.2.2.2.1, IntKind.wrap .i64 (r5.2.1.1.2.2.1 - m_1.2.2.2.2.2.1), r5.2.1.1.2.2.2.2.2.2.2.2.2), r5.2.1.2), ()))
   else
    some ((), (r5.2.1, ()))
theorem tie_node_beatDn_eq (n_0 : (Int × Int × Int × Int × Int × Int × (List Int) × Int × Int × Int × Int × Int × List (Int × Int × Int)) × List (Int × Int × Int × Int × Int × Int × (List Int) × Int × Int × ByteArray)) (m_1 : Int × Int × Int × Int × Int × Int × (List Int) × Int × Int × ByteArray) : evFn tie_node_beatDn_Γ tab tie_node_beatDn_fi 1 [.box 143 t142 [false, false, false, false, false, false, false, false, false, false, false, false, false, true], .val t40] [] Tryz.f93 (n_0, m_1, ()) = tie_node_beatDn n_0 m_1 := by kernel_rfl
noncomputable def tie_node_beatDn_e : Ent := ⟨[.box 143 t142 [false, false, false, false, false, false, false, false, false, false, false, false, false, true], .val t40], [], fun x => tie_node_beatDn x.1 x.2.1⟩
theorem tie_node_beatDn_good : Good tab.ty Tryz.prog 93 tie_node_beatDn_e := by
  refine fn_good (Γ := tie_node_beatDn_Γ) (fi := tie_node_beatDn_fi) (n := 1) follows (gcons tie_node_lets_good (gcons path_Add_good (gcons tie_node_tells_good (gcons tie_node_way_good gnil)))) tabok Tryz.func93 (by kernel_rfl) (by kernel_rfl) (fun x r h => ?_)
  obtain ⟨n_0, m_1, _u⟩ := x
  exact (tie_node_beatDn_eq n_0 m_1).trans h
noncomputable def slices_IndexFunc_Kid_Γ : Ctx := []
def slices_IndexFunc_Kid_fi : Fi := { keep := [], vty := [], vals := [], live := [(0, [0, 1]), (1, [0, 1, 7, 8]), (2, [0, 1, 7, 8, 9]), (3, [0, 1, 5, 7, 8]), (4, [0, 1, 5, 7, 8, 16]), (5, [4]), (6, [0, 1, 7, 8]), (7, [4])] }
noncomputable def slices_IndexFunc_Kid_B1 (L1 : (List (Int × Int × Int)) → ((Int × Int × Int) × Unit → Option (Bool × Unit)) → Int → Int → Option ((Int × Unit) × Unit)) (v1 : List (Int × Int × Int)) (v2 : ((Int × Int × Int) × Unit → Option (Bool × Unit))) (v3 : Int) (v4 : Int) : Option ((Int × Unit) × Unit) :=
 bif decide (v4 < v3) then
  bif decide (0 ≤ v4) && decide (v4 < (v1.length : Int)) then
   Option.bind (v2 (((List.getD v1 v4.toNat (0, 0, 0)).1, ((List.getD v1 v4.toNat (0, 0, 0)).2)), ())) fun (r5 : Bool × Unit) =>
   bif r5.1 then
    some ((v4, ()), ())
   else
    L1 v1 v2 v3 (IntKind.wrap .i64 (v4 + 1))
  else none
 else
  some (((-1), ()), ())
noncomputable def slices_IndexFunc_Kid_T (L1 : (List (Int × Int × Int)) → ((Int × Int × Int) × Unit → Option (Bool × Unit)) → Int → Int → Option ((Int × Unit) × Unit)) (s_0 : List (Int × Int × Int)) (f_1 : ((Int × Int × Int) × Unit → Option (Bool × Unit))) : Option ((Int × Unit) × Unit) :=
 L1 s_0 f_1 (s_0.length : Int) 0
noncomputable def slices_IndexFunc_Kid_L1 (n : Nat) : Nat → (List (Int × Int × Int)) → ((Int × Int × Int) × Unit → Option (Bool × Unit)) → Int → Int → Option ((Int × Unit) × Unit) := iter (fun _ _ _ _ => none) fun L => slices_IndexFunc_Kid_B1 L
noncomputable def slices_IndexFunc_Kid_X1 (n m : Nat) (v1 : List (Int × Int × Int)) (v2 : ((Int × Int × Int) × Unit → Option (Bool × Unit))) (v3 : Int) (v4 : Int) : Option ((Int × Unit) × Unit) :=
 atLoop slices_IndexFunc_Kid_Γ tab (fiB [.val t24, .fn [t126] [t4]] slices_IndexFunc_Kid_fi) n [.val t24, .fn [t126] [t4]] [⟨t2, [false], none⟩] Tryz.f237 [1, 0, 1, 0] [] [0, 1, 7, 8] m
 ⟨[(0, SV.cv (CV.one (LV.pure t24 v1))), (1, SV.cv (CV.one (LV.clo [t126] [t4] v2))), (7, SV.cv (CV.one (LV.pure t2 v3))), (8, SV.cv (CV.one (LV.pure t2 v4)))],
  []⟩
theorem slices_IndexFunc_Kid_step1 (n m : Nat) (v1 : List (Int × Int × Int)) (v2 : ((Int × Int × Int) × Unit → Option (Bool × Unit))) (v3 : Int) (v4 : Int) : slices_IndexFunc_Kid_X1 n (m + 1) v1 v2 v3 v4 = slices_IndexFunc_Kid_B1 (slices_IndexFunc_Kid_X1 n m) v1 v2 v3 v4 := by kernel_rfl
theorem slices_IndexFunc_Kid_start (n : Nat) (s_0 : List (Int × Int × Int)) (f_1 : ((Int × Int × Int) × Unit → Option (Bool × Unit))) : evFn slices_IndexFunc_Kid_Γ tab slices_IndexFunc_Kid_fi n [.val t24, .fn [t126] [t4]] [⟨t2, [false], none⟩] Tryz.f237 (s_0, f_1, ()) = slices_IndexFunc_Kid_T (slices_IndexFunc_Kid_X1 n n) s_0 f_1 := by kernel_rfl
theorem slices_IndexFunc_Kid_XL1 (n : Nat) : ∀ m, slices_IndexFunc_Kid_X1 n m = slices_IndexFunc_Kid_L1 n m
 | 0 => rfl
 | m + 1 => by
  have ih := slices_IndexFunc_Kid_XL1 n m
  funext v1 v2 v3 v4
  rw [slices_IndexFunc_Kid_step1, ih]
  rfl
noncomputable def slices_IndexFunc_Kid_n (n : Nat) (s_0 : List (Int × Int × Int)) (f_1 : ((Int × Int × Int) × Unit → Option (Bool × Unit))) : Option ((Int × Unit) × Unit) := slices_IndexFunc_Kid_T (slices_IndexFunc_Kid_L1 n n) s_0 f_1
noncomputable def slices_IndexFunc_Kid (s_0 : List (Int × Int × Int)) (f_1 : ((Int × Int × Int) × Unit → Option (Bool × Unit))) : Option ((Int × Unit) × Unit) := slices_IndexFunc_Kid_n 1099511627776 s_0 f_1
theorem slices_IndexFunc_Kid_eq (n : Nat) (s_0 : List (Int × Int × Int)) (f_1 : ((Int × Int × Int) × Unit → Option (Bool × Unit))) : evFn slices_IndexFunc_Kid_Γ tab slices_IndexFunc_Kid_fi n [.val t24, .fn [t126] [t4]] [⟨t2, [false], none⟩] Tryz.f237 (s_0, f_1, ()) = slices_IndexFunc_Kid_n n s_0 f_1 := by
  rw [slices_IndexFunc_Kid_start, slices_IndexFunc_Kid_XL1 n n]
  rfl
noncomputable def slices_IndexFunc_Kid_e : Ent := ⟨[.val t24, .fn [t126] [t4]], [⟨t2, [false], none⟩], fun x => slices_IndexFunc_Kid x.1 x.2.1⟩
theorem slices_IndexFunc_Kid_good : Good tab.ty Tryz.prog 237 slices_IndexFunc_Kid_e := by
  refine fn_good (Γ := slices_IndexFunc_Kid_Γ) (fi := slices_IndexFunc_Kid_fi) (n := 1099511627776) follows gnil tabok Tryz.func237 (by kernel_rfl) (by kernel_rfl) (fun x r h => ?_)
  obtain ⟨s_0, f_1, _u⟩ := x
  exact (slices_IndexFunc_Kid_eq 1099511627776 s_0 f_1).trans h
noncomputable def slices_DeleteFunc_Kid_Γ : Ctx := [(161, markE), (237, slices_IndexFunc_Kid_e)]
def slices_DeleteFunc_Kid_fi : Fi := { keep := [], vty := [], vals := [], live := [(0, [0, 1]), (1, [0, 1, 5]), (2, [0, 1, 5, 12]), (3, [4]), (4, [0, 1, 5, 6]), (5, [0, 1, 5, 6, 19]), (6, [0, 1, 5, 6]), (7, [0, 1, 5, 6, 7]), (8, [0, 1, 5, 6, 7, 29]), (9, [0, 1, 5, 6]), (10, [0, 1, 5, 6]), (11, [0, 5]), (12, [4])], melt := [(11, 1000000), (12, 1000000)] }
noncomputable def slices_DeleteFunc_Kid_B1 (L1 : ((Int × Int × Int) × Unit → Option (Bool × Unit)) → Int → Int → (List (Int × Int × Int)) → Option (((List (Int × Int × Int)) × Unit) × Unit)) (v2 : ((Int × Int × Int) × Unit → Option (Bool × Unit))) (v3 : Int) (v4 : Int) (v5 : List (Int × Int × Int)) : Option (((List (Int × Int × Int)) × Unit) × Unit) :=
 bif decide (v4 < (v5.length : Int)) then
  bif decide (0 ≤ v4) && decide (v4 < (v5.length : Int)) then
   bif decide (0 ≤ v4) && decide (v4 < (v5.length : Int)) then
    Option.bind (v2 (((List.getD v5 v4.toNat (0, 0, 0)).1, ((List.getD v5 v4.toNat (0, 0, 0)).2)), ())) fun (r6 : Bool × Unit) =>
    bif !r6.1 then
     bif decide (0 ≤ v3) && decide (v3 < (v5.length : Int)) then
      bif decide (0 ≤ v3) && decide (v3 < (v5.length : Int)) then
       L1 v2 (IntKind.wrap .i64 (v3 + 1)) (IntKind.wrap .i64 (v4 + 1)) (List.set v5 v3.toNat ((List.getD v5 v4.toNat (0, 0, 0)).1, ((List.getD v5 v4.toNat (0, 0, 0)).2)))
      else none
     else none
    else
     L1 v2 v3 (IntKind.wrap .i64 (v4 + 1)) v5
   else none
  else none
 else
 bif (decide (0 ≤ v3) && decide (v3 ≤ ((v5.length : Nat) : Int))) && decide (((v5.length : Nat) : Int) ≤ (((List.map some v5).length : Nat) : Int)) then
  bif Nat.ble ((0 + v3.toNat) + ((((v5.length : Nat) : Int) - v3).toNat)) ((List.map some v5).length) then
   bif decide (0 ≤ v3) && decide (v3 ≤ (((writeAt (List.map some v5) (0 + v3.toNat) (List.replicate ((((v5.length : Nat) : Int) - v3).toNat) ((0, 0, 0) : Int × Int × Int))).length : Nat) : Int)) then
    bif Nat.ble ((v3 - 0).toNat) ((writeAt (List.map some v5) (0 + v3.toNat) (List.replicate ((((v5.length : Nat) : Int) - v3).toNat) ((0, 0, 0) : Int × Int × Int))).length) then
     Option.bind (allSome (List.take ((v3 - 0).toNat) (writeAt (List.map some v5) (0 + v3.toNat) (List.replicate ((((v5.length : Nat) : Int) - v3).toNat) ((0, 0, 0) : Int × Int × Int))))) fun (z7 : List (Int × Int × Int)) =>
     some ((z7, ()), ())
    else none
   else none
  else none
 else none
noncomputable def slices_DeleteFunc_Kid_T (L1 : ((Int × Int × Int) × Unit → Option (Bool × Unit)) → Int → Int → (List (Int × Int × Int)) → Option (((List (Int × Int × Int)) × Unit) × Unit)) (s_0 : List (Int × Int × Int)) (del_1 : ((Int × Int × Int) × Unit → Option (Bool × Unit))) : Option (((List (Int × Int × Int)) × Unit) × Unit) :=
 Option.bind (slices_IndexFunc_Kid s_0 del_1) fun (r1 : (Int × Unit) × Unit) =>
 bif r1.1.1 == (-1) then
  some ((s_0, ()), ())
 else
  L1 del_1 r1.1.1 (IntKind.wrap .i64 (r1.1.1 + 1)) s_0
noncomputable def slices_DeleteFunc_Kid_L1 (n : Nat) : Nat → ((Int × Int × Int) × Unit → Option (Bool × Unit)) → Int → Int → (List (Int × Int × Int)) → Option (((List (Int × Int × Int)) × Unit) × Unit) := iter (fun _ _ _ _ => none) fun L => slices_DeleteFunc_Kid_B1 L
noncomputable def slices_DeleteFunc_Kid_X1 (n m : Nat) (v2 : ((Int × Int × Int) × Unit → Option (Bool × Unit))) (v3 : Int) (v4 : Int) (v5 : List (Int × Int × Int)) : Option (((List (Int × Int × Int)) × Unit) × Unit) :=
 atLoop slices_DeleteFunc_Kid_Γ tab (fiB [.own 127 t126, .fn [t126] [t4]] slices_DeleteFunc_Kid_fi) n [.own 127 t126, .fn [t126] [t4]] [⟨t24, [true], none⟩] Tryz.f161 [1, 1, 1, 0, 1, 0] [] [0, 1, 5, 6] m
 ⟨[(0, SV.cv (CV.one (LV.ref (888888, 0)))), (1, SV.cv (CV.one (LV.clo [t126] [t4] v2))), (5, SV.cv (CV.one (LV.pure t2 v3))), (6, SV.cv (CV.one (LV.pure t2 v4)))],
  [((888888, 0), Ob.row 127 t126 v5)]⟩
theorem slices_DeleteFunc_Kid_step1 (n m : Nat) (v2 : ((Int × Int × Int) × Unit → Option (Bool × Unit))) (v3 : Int) (v4 : Int) (v5 : List (Int × Int × Int)) : slices_DeleteFunc_Kid_X1 n (m + 1) v2 v3 v4 v5 = slices_DeleteFunc_Kid_B1 (slices_DeleteFunc_Kid_X1 n m) v2 v3 v4 v5 := by kernel_rfl
theorem slices_DeleteFunc_Kid_start (n : Nat) (s_0 : List (Int × Int × Int)) (del_1 : ((Int × Int × Int) × Unit → Option (Bool × Unit))) : evFn slices_DeleteFunc_Kid_Γ tab slices_DeleteFunc_Kid_fi n [.own 127 t126, .fn [t126] [t4]] [⟨t24, [true], none⟩] Tryz.f161 (s_0, del_1, ()) = slices_DeleteFunc_Kid_T (slices_DeleteFunc_Kid_X1 n n) s_0 del_1 := by kernel_rfl
theorem slices_DeleteFunc_Kid_XL1 (n : Nat) : ∀ m, slices_DeleteFunc_Kid_X1 n m = slices_DeleteFunc_Kid_L1 n m
 | 0 => rfl
 | m + 1 => by
  have ih := slices_DeleteFunc_Kid_XL1 n m
  funext v2 v3 v4 v5
  rw [slices_DeleteFunc_Kid_step1, ih]
  rfl
noncomputable def slices_DeleteFunc_Kid_n (n : Nat) (s_0 : List (Int × Int × Int)) (del_1 : ((Int × Int × Int) × Unit → Option (Bool × Unit))) : Option (((List (Int × Int × Int)) × Unit) × Unit) := slices_DeleteFunc_Kid_T (slices_DeleteFunc_Kid_L1 n n) s_0 del_1
noncomputable def slices_DeleteFunc_Kid (s_0 : List (Int × Int × Int)) (del_1 : ((Int × Int × Int) × Unit → Option (Bool × Unit))) : Option (((List (Int × Int × Int)) × Unit) × Unit) := slices_DeleteFunc_Kid_n 1099511627776 s_0 del_1
theorem slices_DeleteFunc_Kid_eq (n : Nat) (s_0 : List (Int × Int × Int)) (del_1 : ((Int × Int × Int) × Unit → Option (Bool × Unit))) : evFn slices_DeleteFunc_Kid_Γ tab slices_DeleteFunc_Kid_fi n [.own 127 t126, .fn [t126] [t4]] [⟨t24, [true], none⟩] Tryz.f161 (s_0, del_1, ()) = slices_DeleteFunc_Kid_n n s_0 del_1 := by
  rw [slices_DeleteFunc_Kid_start, slices_DeleteFunc_Kid_XL1 n n]
  rfl
noncomputable def slices_DeleteFunc_Kid_e : Ent := ⟨[.own 127 t126, .fn [t126] [t4]], [⟨t24, [true], none⟩], fun x => slices_DeleteFunc_Kid x.1 x.2.1⟩
theorem slices_DeleteFunc_Kid_good : Good tab.ty Tryz.prog 161 slices_DeleteFunc_Kid_e := by
  refine fn_good (Γ := slices_DeleteFunc_Kid_Γ) (fi := slices_DeleteFunc_Kid_fi) (n := 1099511627776) follows (gcons (gmark Tryz.func161 (by kernel_rfl) (by kernel_rfl)) (gcons slices_IndexFunc_Kid_good gnil)) tabok Tryz.func161 (by kernel_rfl) (by kernel_rfl) (fun x r h => ?_)
  obtain ⟨s_0, del_1, _u⟩ := x
  exact (slices_DeleteFunc_Kid_eq 1099511627776 s_0 del_1).trans h
end Go.PE
