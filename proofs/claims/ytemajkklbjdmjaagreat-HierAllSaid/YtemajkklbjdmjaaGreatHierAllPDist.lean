/-
  Plain lemmas on the functions.
  Conditions: none.
-/
import Derived.Test.YtemajkklbjdmjaaGreatHierAllPPickN
set_option linter.unusedVariables false
set_option linter.unusedSimpArgs false
set_option maxRecDepth 20000
namespace Go.PE
def e0 (d:List (List Int)) (i k:Nat):Int:=List.getD (List.getD d i []) k 0
structure OkD (d:List (List Int)):Prop where
 len:d.length=8
 rows:∀ i,i<8→(List.getD d i []).length=8
 vals:∀ i k,i<8→k<8→0≤e0 d i k∧e0 d i k≤1000∧e0 d i k=e0 d k i∧(i=k→e0 d i k=0)
theorem lt8 {i:Nat} (h:i<8):i=0∨i=1∨i=2∨i=3∨i=4∨i=5∨i=6∨i=7:=by omega
def dv (r:Nat):Int:=List.getD [1,2,3,5,9,9,20,1000,0] r 0
theorem dv_le {r:Nat} (h:(r:Int)<9):0≤dv r∧dv r≤1000:=by
 have:r=0∨r=1∨r=2∨r=3∨r=4∨r=5∨r=6∨r=7∨r=8:=by omega
 rcases this with rfl | rfl | rfl | rfl | rfl | rfl | rfl | rfl | rfl<;>decide
theorem okD_mk (v1 v2 v3 v4 v5 v6 v7 v8 v9 v10 v11 v12 v13 v14 v15 v16 v17 v18 v19 v20 v21 v22 v23 v24 v25 v26 v27 v28:Int) (h1:0≤v1∧v1≤1000) (h2:0≤v2∧v2≤1000) (h3:0≤v3∧v3≤1000) (h4:0≤v4∧v4≤1000) (h5:0≤v5∧v5≤1000) (h6:0≤v6∧v6≤1000) (h7:0≤v7∧v7≤1000) (h8:0≤v8∧v8≤1000) (h9:0≤v9∧v9≤1000) (h10:0≤v10∧v10≤1000) (h11:0≤v11∧v11≤1000) (h12:0≤v12∧v12≤1000) (h13:0≤v13∧v13≤1000) (h14:0≤v14∧v14≤1000) (h15:0≤v15∧v15≤1000) (h16:0≤v16∧v16≤1000) (h17:0≤v17∧v17≤1000) (h18:0≤v18∧v18≤1000) (h19:0≤v19∧v19≤1000) (h20:0≤v20∧v20≤1000) (h21:0≤v21∧v21≤1000) (h22:0≤v22∧v22≤1000) (h23:0≤v23∧v23≤1000) (h24:0≤v24∧v24≤1000) (h25:0≤v25∧v25≤1000) (h26:0≤v26∧v26≤1000) (h27:0≤v27∧v27≤1000) (h28:0≤v28∧v28≤1000):OkD [[0,v1,v2,v4,v7,v11,v16,v22],[v1,0,v3,v5,v8,v12,v17,v23],[v2,v3,0,v6,v9,v13,v18,v24],[v4,v5,v6,0,v10,v14,v19,v25],[v7,v8,v9,v10,0,v15,v20,v26],[v11,v12,v13,v14,v15,0,v21,v27],[v16,v17,v18,v19,v20,v21,0,v28],[v22,v23,v24,v25,v26,v27,v28,0]]:=by
 refine ⟨rfl,fun i hi=>?_,fun i k hi hk=>?_⟩
 ·rcases lt8 hi with rfl | rfl | rfl | rfl | rfl | rfl | rfl | rfl<;>rfl
 ·rcases lt8 hi with rfl | rfl | rfl | rfl | rfl | rfl | rfl | rfl
  ·rcases lt8 hk with rfl | rfl | rfl | rfl | rfl | rfl | rfl | rfl
   ·exact ⟨(by decide:(0:Int)≤0),(by decide:(0:Int)≤1000),rfl,fun _=>rfl⟩
   ·exact ⟨h1.1,h1.2,rfl,fun h=>absurd h (by decide)⟩
   ·exact ⟨h2.1,h2.2,rfl,fun h=>absurd h (by decide)⟩
   ·exact ⟨h4.1,h4.2,rfl,fun h=>absurd h (by decide)⟩
   ·exact ⟨h7.1,h7.2,rfl,fun h=>absurd h (by decide)⟩
   ·exact ⟨h11.1,h11.2,rfl,fun h=>absurd h (by decide)⟩
   ·exact ⟨h16.1,h16.2,rfl,fun h=>absurd h (by decide)⟩
   ·exact ⟨h22.1,h22.2,rfl,fun h=>absurd h (by decide)⟩
  ·rcases lt8 hk with rfl | rfl | rfl | rfl | rfl | rfl | rfl | rfl
   ·exact ⟨h1.1,h1.2,rfl,fun h=>absurd h (by decide)⟩
   ·exact ⟨(by decide:(0:Int)≤0),(by decide:(0:Int)≤1000),rfl,fun _=>rfl⟩
   ·exact ⟨h3.1,h3.2,rfl,fun h=>absurd h (by decide)⟩
   ·exact ⟨h5.1,h5.2,rfl,fun h=>absurd h (by decide)⟩
   ·exact ⟨h8.1,h8.2,rfl,fun h=>absurd h (by decide)⟩
   ·exact ⟨h12.1,h12.2,rfl,fun h=>absurd h (by decide)⟩
   ·exact ⟨h17.1,h17.2,rfl,fun h=>absurd h (by decide)⟩
   ·exact ⟨h23.1,h23.2,rfl,fun h=>absurd h (by decide)⟩
  ·rcases lt8 hk with rfl | rfl | rfl | rfl | rfl | rfl | rfl | rfl
   ·exact ⟨h2.1,h2.2,rfl,fun h=>absurd h (by decide)⟩
   ·exact ⟨h3.1,h3.2,rfl,fun h=>absurd h (by decide)⟩
   ·exact ⟨(by decide:(0:Int)≤0),(by decide:(0:Int)≤1000),rfl,fun _=>rfl⟩
   ·exact ⟨h6.1,h6.2,rfl,fun h=>absurd h (by decide)⟩
   ·exact ⟨h9.1,h9.2,rfl,fun h=>absurd h (by decide)⟩
   ·exact ⟨h13.1,h13.2,rfl,fun h=>absurd h (by decide)⟩
   ·exact ⟨h18.1,h18.2,rfl,fun h=>absurd h (by decide)⟩
   ·exact ⟨h24.1,h24.2,rfl,fun h=>absurd h (by decide)⟩
  ·rcases lt8 hk with rfl | rfl | rfl | rfl | rfl | rfl | rfl | rfl
   ·exact ⟨h4.1,h4.2,rfl,fun h=>absurd h (by decide)⟩
   ·exact ⟨h5.1,h5.2,rfl,fun h=>absurd h (by decide)⟩
   ·exact ⟨h6.1,h6.2,rfl,fun h=>absurd h (by decide)⟩
   ·exact ⟨(by decide:(0:Int)≤0),(by decide:(0:Int)≤1000),rfl,fun _=>rfl⟩
   ·exact ⟨h10.1,h10.2,rfl,fun h=>absurd h (by decide)⟩
   ·exact ⟨h14.1,h14.2,rfl,fun h=>absurd h (by decide)⟩
   ·exact ⟨h19.1,h19.2,rfl,fun h=>absurd h (by decide)⟩
   ·exact ⟨h25.1,h25.2,rfl,fun h=>absurd h (by decide)⟩
  ·rcases lt8 hk with rfl | rfl | rfl | rfl | rfl | rfl | rfl | rfl
   ·exact ⟨h7.1,h7.2,rfl,fun h=>absurd h (by decide)⟩
   ·exact ⟨h8.1,h8.2,rfl,fun h=>absurd h (by decide)⟩
   ·exact ⟨h9.1,h9.2,rfl,fun h=>absurd h (by decide)⟩
   ·exact ⟨h10.1,h10.2,rfl,fun h=>absurd h (by decide)⟩
   ·exact ⟨(by decide:(0:Int)≤0),(by decide:(0:Int)≤1000),rfl,fun _=>rfl⟩
   ·exact ⟨h15.1,h15.2,rfl,fun h=>absurd h (by decide)⟩
   ·exact ⟨h20.1,h20.2,rfl,fun h=>absurd h (by decide)⟩
   ·exact ⟨h26.1,h26.2,rfl,fun h=>absurd h (by decide)⟩
  ·rcases lt8 hk with rfl | rfl | rfl | rfl | rfl | rfl | rfl | rfl
   ·exact ⟨h11.1,h11.2,rfl,fun h=>absurd h (by decide)⟩
   ·exact ⟨h12.1,h12.2,rfl,fun h=>absurd h (by decide)⟩
   ·exact ⟨h13.1,h13.2,rfl,fun h=>absurd h (by decide)⟩
   ·exact ⟨h14.1,h14.2,rfl,fun h=>absurd h (by decide)⟩
   ·exact ⟨h15.1,h15.2,rfl,fun h=>absurd h (by decide)⟩
   ·exact ⟨(by decide:(0:Int)≤0),(by decide:(0:Int)≤1000),rfl,fun _=>rfl⟩
   ·exact ⟨h21.1,h21.2,rfl,fun h=>absurd h (by decide)⟩
   ·exact ⟨h27.1,h27.2,rfl,fun h=>absurd h (by decide)⟩
  ·rcases lt8 hk with rfl | rfl | rfl | rfl | rfl | rfl | rfl | rfl
   ·exact ⟨h16.1,h16.2,rfl,fun h=>absurd h (by decide)⟩
   ·exact ⟨h17.1,h17.2,rfl,fun h=>absurd h (by decide)⟩
   ·exact ⟨h18.1,h18.2,rfl,fun h=>absurd h (by decide)⟩
   ·exact ⟨h19.1,h19.2,rfl,fun h=>absurd h (by decide)⟩
   ·exact ⟨h20.1,h20.2,rfl,fun h=>absurd h (by decide)⟩
   ·exact ⟨h21.1,h21.2,rfl,fun h=>absurd h (by decide)⟩
   ·exact ⟨(by decide:(0:Int)≤0),(by decide:(0:Int)≤1000),rfl,fun _=>rfl⟩
   ·exact ⟨h28.1,h28.2,rfl,fun h=>absurd h (by decide)⟩
  ·rcases lt8 hk with rfl | rfl | rfl | rfl | rfl | rfl | rfl | rfl
   ·exact ⟨h22.1,h22.2,rfl,fun h=>absurd h (by decide)⟩
   ·exact ⟨h23.1,h23.2,rfl,fun h=>absurd h (by decide)⟩
   ·exact ⟨h24.1,h24.2,rfl,fun h=>absurd h (by decide)⟩
   ·exact ⟨h25.1,h25.2,rfl,fun h=>absurd h (by decide)⟩
   ·exact ⟨h26.1,h26.2,rfl,fun h=>absurd h (by decide)⟩
   ·exact ⟨h27.1,h27.2,rfl,fun h=>absurd h (by decide)⟩
   ·exact ⟨h28.1,h28.2,rfl,fun h=>absurd h (by decide)⟩
   ·exact ⟨(by decide:(0:Int)≤0),(by decide:(0:Int)≤1000),rfl,fun _=>rfl⟩
theorem pk_dist {s0:List Int × Int} (h0:PkOk s0):∃ (d:List (List Int)) (s':List Int × Int),pleachmade_Picks_Dist s0=some ((d,()),(s',()))∧OkD d∧PkOk s':=by
 unfold pleachmade_Picks_Dist
 obtain ⟨r1,s1,e1,q1,h1⟩:=pk_num h0 9 (by omega)
 rw [e1];dsimp only [Option.bind_some]
 rw [cand,cdp (by omega),cdp (by omega),cand,cdp (by omega),cdp (by omega)]
 obtain ⟨r2,s2,e2,q2,h2⟩:=pk_num h1 9 (by omega)
 rw [e2];dsimp only [Option.bind_some]
 rw [cand,cdp (by omega),cdp (by omega),cand,cdp (by omega),cdp (by omega)]
 obtain ⟨r3,s3,e3,q3,h3⟩:=pk_num h2 9 (by omega)
 rw [e3];dsimp only [Option.bind_some]
 rw [cand,cdp (by omega),cdp (by omega),cand,cdp (by omega),cdp (by omega)]
 obtain ⟨r4,s4,e4,q4,h4⟩:=pk_num h3 9 (by omega)
 rw [e4];dsimp only [Option.bind_some]
 rw [cand,cdp (by omega),cdp (by omega),cand,cdp (by omega),cdp (by omega)]
 obtain ⟨r5,s5,e5,q5,h5⟩:=pk_num h4 9 (by omega)
 rw [e5];dsimp only [Option.bind_some]
 rw [cand,cdp (by omega),cdp (by omega),cand,cdp (by omega),cdp (by omega)]
 obtain ⟨r6,s6,e6,q6,h6⟩:=pk_num h5 9 (by omega)
 rw [e6];dsimp only [Option.bind_some]
 rw [cand,cdp (by omega),cdp (by omega),cand,cdp (by omega),cdp (by omega)]
 obtain ⟨r7,s7,e7,q7,h7⟩:=pk_num h6 9 (by omega)
 rw [e7];dsimp only [Option.bind_some]
 rw [cand,cdp (by omega),cdp (by omega),cand,cdp (by omega),cdp (by omega)]
 obtain ⟨r8,s8,e8,q8,h8⟩:=pk_num h7 9 (by omega)
 rw [e8];dsimp only [Option.bind_some]
 rw [cand,cdp (by omega),cdp (by omega),cand,cdp (by omega),cdp (by omega)]
 obtain ⟨r9,s9,e9,q9,h9⟩:=pk_num h8 9 (by omega)
 rw [e9];dsimp only [Option.bind_some]
 rw [cand,cdp (by omega),cdp (by omega),cand,cdp (by omega),cdp (by omega)]
 obtain ⟨r10,s10,e10,q10,h10⟩:=pk_num h9 9 (by omega)
 rw [e10];dsimp only [Option.bind_some]
 rw [cand,cdp (by omega),cdp (by omega),cand,cdp (by omega),cdp (by omega)]
 obtain ⟨r11,s11,e11,q11,h11⟩:=pk_num h10 9 (by omega)
 rw [e11];dsimp only [Option.bind_some]
 rw [cand,cdp (by omega),cdp (by omega),cand,cdp (by omega),cdp (by omega)]
 obtain ⟨r12,s12,e12,q12,h12⟩:=pk_num h11 9 (by omega)
 rw [e12];dsimp only [Option.bind_some]
 rw [cand,cdp (by omega),cdp (by omega),cand,cdp (by omega),cdp (by omega)]
 obtain ⟨r13,s13,e13,q13,h13⟩:=pk_num h12 9 (by omega)
 rw [e13];dsimp only [Option.bind_some]
 rw [cand,cdp (by omega),cdp (by omega),cand,cdp (by omega),cdp (by omega)]
 obtain ⟨r14,s14,e14,q14,h14⟩:=pk_num h13 9 (by omega)
 rw [e14];dsimp only [Option.bind_some]
 rw [cand,cdp (by omega),cdp (by omega),cand,cdp (by omega),cdp (by omega)]
 obtain ⟨r15,s15,e15,q15,h15⟩:=pk_num h14 9 (by omega)
 rw [e15];dsimp only [Option.bind_some]
 rw [cand,cdp (by omega),cdp (by omega),cand,cdp (by omega),cdp (by omega)]
 obtain ⟨r16,s16,e16,q16,h16⟩:=pk_num h15 9 (by omega)
 rw [e16];dsimp only [Option.bind_some]
 rw [cand,cdp (by omega),cdp (by omega),cand,cdp (by omega),cdp (by omega)]
 obtain ⟨r17,s17,e17,q17,h17⟩:=pk_num h16 9 (by omega)
 rw [e17];dsimp only [Option.bind_some]
 rw [cand,cdp (by omega),cdp (by omega),cand,cdp (by omega),cdp (by omega)]
 obtain ⟨r18,s18,e18,q18,h18⟩:=pk_num h17 9 (by omega)
 rw [e18];dsimp only [Option.bind_some]
 rw [cand,cdp (by omega),cdp (by omega),cand,cdp (by omega),cdp (by omega)]
 obtain ⟨r19,s19,e19,q19,h19⟩:=pk_num h18 9 (by omega)
 rw [e19];dsimp only [Option.bind_some]
 rw [cand,cdp (by omega),cdp (by omega),cand,cdp (by omega),cdp (by omega)]
 obtain ⟨r20,s20,e20,q20,h20⟩:=pk_num h19 9 (by omega)
 rw [e20];dsimp only [Option.bind_some]
 rw [cand,cdp (by omega),cdp (by omega),cand,cdp (by omega),cdp (by omega)]
 obtain ⟨r21,s21,e21,q21,h21⟩:=pk_num h20 9 (by omega)
 rw [e21];dsimp only [Option.bind_some]
 rw [cand,cdp (by omega),cdp (by omega),cand,cdp (by omega),cdp (by omega)]
 obtain ⟨r22,s22,e22,q22,h22⟩:=pk_num h21 9 (by omega)
 rw [e22];dsimp only [Option.bind_some]
 rw [cand,cdp (by omega),cdp (by omega),cand,cdp (by omega),cdp (by omega)]
 obtain ⟨r23,s23,e23,q23,h23⟩:=pk_num h22 9 (by omega)
 rw [e23];dsimp only [Option.bind_some]
 rw [cand,cdp (by omega),cdp (by omega),cand,cdp (by omega),cdp (by omega)]
 obtain ⟨r24,s24,e24,q24,h24⟩:=pk_num h23 9 (by omega)
 rw [e24];dsimp only [Option.bind_some]
 rw [cand,cdp (by omega),cdp (by omega),cand,cdp (by omega),cdp (by omega)]
 obtain ⟨r25,s25,e25,q25,h25⟩:=pk_num h24 9 (by omega)
 rw [e25];dsimp only [Option.bind_some]
 rw [cand,cdp (by omega),cdp (by omega),cand,cdp (by omega),cdp (by omega)]
 obtain ⟨r26,s26,e26,q26,h26⟩:=pk_num h25 9 (by omega)
 rw [e26];dsimp only [Option.bind_some]
 rw [cand,cdp (by omega),cdp (by omega),cand,cdp (by omega),cdp (by omega)]
 obtain ⟨r27,s27,e27,q27,h27⟩:=pk_num h26 9 (by omega)
 rw [e27];dsimp only [Option.bind_some]
 rw [cand,cdp (by omega),cdp (by omega),cand,cdp (by omega),cdp (by omega)]
 obtain ⟨r28,s28,e28,q28,h28⟩:=pk_num h27 9 (by omega)
 rw [e28];dsimp only [Option.bind_some]
 rw [cand,cdp (by omega),cdp (by omega),cand,cdp (by omega),cdp (by omega)]
 exact ⟨_,s28,rfl,okD_mk (dv r1) (dv r2) (dv r3) (dv r4) (dv r5) (dv r6) (dv r7) (dv r8) (dv r9) (dv r10) (dv r11) (dv r12) (dv r13) (dv r14) (dv r15) (dv r16) (dv r17) (dv r18) (dv r19) (dv r20) (dv r21) (dv r22) (dv r23) (dv r24) (dv r25) (dv r26) (dv r27) (dv r28) (dv_le q1) (dv_le q2) (dv_le q3) (dv_le q4) (dv_le q5) (dv_le q6) (dv_le q7) (dv_le q8) (dv_le q9) (dv_le q10) (dv_le q11) (dv_le q12) (dv_le q13) (dv_le q14) (dv_le q15) (dv_le q16) (dv_le q17) (dv_le q18) (dv_le q19) (dv_le q20) (dv_le q21) (dv_le q22) (dv_le q23) (dv_le q24) (dv_le q25) (dv_le q26) (dv_le q27) (dv_le q28),h28⟩
end Go.PE
