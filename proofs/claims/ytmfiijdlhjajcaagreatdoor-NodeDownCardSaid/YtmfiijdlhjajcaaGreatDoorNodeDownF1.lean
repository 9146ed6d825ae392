/-
  Functions of the program, each as the evaluator answers it, and its contract.
  Conditions: none.
-/
import Derived.Test.YtmfiijdlhjajcaaGreatDoorNodeDownT
import Derived.WalkKit
import Derived.BigCall
import Derived.Lib.OthersKept
set_option linter.unusedVariables false
set_option maxRecDepth 100000
namespace Go.PE
open Go.Proofs
noncomputable def Qtx (r_0:Int):Option ((Int × Unit) × Unit):=
 bif decide (r_0<0) then
  some (((-1),()),())
 else
 bif decide (r_0≤127) then
  some ((1,()),())
 else
 bif decide (r_0≤2047) then
  some ((2,()),())
 else
 bif decide (55296≤r_0) then
  bif decide (r_0≤57343) then
   some (((-1),()),())
  else
  bif decide (r_0≤65535) then
   some ((3,()),())
  else
  bif decide (r_0≤1114111) then
   some ((4,()),())
  else
   some (((-1),()),())
 else
 bif decide (r_0≤65535) then
  some ((3,()),())
 else
 bif decide (r_0≤1114111) then
  some ((4,()),())
 else
  some (((-1),()),())
noncomputable def Qwu:Ent:=⟨[.val t21],[⟨t2,[false],none⟩],fun x=>Qtx x.1⟩
theorem Z34:GD 174 Qwu:=fnk 1 (fo [[0,16,17],[0,3,16,17],[2],[0,6,16,17],[2],[0,9,16,17],[2],[0,12],[2],[0,19],[2],[22],[2],[2]]) Qk3 Tryz.func174
noncomputable def Qnm (s_0:ByteArray):Option ((Int × Int × Unit) × Unit):=
 bif !(Qeq s_0 (⟨#[]⟩:ByteArray)) then
  bif decide (0<(s_0.size:Int)) then
   bif decide (((s_0.data.getD 0 0).toNat:Int)<128) then
    bif decide (0<(s_0.size:Int)) then
     some ((IntKind.wrap .i32 ((s_0.data.getD 0 0).toNat:Int),1,()),())
    else none
   else none
  else none
 else none
noncomputable def Qq7:Ent:=⟨[.val t9],[⟨t21,[false],none⟩,⟨t2,[false],none⟩],fun x=>Qnm x.1⟩
theorem Quf:GD 175 Qq7:=fnk 1 (fo [[0,7,8,9],[0,10],[2,3],[2,3]]) Qk3 Tryz.func175
noncomputable def Qyc (letter_0 x_1 x_2:Int) (x_3:List Int):Option ((Bool × Unit) × ((List Int) × Unit)):=
 bif Nat.ble (x_3.length+1) 1073741824 then
  some ((true,()),(x_3++[letter_0],()))
 else none
noncomputable def Z1n:Ent:=⟨[.val t2,.val t2,.val t2,.box 28 t28 [true]],[⟨t4,[false],none⟩],fun x=>Qyc x.1 x.2.1 x.2.2.1 x.2.2.2.1⟩
theorem Z73:GD 144 Z1n:=fnk 1 (fo [[3,0],[3],[3,7]]) Qk3 Tryz.func144
section
open Go.RowKit
def Zhi (s:ByteArray):Bool:=s.data.toList.all fun b=>Nat.blt b.toNat 128
def Qrz (s:ByteArray):List Int:=s.data.toList.map fun b=>(b.toNat:Int)
theorem Zjt {s:ByteArray} (h:Zhi s=true) {i:Nat} (hi:i<s.size):(s[i]'hi).toNat<128:=by
  have:=List.all_eq_true.1 h (s.data.toList[i]'(by simpa using hi)) (List.getElem_mem _)
  exact Nat.le_of_ble_eq_true this
theorem Zi9 {s:ByteArray} {i:Nat} (hi:i<s.size):(Qrz s).take (i+1)=(Qrz s).take i++[((s[i]'hi).toNat:Int)]:=by
  have hl:i<(Qrz s).length:=by simpa [Qrz] using hi
  rw [List.take_succ_eq_append_getElem hl]
  simp [Qrz]
  rfl
theorem Zdf (s:ByteArray):(Qrz s).length=s.size:=by simp [Qrz]
abbrev Zqz:Ty:=.sl 3 (.int .i64)
def Zdz (w:World) (B:Nat) (xs:List Int) (Bl:List Nat):Prop:=
  Q1v tab.ty (fun _=>False) w Zqz [true] xs (.pointer (some ⟨B,0,none⟩)) Bl
theorem Zc3 {S:Nat→Prop} {w w':World}:∀ {xs:List Int} {cs:List Value},Q1 tab.ty S w (.int .i64) xs cs→Q1 tab.ty (fun _=>False) w' (.int .i64) xs cs
  | [],cs,h=>h
  | x::r,cs,h=>by
    obtain ⟨c,cr,hc,h1,h2⟩:=h
    exact ⟨c,cr,hc,h1,Zc3 h2⟩
theorem Zdz.mv {S:Nat→Prop} {w w':World} {B:Nat} {xs:List Int} {Bl:List Nat} (h:Q1v tab.ty S w Zqz [true] xs (.pointer (some ⟨B,0,none⟩)) Bl) (hk:∀ j∈Bl,w'.heap[j]?=w.heap[j]?):Zdz w' B xs Bl:=by
  obtain ⟨b,T,cs,B',hv,hh,hB,hown⟩:=h
  obtain ⟨c,cr,B1,B2,e1,e2,h1,h2⟩:=hown
  obtain ⟨h0,⟨cells,hr,hc⟩,hb⟩:=h1
  subst hB;subst e2;subst hb
  refine ⟨b,T,cs,_,hv,(hk b (by simp)).trans hh,rfl,c,cr,_,B2,e1,rfl,⟨h0,⟨cells,⟨hr.1,?_⟩,Zc3 hc⟩,rfl⟩,h2⟩
  rcases hr.2 with hn | ⟨g,cap,cur,rfl,hg,hh',rest⟩
  · exact .inl hn
  · exact .inr ⟨g,cap,cur,rfl,hg,(hk g (by simp [blk])).trans hh',rest⟩
theorem Zm6 (c:Nat) (hc:c<128) (W:World):Calls Tryz.prog 174 #[.int .i32 (c:Int)] W fun e W'=>e=.returned (.int .i64 1)∧Fr (fun _=>False) W W':=by
  have hG:Qwu.G ((c:Int),())=some (((1:Int),()),()):=by
    show Qtx (c:Int)=_
    unfold Qtx
    rw [show decide ((c:Int)<0)=false from decide_eq_false (by omega),show decide ((c:Int)≤127)=true from decide_eq_true (by omega)]
    rfl
  refine (Z34.2 W (fun _=>False) ((c:Int),()) [.int .i32 (c:Int)] [] (((1:Int),()),()) (fun _ h=>h.elim) ⟨_,_,[],[],rfl,rfl,⟨.inr ⟨rfl,rfl⟩,rfl⟩,rfl,rfl⟩ List.nodup_nil (by simp) hG).mono ?_
  rintro e W' ⟨vs,S',B1,B2,rfl,hr,_,_,_,_,_,hf⟩
  obtain ⟨v,vr,b1,b2,rfl,_,h1,rfl,_⟩:=hr
  obtain ⟨cs,_,hcs,hcs2⟩:=h1
  have:=hcs rfl;subst this
  obtain ⟨c1,cr,_,_,e1,_,h3,_⟩:=hcs2
  have h3:Rep tab.ty S' W' (.int .i64) (1:Int) [c1]∧_=[]:=h3
  obtain ⟨rfl,_⟩:=List.cons.inj e1
  have h4:[v]=[Value.int .i64 1]:=h3.1
  obtain ⟨rfl,_⟩:=List.cons.inj h4
  exact ⟨rfl,hf.mono (fun k hk=>by cases hk)⟩
theorem Zno (s:ByteArray) (c:Nat) (h0:s.size≠0) (hs:(s.data.getD 0 0).toNat=c) (hc:c<128) (W:World):Calls Tryz.prog 175 #[.string s] W fun e W'=>e=.returned (.tuple #[.int .i32 (c:Int),.int .i64 1])∧Fr (fun _=>False) W W':=by
  have hG:Qq7.G (s,())=some (((c:Int),(1:Int),()),()):=by
    show Qnm s=_
    unfold Qnm
    have e1:Qeq s (⟨#[]⟩:ByteArray)=false:=by
      rw [← Bool.not_eq_true]
      intro h
      have:s.data.toList=[]:=by simpa [Qeq] using h
      exact h0 (by have:=congrArg List.length this;rw [Array.length_toList] at this;exact this)
    rw [e1,show decide (0<(s.size:Int))=true from decide_eq_true (by omega),hs,show decide ((c:Int)<128)=true from decide_eq_true (by omega)]
    have:IntKind.wrap .i32 (c:Int)=(c:Int):=by
      have h1:(c:Int) % 4294967296=c:=by omega
      rw [IntKind.wrap_i32];omega
    rw [this]
    rfl
  refine (Quf.2 W (fun _=>False) (s,()) [.string s] [] (((c:Int),(1:Int),()),()) (fun _ h=>h.elim) ⟨_,_,[],[],rfl,rfl,⟨.inr ⟨rfl,rfl⟩,rfl⟩,rfl,rfl⟩ List.nodup_nil (by simp) hG).mono ?_
  rintro e W' ⟨vs,S',B1,B2,rfl,hr,_,_,_,_,_,hf⟩
  obtain ⟨v,vr,b1,b2,rfl,_,h1,v2,vr2,_,_,rfl,_,h2,rfl,_⟩:=hr
  obtain ⟨cs,_,hcs,hcs2⟩:=h1
  have:=hcs rfl;subst this
  obtain ⟨c1,cr,_,_,e1,_,h3,_⟩:=hcs2
  have h3:Rep tab.ty S' W' (.int .i32) (c:Int) [c1]∧_=[]:=h3
  obtain ⟨rfl,_⟩:=List.cons.inj e1
  have h4:[v]=[Value.int .i32 (c:Int)]:=h3.1
  obtain ⟨rfl,_⟩:=List.cons.inj h4
  obtain ⟨cs,_,hcs,hcs2⟩:=h2
  have:=hcs rfl;subst this
  obtain ⟨c1,cr,_,_,e1,_,h3,_⟩:=hcs2
  have h3:Rep tab.ty S' W' (.int .i64) (1:Int) [c1]∧_=[]:=h3
  obtain ⟨rfl,_⟩:=List.cons.inj e1
  have h4:[v2]=[Value.int .i64 1]:=h3.1
  obtain ⟨rfl,_⟩:=List.cons.inj h4
  exact ⟨rfl,hf.mono (fun k hk=>by cases hk)⟩
theorem Zqv (x a b:Int) (B:Nat) (xs:List Int) (Bl:List Nat) (W:World) (hB:Zdz W B xs Bl) (hn:Bl.Nodup) (hlt:∀ j∈Bl,j<W.heap.size) (hx:xs.length+1≤1073741824) :
    Calls Tryz.prog 144 #[.int .i64 x,.int .i64 a,.int .i64 b,.pointer (some ⟨B,0,none⟩)] W fun e W'=>e=.returned (.bool true)∧∃ Bl',Zdz W' B (xs++[x]) Bl'∧Bl'.Nodup∧(∀ j∈Bl',j<W'.heap.size∧(W.heap.size≤j∨j∈Bl))∧Fr (fun j=>j∈Bl) W W':=by
  have hG:Z1n.G (x,a,b,xs,())=some ((true,()),(xs++[x],())):=by
    show Qyc x a b xs=_
    unfold Qyc
    rw [show Nat.ble (xs.length+1) 1073741824=true from Q2.2 hx]
    rfl
  refine (Z73.2 W (fun _=>False) (x,a,b,xs,()) [.int .i64 x,.int .i64 a,.int .i64 b,.pointer (some ⟨B,0,none⟩)] Bl ((true,()),(xs++[x],())) (fun _ h=>h.elim)
    ⟨_,_,[],Bl,rfl,rfl,⟨.inr ⟨rfl,rfl⟩,rfl⟩,_,_,[],Bl,rfl,rfl,⟨.inr ⟨rfl,rfl⟩,rfl⟩,_,_,[],Bl,rfl,rfl,⟨.inr ⟨rfl,rfl⟩,rfl⟩,_,_,Bl,[],rfl,(List.append_nil _).symm,hB,rfl,rfl⟩ hn (fun k hk=>⟨fun h=>h,hlt k hk⟩) hG).mono ?_
  rintro e W' ⟨vs,S',B1,B2,rfl,hr,ho,hnd,hbl,_,_,hf⟩
  obtain ⟨v,vr,b1,b2,rfl,_,h1,rfl,_⟩:=hr
  obtain ⟨cs,_,hcs,hcs2⟩:=h1
  have:=hcs rfl;subst this
  obtain ⟨c1,cr,_,_,e1,_,h3,_⟩:=hcs2
  have h3:Rep tab.ty S' W' .bool true [c1]∧_=[]:=h3
  obtain ⟨rfl,_⟩:=List.cons.inj e1
  have h4:[v]=[Value.bool true]:=h3.1
  obtain ⟨rfl,_⟩:=List.cons.inj h4
  obtain ⟨v3,vr3,c1,c2,e3,rfl,hv3,hc2⟩:=ho
  have hc2:c2=[]:=hc2
  subst hc2
  obtain ⟨rfl,_⟩:=List.cons.inj (show [Value.pointer (some ⟨B,0,none⟩)]=v3::vr3 from e3)
  refine ⟨rfl,c1,Zdz.mv hv3 (fun _ _=>rfl),?_,fun j hj=>?_,hf⟩
  · have:=(List.nodup_append.1 hnd).2.1
    simpa using this
  · have:=hbl j (List.mem_append.2 (.inr (List.mem_append.2 (.inl hj))))
    exact this.2
set_option maxHeartbeats 4000000 in
set_option maxRecDepth 1000000 in
theorem Zqf (s:ByteArray) (ha:Zhi s=true) (hs:s.size≤1073741824) (w:World) (B:Nat) (Bl:List Nat) (hB:Zdz w B [] Bl) (hn:Bl.Nodup) (hlt:∀ j∈Bl,j<w.heap.size) :
    Calls Tryz.prog 143 #[.string s,.func (.func 144) #[] #[.pointer (some ⟨B,0,none⟩)]] w fun e w'=>e=.returned (.tuple #[])∧∃ Bl',Zdz w' B (Qrz s) Bl'∧Bl'.Nodup∧(∀ j∈Bl',j<w'.heap.size∧(w.heap.size≤j∨j∈Bl))∧Fr (fun j=>j∈Bl) w w':=by
  go_enter Tryz.func143,Tryz.ntmps143
  go_wp2
  go_loopw [] (fun wr=>∃ (pos:Nat) (Bl':List Nat),wr.heap[w.heap.size]?=some (.stringIter s pos)∧pos≤s.size∧Zdz wr B ((Qrz s).take pos) Bl'∧Bl'.Nodup∧(∀ j∈Bl',j<wr.heap.size∧(w.heap.size<j∨j∈Bl))∧Fr (fun j=>j∈Bl) w wr) (fun wr=>s.size - wr.iterPos (w.heap.size))
  case atStart=>
    refine ⟨0,Bl,World.iter_heap w s 0,Nat.zero_le _,?_,hn,fun j hj=>⟨?_,.inr hj⟩,?_⟩
    · rw [List.take_zero];exact Zdz.mv hB (fun j hj=>RowKit.Below.heap_alloc w _ j (hlt j hj))
    · have:=hlt j hj;simp [World.iter];omega
    · exact (Fr.alloc _ w _)
  case round=>
    obtain ⟨pos,Bl',hit,hpl,hb,hn',hbl,hf⟩:=hrel
    have hk:w.heap.size<wr.heap.size:=(Array.getElem?_eq_some_iff.1 hit).1
    have hkB:w.heap.size ∉ Bl':=fun h=>by
      rcases (hbl _ h).2 with h | h
      · omega
      · exact absurd (hlt _ h) (by omega)
    by_cases hp:pos<s.size
    · have hnx:∀ ty,(Instr.next (.pointer (some ⟨w.heap.size,0,none⟩)) true ty).run Tryz.prog wr=_:=fun ty=>Lib.run_next_ascii_at wr w.heap.size s pos ty hit hp (Zjt ha hp)
      generalize hc:(s[pos]'hp).toNat=c at hnx
      have hc128:c<128:=by rw [← hc];exact Zjt ha hp
      have hit2:=Lib.iterAt_heap wr w.heap.size s pos (pos+1) hit
      go_wp2_with (go_at_call 174;refine (Zm6 c hc128 _).mono ?_)
      rintro e W1 ⟨rfl,f1⟩
      have hsz:(s.extract pos s.size).size=s.size - pos:=by simp
      have hd0:((s.extract pos s.size).data.getD 0 0).toNat=c:=by
        rw [← hc]
        have e1:(s.extract pos s.size).data[0]?=some (s[pos]'hp):=by
          rw [ByteArray.data_extract,Array.getElem?_extract]
          rw [if_pos (by simp;omega)]
          simp only [Nat.add_zero]
          exact Array.getElem?_eq_getElem hp
        rw [Array.getD_eq_getD_getElem?,e1]
        rfl
      have f0:Fr (fun j=>j∈Bl) w (wr.iterAt w.heap.size s (pos+1)):=hf.trans' (Y:=fun j=>j=w.heap.size) ⟨rfl,rfl,rfl,by rw [Lib.iterAt_size];exact Nat.le_refl _,fun j _ hj=>Lib.iterAt_other _ _ _ _ _ hj⟩ (fun j h1 h2=>absurd h2 (by omega))
      go_wp2_with (go_at_call 175;refine (Zno _ c (by rw [hsz];omega) hd0 hc128 _).mono ?_)
      rintro e W2 ⟨rfl,f2⟩
      have hb2:Zdz W2 B ((Qrz s).take pos) Bl':=Zdz.mv hb (fun j hj=>by
        have h1:j<wr.heap.size:=(hbl j hj).1
        have h2:j<(wr.iterAt w.heap.size s (pos+1)).heap.size:=by rw [Lib.iterAt_size];exact h1
        rw [f2.block (Nat.lt_of_lt_of_le h2 f1.size) (fun x=>x),f1.block h2 (fun x=>x)]
        exact Lib.iterAt_other _ _ _ _ _ (fun e=>hkB (by rw [← e];exact hj)))
      have hw2:wr.heap.size≤W2.heap.size:=by
        have:=f1.size;have:=f2.size;rw [Lib.iterAt_size] at *;omega
      have hit3:W2.heap[w.heap.size]?=some (.stringIter s (pos+1)):=by
        have h2:w.heap.size<(wr.iterAt w.heap.size s (pos+1)).heap.size:=by rw [Lib.iterAt_size];exact hk
        rw [f2.block (Nat.lt_of_lt_of_le h2 f1.size) (fun x=>x),f1.block h2 (fun x=>x)]
        exact hit2
      have c65:¬ ((c:Int)=65533):=by omega
      have fn1h:=fun (a b:Int)=>Zqv (c:Int) a b B ((Qrz s).take pos) Bl' W2 hb2 hn' (fun j hj=>Nat.lt_of_lt_of_le (hbl j hj).1 hw2) (by rw [List.length_take,Zdf];omega)
      go_wp2_with (go_at_call 144;refine (fn1h _ _).mono ?_)
      rintro e W3 ⟨rfl,Bl3,hb3,hn3,hbl3,f3⟩
      go_wp2
      go_roundw
      case rel=>
        have hk3:W3.heap[w.heap.size]?=some (.stringIter s (pos+1)):=by
          rw [f3.block (by omega) hkB];exact hit3
        refine ⟨pos+1,Bl3,hk3,hp,by rw [Zi9 hp,hc];exact hb3,hn3,fun j hj=>⟨(hbl3 j hj).1,?_⟩,?_⟩
        · rcases (hbl3 j hj).2 with h | h
          · exact .inl (by omega)
          · exact (hbl j h).2
        · refine ((f0.trans' f1 (fun _ _ x=>x.elim)).trans' f2 (fun _ _ x=>x.elim)).trans' f3 (fun j h1 h2=>?_)
          rcases (hbl j h2).2 with h | h
          · omega
          · exact h
      case measure=>
        have hk3:W3.heap[w.heap.size]?=some (.stringIter s (pos+1)):=by
          rw [f3.block (by omega) hkB];exact hit3
        simp only [World.iterPos,hk3,hit]
        omega
    · have hnx:∀ ty,(Instr.next (.pointer (some ⟨w.heap.size,0,none⟩)) true ty).run Tryz.prog wr=_:=fun ty=>Lib.run_next_end_at wr w.heap.size s pos ty hit hp
      go_wp2
      go_end0
      have:pos=s.size:=by omega
      subst this
      rw [List.take_of_length_le (by rw [Zdf];exact Nat.le_refl _)] at hb
      exact ⟨rfl,Bl',hb,hn',fun j hj=>⟨(hbl j hj).1,(hbl j hj).2.imp Nat.le_of_lt id⟩,hf⟩
set_option maxHeartbeats 4000000 in
set_option maxRecDepth 1000000 in
theorem Zmt (s:ByteArray) (ha:Zhi s=true) (hs:s.size≤1073741824) (w:World) :
    Calls Tryz.prog 75 #[.string s] w fun e w'=>∃ v Bl,e=.returned v∧Q13 tab.ty (fun _=>False) w' 3 (.int .i64) (Qrz s) v Bl∧(∀ j∈Bl,j<w'.heap.size∧w.heap.size≤j)∧Fr (fun _=>False) w w':=by
  have hE:=fun W B Bl h1 h2 h3=>Zqf s ha hs W B Bl h1 h2 h3
  go_enter Tryz.func75,Tryz.ntmps75
  have hB0:Zdz (w.alloc (.cells #[.slice none 0 0] 28)) w.heap.size [] [w.heap.size]:=
    ⟨w.heap.size,28,#[.slice none 0 0],[],rfl,(by show (w.heap.push _)[w.heap.size]?=_;simp),rfl,.slice none 0 0,[],[],[],rfl,rfl,⟨Nat.zero_lt_one,⟨[],World.ownsRow_nil _ 0 3 1,rfl⟩,rfl⟩,rfl,rfl⟩
  go_wp2_with (go_at_call 143;refine (hE _ _ _ hB0 (by simp) (by simp)).mono ?_)
  rintro e W1 ⟨rfl,Bl1,hb1,hn1,hbl1,f1⟩
  obtain ⟨b,T,cs,B',hv,hh,hB,hown⟩:=hb1
  obtain ⟨c,cr,B1,B2,e1,e2,h1,h2⟩:=hown
  obtain ⟨rfl,rfl⟩:cr=[]∧B2=[]:=h2
  obtain ⟨h0,⟨cells,hr,hc⟩,hb⟩:Q13 tab.ty (fun _=>False) W1 3 (.int .i64) (Qrz s) c B1:=h1
  have hcs:cs=#[c]:=by apply Array.ext';exact e1
  subst hcs
  obtain ⟨rfl⟩:w.heap.size=b:=by injection hv with e;injection e with e;injection e
  have hcell:W1.cell? ⟨w.heap.size,0,none⟩=some c:=by simp [World.cell?,hh]
  have hfro:W1.frozen? ⟨w.heap.size,0,none⟩=false:=by simp [World.frozen?,hh]
  obtain ⟨A,n,cp,rfl⟩:=X1 hr
  subst hB;subst e2;subst hb
  have hne:∀ j∈(blk (Value.slice A n cp)).toList,j≠w.heap.size:=fun j hj e=>by
    have:=(List.nodup_cons.1 hn1).1
    exact this (by rw [← e];simpa using hj)
  have hh2:(W1.setCell ⟨w.heap.size,0,none⟩ (.slice A n cp)).heap[w.heap.size]?=some (.cells #[.slice A n cp] T (0,0)):=by
    obtain ⟨hlt2,hk2⟩:=Array.getElem?_eq_some_iff.1 hh
    show (W1.heap.modify w.heap.size _)[w.heap.size]?=_
    rw [Array.getElem?_eq_getElem (by rw [Array.size_modify];exact hlt2),Array.getElem_modify_self,hk2]
    rfl
  have hcell2:(W1.setCell ⟨w.heap.size,0,none⟩ (.slice A n cp)).cell? ⟨w.heap.size,0,none⟩=some (.slice A n cp):=by simp [World.cell?,hh2]
  go_wp2
  (try simp only [Exit.inBlock,Exit.then])
  refine bodyPost_ret (v:=.slice A n cp) (by simp only [results,show Tryz.f75.results=#[.cell 2 28] from rfl];go_simp) rfl ?_
  refine ⟨_,_,rfl,⟨h0,⟨cells,⟨hr.1,?_⟩,Zc3 hc⟩,rfl⟩,fun j hj=>⟨?_,?_⟩,?_⟩
  · rcases hr.2 with hn | ⟨g,cap,cur,e,hg,hh',rest⟩
    · exact .inl hn
    · refine .inr ⟨g,cap,cur,e,hg,?_,rest⟩
      injection e with e _ _
      subst e
      exact (RowKit.Below.heap_setCell W1 _ _ g (hne g (by simp [blk]))).trans hh'
  · have:=(hbl1 j (by simp only [List.mem_cons];exact .inr (by simpa using hj))).1
    simpa using this
  · rcases (hbl1 j (by simp only [List.mem_cons];exact .inr (by simpa using hj))).2 with h | h
    · simp at h;omega
    · simp at h;omega
  · exact ((Fr.alloc (fun _=>False) w _).trans' f1 (fun j h1 h2=>by simp at h2;omega)).trans' (Fr.setCell W1 _ _) (fun j h1 h2=>by simp at h2;omega)
noncomputable def Zd4 (s_0:ByteArray):Option (((List Int) × Unit) × Unit):=bif Zhi s_0&&Nat.ble s_0.size 1073741824 then some ((Qrz s_0,()),()) else none
noncomputable def Z94:Ent:=⟨[.val t9],[⟨t28,[true],none⟩],fun x=>Zd4 x.1⟩
theorem Zcl:Q4u tab.ty Tryz.prog 75 Z94:=by
  refine ⟨⟨_,Tryz.func75,by kernel_rfl,by kernel_rfl⟩,fun w S x vals B r hS ha hn hB hG=>?_⟩
  obtain ⟨s,u⟩:=x
  obtain ⟨v,vr,b1,b2,rfl,rfl,⟨hv,rfl⟩,rfl,rfl⟩:=ha
  have hG:(bif Zhi s&&Nat.ble s.size 1073741824 then some ((Qrz s,()),()) else none)=some r:=hG
  cases hq:(Zhi s&&Nat.ble s.size 1073741824) with
  | false=>rw [hq] at hG;cases hG
  | true=>
  rw [hq] at hG
  have hG:=Option.some.inj hG
  subst hG
  simp only [Bool.and_eq_true] at hq
  obtain ⟨hq1,hq2⟩:=hq
  have hv2:v=.string s:=by
    rcases hv with ⟨h,_⟩ | ⟨_,h⟩
    · cases h
    · have h:[v]=[Value.string s]:=h
      injection h
  subst hv2
  refine (Zmt s hq1 (Q2.1 hq2) w).mono ?_
  rintro e w' ⟨v,Bl,rfl,hr,hbl,hf⟩
  obtain ⟨h0,⟨cells,hr,hc⟩,rfl⟩:=hr
  refine ⟨[v],S,(blk v).toList,[],rfl,⟨v,[],(blk v).toList,[],rfl,by simp,⟨[v],(fun h=>by cases h),(fun _=>rfl),v,[],(blk v).toList,[],rfl,by simp,⟨h0,⟨cells,hr,?_⟩,rfl⟩,rfl,rfl⟩,rfl,rfl⟩,rfl,?_,fun k hk=>?_,fun _ h=>h,fun k hk=>⟨Nat.lt_of_lt_of_le (hS k hk) hf.size,.inl hk⟩,hf.mono (fun _ h=>h.elim)⟩
  · exact hc.frame (fun _ h=>h.elim) (Nat.le_refl _) (fun _ _ _=>rfl)
  · cases blk v<;>simp
  · have h1:=hbl k (by simpa using hk)
    exact ⟨fun h=>by have:=hS k h;omega,h1.1,.inl h1.2⟩
end
abbrev Qx4:Type:=(Bool × Unit) × Unit
noncomputable def Zl6:Ctx:=[(75,Z94)]
def Zd1:Fi:=fo [[0,17,18,19,20,21,22,29,30,31],[3,17,18,19,20,21,22,29,30,31],[3,8,9,10,17,18,19,20,21,22,29,30,31],[3,8,9,10,11,17,18,19,20,21,22,29,30,31],[3,5,8,9,10,17,18,19,20,21,22,29,30,31],[3,8,9,10,17,18,19,20,21,22,23,29,30,31],[2],[3,8,9,10,17,18,19,20,21,22,29,30,31],[2]]
abbrev Z7i:Type:=Int→Int→List Int→Option Qx4
noncomputable def Zdm (L1:Z7i) (v2 v3:Int) (v4:List Int):Option Qx4:=
 bif decide (v3<v2) then
  bif decide (0≤v3)&&decide (v3<(v4.length:Int)) then
   bif decide (0≤v3)&&decide (v3<(v4.length:Int)) then
    bif decide (List.getD v4 v3.toNat 0≤32) then
     some ((false,()),())
    else
    bif decide (List.getD v4 v3.toNat 0 ≥ 127) then
     bif decide (List.getD v4 v3.toNat 0≤159) then
      some ((false,()),())
     else
      L1 v2 (IntKind.wrap .i64 (v3+1)) v4
    else
     L1 v2 (IntKind.wrap .i64 (v3+1)) v4
   else none
  else none
 else
 bif decide ((v4.length:Int) ≥ 1) then
  some ((decide ((v4.length:Int)≤8),()),())
 else
  some ((false,()),())
noncomputable def Zfb (L1:Z7i) (s_0:ByteArray):Option Qx4:=
 Option.bind (Zd4 s_0) fun r1=>
 L1 (r1.1.1.length:Int) 0 r1.1.1
noncomputable def Zdn (n:Nat):Nat→Z7i:=iter (fun _ _ _=>none) fun L=>Zdm L
noncomputable def Z2g (n m:Nat) (v2 v3:Int) (v4:List Int):Option Qx4:=
 Qjv Zl6 tab (fiB [.val t9] Zd1) n [.val t9] [⟨t4,[false],none⟩] Tryz.f34 [1,1,0,1,0] [] [3,8,9,10] m
 ⟨[(3,V1 (.ref (888888,8))),(8,V1 (.ref (888888,8))),(9,Vp t2 v2),(10,Vp t2 v3)],[((888888,8),Ob.row 3 t2 v4)]⟩
theorem Z9y (n:Nat):∀ m,Z2g n m=Zdn n m
 | 0=>rfl
 | m+1=>by rw [show Z2g n (m+1)=Zdm (Z2g n m) from by kernel_rfl,Z9y n m];rfl
noncomputable def Zf3 (n:Nat) (s_0:ByteArray):Option Qx4:=Zfb (Zdn n n) s_0
noncomputable def Ziq (s_0:ByteArray):Option Qx4:=Zf3 1099511627776 s_0
noncomputable def Zkt:Ent:=⟨[.val t9],[⟨t4,[false],none⟩],fun x=>Ziq x.1⟩
theorem Zgc:GD 34 Zkt:=fnl Zd1 (fun n x=>Zf3 n x.1) (Qjy Zcl Qk3) Tryz.func34 fun n x=>Eq.trans (b:=Zfb (Z2g n n) x.1) (by kernel_rfl) (by rw [Z9y n n];rfl)
noncomputable def Qn6 (s:List Int):Option (((List Int) × Unit) × Unit):=bif Nat.ble s.length 1073741824 then some ((s,()),()) else none
theorem Z84 (s:List Int):Qde [] tab (Qk4 Tryz.f76 []) 1 [.val t28] [⟨t28,[true],none⟩] Tryz.f76 (s,())=bif !(List.isEmpty s) then bif Nat.ble (0+s.length) 1073741824 then some (([]++s,()),()) else none
 else Q3f (some (([],()),())) (bif Nat.ble (0+s.length) 1073741824 then some (([]++s,()),()) else none):=by kernel_rfl
theorem Z9d (s:List Int):Qde [] tab (Qk4 Tryz.f76 []) 1 [.val t28] [⟨t28,[true],none⟩] Tryz.f76 (s,())=Qn6 s:=by
  rw [Z84]
  cases s with
  | nil=>exact Qcu _
  | cons x q=>rw [Nat.zero_add];rfl
noncomputable def Zbc:Ent:=⟨[.val t28],[⟨t28,[true],none⟩],fun x=>Qn6 x.1⟩
theorem Qqc:Q4u tab.ty Tryz.prog 76 Zbc:=by
  refine Qjk (Γ:=[]) (fi:=Qk4 Tryz.f76 []) (n:=1) follows Qk3 Zfg Tryz.func76 (by kernel_rfl) (by kernel_rfl) (fun x r h=>?_)
  obtain ⟨s,_u⟩:=x
  exact (Z9d s).trans h
noncomputable def Qn7 (s:List Qlf):Option ((Z63 × Unit) × Unit):=bif Nat.ble s.length 1073741824 then some ((s,()),()) else none
theorem Z8h (s:List Qlf):Qde [] tab (Qk4 Tryz.f77 []) 1 [.val t29] [⟨t29,[true],none⟩] Tryz.f77 (s,())=bif !(List.isEmpty s) then bif Nat.ble (0+s.length) 1073741824 then some (([]++s,()),()) else none
 else Q3f (some (([],()),())) (bif Nat.ble (0+s.length) 1073741824 then some (([]++s,()),()) else none):=by kernel_rfl
theorem Z9r (s:List Qlf):Qde [] tab (Qk4 Tryz.f77 []) 1 [.val t29] [⟨t29,[true],none⟩] Tryz.f77 (s,())=Qn7 s:=by
  rw [Z8h]
  cases s with
  | nil=>exact Qcu _
  | cons x q=>rw [Nat.zero_add];rfl
noncomputable def Zax:Ent:=⟨[.val t29],[⟨t29,[true],none⟩],fun x=>Qn7 x.1⟩
theorem Qq1:Q4u tab.ty Tryz.prog 77 Zax:=by
  refine Qjk (Γ:=[]) (fi:=Qk4 Tryz.f77 []) (n:=1) follows Qk3 Zfg Tryz.func77 (by kernel_rfl) (by kernel_rfl) (fun x r h=>?_)
  obtain ⟨s,_u⟩:=x
  exact (Z9r s).trans h
noncomputable def Qkj (s:List Qls):Option ((Qlg × Unit) × Unit):=bif Nat.ble s.length 1073741824 then some ((s,()),()) else none
theorem Z6d (s:List Qls):Qde [] tab (Qk4 Tryz.f78 []) 1 [.val t32] [⟨t32,[true],none⟩] Tryz.f78 (s,())=bif !(List.isEmpty s) then bif Nat.ble (0+s.length) 1073741824 then some (([]++s,()),()) else none
 else Q3f (some (([],()),())) (bif Nat.ble (0+s.length) 1073741824 then some (([]++s,()),()) else none):=by kernel_rfl
theorem Z7x (s:List Qls):Qde [] tab (Qk4 Tryz.f78 []) 1 [.val t32] [⟨t32,[true],none⟩] Tryz.f78 (s,())=Qkj s:=by
  rw [Z6d]
  cases s with
  | nil=>exact Qcu _
  | cons x q=>rw [Nat.zero_add];rfl
noncomputable def Z9h:Ent:=⟨[.val t32],[⟨t32,[true],none⟩],fun x=>Qkj x.1⟩
theorem Qma:Q4u tab.ty Tryz.prog 78 Z9h:=by
  refine Qjk (Γ:=[]) (fi:=Qk4 Tryz.f78 []) (n:=1) follows Qk3 Zfg Tryz.func78 (by kernel_rfl) (by kernel_rfl) (fun x r h=>?_)
  obtain ⟨s,_u⟩:=x
  exact (Z7x s).trans h
noncomputable def Ql5 (s:List Qrc):Option ((Qtb × Unit) × Unit):=bif Nat.ble s.length 1073741824 then some ((s,()),()) else none
theorem Z5l (s:List Qrc):Qde [] tab (Qk4 Tryz.f79 []) 1 [.val t33] [⟨t33,[true],none⟩] Tryz.f79 (s,())=bif !(List.isEmpty s) then bif Nat.ble (0+s.length) 1073741824 then some (([]++s,()),()) else none
 else Q3f (some (([],()),())) (bif Nat.ble (0+s.length) 1073741824 then some (([]++s,()),()) else none):=by kernel_rfl
theorem Z74 (s:List Qrc):Qde [] tab (Qk4 Tryz.f79 []) 1 [.val t33] [⟨t33,[true],none⟩] Tryz.f79 (s,())=Ql5 s:=by
  rw [Z5l]
  cases s with
  | nil=>exact Qcu _
  | cons x q=>rw [Nat.zero_add];rfl
noncomputable def Z8m:Ent:=⟨[.val t33],[⟨t33,[true],none⟩],fun x=>Ql5 x.1⟩
theorem Qlx:Q4u tab.ty Tryz.prog 79 Z8m:=by
  refine Qjk (Γ:=[]) (fi:=Qk4 Tryz.f79 []) (n:=1) follows Qk3 Zfg Tryz.func79 (by kernel_rfl) (by kernel_rfl) (fun x r h=>?_)
  obtain ⟨s,_u⟩:=x
  exact (Z74 s).trans h
noncomputable def Qr4 (n_0:Bool × Int × ByteArray × Qwg × Z5r × Int):Option ((Zql × Unit) × Unit):=
 Option.bind (Qn6 (g6 (g3 n_0))) fun r1=>
 Option.bind (Qn7 (h12 (g3 n_0))) fun r2=>
 Option.bind (Qkj (g4 n_0).2.2.1) fun r3=>
 Option.bind (Qkj (g3 (g4 n_0))) fun r4=>
 Option.bind (Ql5 (g4 (g4 n_0))) fun r5=>
 some (((u4 (u3 n_0 (e12 (u6 (g3 n_0) r1.1.1) r2.1.1)) (u4 (u3 (u2 (g4 n_0) r3.1.1) r4.1.1) r5.1.1)),()),())
noncomputable def Zkd:Ent:=⟨[.val t38],[⟨t38,(nF 24),none⟩],fun x=>Qr4 x.1⟩
theorem Qxh:GD 35 Zkd:=fnk 1 (fo [[1,2],[1,2],[1,2],[2]]) (Qjy Qqc (Qjy Qq1 (Qjy Qma (Qjy Qlx Qk3)))) Tryz.func35
noncomputable def Znc (id_0 inc_1 now_2 grand_3:Int):Option ((Qwg × Unit) × Unit):=
 bif id_0==1 then
  some (((id_0,inc_1,now_2,0,0,grand_3,[1],0,now_2,0,0,0,[]),()),())
 else
  some (((id_0,inc_1,now_2,0,0,grand_3,[],0,0,0,0,0,[]),()),())
noncomputable def Zog:Ent:=⟨[.val t2,.val t2,.val t2,.val t2],[⟨t30,(nF 6++[true,false,false,false,false,false,true]),none⟩],fun x=>Znc x.1 x.2.1 x.2.2.1 x.2.2.2.1⟩
theorem Zit:GD 36 Zog:=fnk 1 (fo [[0,1,2,3,8],[0,2,8,9],[2,8,9,16],[8,9],[8]]) Qk3 Tryz.func36
noncomputable def Zf5 (n_0:Bool × Int × ByteArray × Qwg × Z5r × Int) (id_1:Int) (name_2:ByteArray) (grand_3:Int):Option ((Zql × Bool × Unit) × Unit):=
 bif n_0.1 then
  Option.bind (Qr4 n_0) fun r1=>
  some ((r1.1.1,false,()),())
 else
  Option.bind (Ziq name_2) fun r2=>
  bif !r2.1.1 then
   Option.bind (Qr4 n_0) fun r3=>
   some ((r3.1.1,false,()),())
  else
  bif decide (id_1<1) then
   Option.bind (Qr4 n_0) fun r4=>
   some ((r4.1.1,false,()),())
  else
  bif decide (id_1>8) then
   Option.bind (Qr4 n_0) fun r5=>
   some ((r5.1.1,false,()),())
  else
  bif decide (n_0.2.1 ≥ 1073741824) then
   Option.bind (Qr4 n_0) fun r6=>
   some ((r6.1.1,false,()),())
  else
   Option.bind (Znc id_1 (IntKind.wrap .i64 (n_0.2.1+1)) 0 grand_3) fun r7=>
   some (((true,IntKind.wrap .i64 (n_0.2.1+1),name_2,r7.1.1,(0,0,[],[],[],0,0),0),true,()),())
noncomputable def Zl8:Ent:=⟨[.val t38,.val t2,.val t9,.val t2],[⟨t38,(nF 24),none⟩,⟨t4,[false],none⟩],fun x=>Zf5 x.1 x.2.1 x.2.2.1 x.2.2.2.1⟩
theorem Zgk:GD 13 Zl8:=fnk 1 (fo [[1,2,3,4,8,14,15,16,19,20,23,24,27,28,29],[1,2,3,4,8,30],[8,9],[1,2,3,8,10],[8,9]]) (Qjy Zgc (Qjy Qxh (Qjy Zit Qk3))) Tryz.func13
noncomputable def Qq5 (f_0:Int × Int × Qlg × Qlg × Qtb × Int × Int):Option ((Z5r × Unit) × Unit):=
 Option.bind (Qkj f_0.2.2.1) fun r1=>
 Option.bind (Qkj (g3 f_0)) fun r2=>
 Option.bind (Ql5 (g4 f_0)) fun r3=>
 some (((u4 (u3 (u2 f_0 r1.1.1) r2.1.1) r3.1.1),()),())
noncomputable def Zk7:Ent:=⟨[.val t36],[⟨t36,[false,false,true,true,true,false,false],none⟩],fun x=>Qq5 x.1⟩
theorem Qu7:GD 116 Zk7:=fnk 1 (fo [[1,2],[1,2],[2]]) (Qjy Qma (Qjy Qlx Qk3)) Tryz.func116
noncomputable def Z7n (l_0:List Qrc) (seq_1:Int) (text_2:ByteArray):Option ((Qtb × Unit) × Unit):=
 Option.bind (Ql5 l_0) fun r1=>
 bif Nat.ble (r1.1.1.length+1) 1073741824 then
  some ((r1.1.1++[(1,seq_1,seq_1,text_2,0)],()),())
 else none
noncomputable def Zgy:Ent:=⟨[.val t33,.val t2,.val t9],[⟨t33,[true],none⟩],fun x=>Z7n x.1 x.2.1 x.2.2.1⟩
theorem Zb6:GD 121 Zgy:=fnk 1 (fo [[0,1,2],[6]]) (Qjy Qlx Qk3) Tryz.func121
noncomputable def Z4i (r1:(Qlg × Unit) × Unit) (i_1:Int × ByteArray):Option ((Qlg × Unit) × Unit):=
 bif Nat.ble (r1.1.1.length+1) 1073741824 then
  bif (decide (0≤(if 0>IntKind.wrap .i64 (((r1.1.1++[i_1]).length:Int) - 6) then 0 else IntKind.wrap .i64 (((r1.1.1++[i_1]).length:Int) - 6)))&&decide ((if 0>IntKind.wrap .i64 (((r1.1.1++[i_1]).length:Int) - 6) then 0 else IntKind.wrap .i64 (((r1.1.1++[i_1]).length:Int) - 6))≤((r1.1.1++[i_1]).length:Int)))&&decide (((r1.1.1++[i_1]).length:Int)≤((r1.1.1++[i_1]).length:Int)) then
   Option.bind (Qkj (List.drop ((if 0>IntKind.wrap .i64 (((r1.1.1++[i_1]).length:Int) - 6) then 0 else IntKind.wrap .i64 (((r1.1.1++[i_1]).length:Int) - 6)).toNat) (List.take (((r1.1.1++[i_1]).length:Int).toNat) (r1.1.1++[i_1])))) fun r2=>
   some ((r2.1.1,()),())
  else none
 else none
noncomputable def Z7w (l_0:List Qls) (i_1:Int × ByteArray):Option ((Qlg × Unit) × Unit):=
 Option.bind (Qkj l_0) fun r1=>
 bif decide ((l_0.length:Int)>0) then
  bif decide (0≤IntKind.wrap .i64 ((l_0.length:Int) - 1))&&decide (IntKind.wrap .i64 ((l_0.length:Int) - 1)<(l_0.length:Int)) then
   bif decide (i_1.1≤(List.getD l_0 ((IntKind.wrap .i64 ((l_0.length:Int) - 1)).toNat) (0,(⟨#[]⟩:ByteArray))).1) then
    some ((r1.1.1,()),())
   else
    Z4i r1 i_1
  else none
 else
  Z4i r1 i_1
noncomputable def Zhf:Ent:=⟨[.val t32,.val t58],[⟨t32,[true],none⟩],fun x=>Z7w x.1 x.2.1⟩
theorem Zbo:GD 122 Zhf:=fnk 1 (fo [[0,3,12,13,14,15,16,17,18,19,20,21],[0,3,5,12,13,14,15,16,17,18,19,20,21],[3,5,22],[4],[5],[4]]) (Qjy Qma Qk3) Tryz.func122
noncomputable def Zlu (f_0:Int × Int × Qlg × Qlg × Qtb × Int × Int) (text_1:ByteArray):Option ((Z5r × Bool × Unit) × Unit):=
 Option.bind (Qq5 f_0) fun r1=>
 bif decide ((text_1.size:Int)>12) then
  some ((r1.1.1,false,()),())
 else
 bif decide ((if 1>r1.1.1.1 then 1 else r1.1.1.1)>1000000) then
  some ((r1.1.1,false,()),())
 else
  Option.bind (Z7n (g4 r1.1.1) (if 1>r1.1.1.1 then 1 else r1.1.1.1) text_1) fun r2=>
  Option.bind (Z7w r1.1.1.2.2.1 (if 1>r1.1.1.1 then 1 else r1.1.1.1,text_1)) fun r3=>
  some (((u4 (u2 (u1 (u0 r1.1.1 (IntKind.wrap .i64 ((if 1>r1.1.1.1 then 1 else r1.1.1.1)+1))) (if 1>r1.1.1.1 then 1 else r1.1.1.1)) r3.1.1) r2.1.1),true,()),())
noncomputable def Zmm:Ent:=⟨[.val t36,.val t9],[⟨t36,(nF 7),none⟩,⟨t4,[false],none⟩],fun x=>Zlu x.1 x.2.1⟩
theorem Zig:GD 59 Zmm:=fnk 1 (fo [[1,2,4,16,17],[1,2,4,16,17],[1,2,4,6,16,17],[1,2,4,6,18],[4,5],[2,4,6],[2,4],[4,5]]) (Qjy Qu7 (Qjy Zb6 (Qjy Zbo Qk3))) Tryz.func59
noncomputable def Z7m (f_0 old_1:Int × Int × Qlg × Qlg × Qtb × Int × Int):Option ((Qtb × Unit) × Unit):=
 bif (decide (0≤(if ((g4 f_0).length:Int)<((g4 old_1).length:Int) then ((g4 f_0).length:Int) else ((g4 old_1).length:Int)))&&decide ((if ((g4 f_0).length:Int)<((g4 old_1).length:Int) then ((g4 f_0).length:Int) else ((g4 old_1).length:Int))≤((g4 f_0).length:Int)))&&decide (((g4 f_0).length:Int)≤((g4 f_0).length:Int)) then
  Option.bind (Ql5 (List.drop ((if ((g4 f_0).length:Int)<((g4 old_1).length:Int) then ((g4 f_0).length:Int) else ((g4 old_1).length:Int)).toNat) (List.take (((g4 f_0).length:Int).toNat) (g4 f_0)))) fun r1=>
  some ((r1.1.1,()),())
 else none
noncomputable def Zcq:Ent:=⟨[.val t36,.val t36],[⟨t33,[true],none⟩],fun x=>Z7m x.1 x.2.1⟩
theorem Zfr:GD 104 Zcq:=fnk 1 (fo [[2,3],[4]]) (Qjy Qlx Qk3) Tryz.func104
noncomputable def Qtm (n_0:Bool × Int × ByteArray × Qwg × Z5r × Int) (kind_1 to_2 lo_3 hi_4:Int) (s_5:ByteArray):Option ((Z18 × Unit) × Unit):=
 some (((kind_1,(g3 n_0).1,to_2,(g3 n_0).2.1,0,0,[],lo_3,hi_4,s_5),()),())
noncomputable def Z6r:Ent:=⟨[.val t38,.val t2,.val t2,.val t2,.val t2,.val t9],[⟨t45,(nF 6++[true,false,false,false]),none⟩],fun x=>Qtm x.1 x.2.1 x.2.2.1 x.2.2.2.1 x.2.2.2.2.1 x.2.2.2.2.2.1⟩
theorem Z7j:GD 58 Z6r:=fnk 1 (fo [[1,2,3,4,5,6,12],[12]]) Qk3 Tryz.func58
abbrev Qqj:Type:=(Zau × Unit) × Unit
noncomputable def Zep:Ctx:=[(58,Z6r),(104,Zcq)]
def Z7a:Fi:={ keep:=[],vty:=[(4,48)],vals:=[],live:=[(0,[2,3,4]),(1,[2,4,12,13,14]),(2,[2,4,12,13,14,15]),(3,[2,4,6,12,13,14]),(4,[2,4,6,12,13,14,20,21,22]),(5,[2,4,6,12,13,14,20,21,22,23]),(6,[2,4,6,8,12,13,14,20,21,22]),(7,[2,4,6,8,12,13,14,20,21,22,28]),(8,[2,4,6,12,13,14,20,21,22]),(9,[2,4,6,12,13,14,20,21,22]),(10,[2,4,6,12,13,14,20,21,22]),(11,[2,4,12,13,14]),(12,[4])] }
abbrev Z1v:Type:=Int→Int→Bool→Int→ByteArray→Int→Int→Int→Int→Int→Int→List Int→Int→Int→Int→Int→Int→Z63→Int→Int→Qlg→Qlg→Qtb→Int→Int→Int→Zau→Qtb→Option Qqj
abbrev Z2d:Type:=Int→Int→Z63→Int→Int→Bool→Int→ByteArray→Int→Int→Int→Int→Int→Int→List Int→Int→Int→Int→Int→Int→Z63→Int→Int→Qlg→Qlg→Qtb→Int→Int→Int→Zau→Int→Int→Int→ByteArray→Int→Qtb→Option Qqj
noncomputable def Z6b (v59:List Z18) (L2:Z2d) (v30 v31:Int) (v32:List Qlf) (v33 v34:Int) (v35:Bool) (v36:Int) (v37:ByteArray) (v38 v39 v40 v41 v42 v43:Int) (v44:List Int) (v45 v46 v47 v48 v49:Int) (v50:List Qlf) (v51 v52:Int) (v53 v54:List Qls) (v55:List Qrc) (v56 v57 v58:Int) (r66:(Z18 × Unit) × Unit) (v60 v61 v62:Int) (v63:ByteArray) (v64:Int) (v65:List Qrc):Option Qqj:=
 bif Nat.ble (v59.length+1) 1073741824 then
  L2 v30 v31 v32 v33 (IntKind.wrap .i64 (v34+1)) v35 v36 v37 v38 v39 v40 v41 v42 v43 v44 v45 v46 v47 v48 v49 v50 v51 v52 v53 v54 v55 v56 v57 v58 (v59++[r66.1.1]) v60 v61 v62 v63 v64 v65
 else none
noncomputable def Qve (L2:Z2d) (v2 v3:Int) (v4:Bool) (v5:Int) (v6:ByteArray) (v7 v8 v9 v10 v11 v12:Int) (v13:List Int) (v14 v15 v16 v17 v18:Int) (v19:List Qlf) (v20 v21:Int) (v22 v23:List Qls) (v24:List Qrc) (v25 v26 v27:Int) (v28:List Z18) (v29:List Qrc):Option Qqj:=
 bif decide (v3<v2) then
  bif decide (0≤v3)&&decide (v3<(v29.length:Int)) then
   bif decide (0≤v3)&&decide (v3<(v29.length:Int)) then
    L2 v2 v3 v19 (v19.length:Int) 0 v4 v5 v6 v7 v8 v9 v10 v11 v12 v13 v14 v15 v16 v17 v18 v19 v20 v21 v22 v23 v24 v25 v26 v27 v28 ((List.getD v29 v3.toNat Zos).1) (((List.getD v29 v3.toNat Zos).2).1) ((((List.getD v29 v3.toNat Zos).2).2).1) (((((List.getD v29 v3.toNat Zos).2).2).2).1) (((((List.getD v29 v3.toNat Zos).2).2).2).2) v29
   else none
  else none
 else
  some ((v28,()),())
noncomputable def Qv2 (L2:Z2d) (L1:Z1v) (v30 v31:Int) (v32:List Qlf) (v33 v34:Int) (v35:Bool) (v36:Int) (v37:ByteArray) (v38 v39 v40 v41 v42 v43:Int) (v44:List Int) (v45 v46 v47 v48 v49:Int) (v50:List Qlf) (v51 v52:Int) (v53 v54:List Qls) (v55:List Qrc) (v56 v57 v58:Int) (v59:List Z18) (v60 v61 v62:Int) (v63:ByteArray) (v64:Int) (v65:List Qrc):Option Qqj:=
 bif decide (v34<v33) then
  bif decide (0≤v34)&&decide (v34<(v32.length:Int)) then
   bif v60==1 then
    Option.bind (Qtm (v35,v36,v37,(v38,v39,v40,v41,v42,v43,v44,v45,v46,v47,v48,v49,v50),(v51,v52,v53,v54,v55,v56,v57),v58) 7 ((List.getD v32 v34.toNat (0,0,0)).1) v61 0 v63) fun r66=>
    Z6b v59 L2 v30 v31 v32 v33 v34 v35 v36 v37 v38 v39 v40 v41 v42 v43 v44 v45 v46 v47 v48 v49 v50 v51 v52 v53 v54 v55 v56 v57 v58 r66 v60 v61 v62 v63 v64 v65
   else
    Option.bind (Qtm (v35,v36,v37,(v38,v39,v40,v41,v42,v43,v44,v45,v46,v47,v48,v49,v50),(v51,v52,v53,v54,v55,v56,v57),v58) 9 ((List.getD v32 v34.toNat (0,0,0)).1) v61 v62 (⟨#[]⟩:ByteArray)) fun r67=>
    Z6b v59 L2 v30 v31 v32 v33 v34 v35 v36 v37 v38 v39 v40 v41 v42 v43 v44 v45 v46 v47 v48 v49 v50 v51 v52 v53 v54 v55 v56 v57 v58 r67 v60 v61 v62 v63 v64 v65
  else none
 else
  L1 v30 (IntKind.wrap .i64 (v31+1)) v35 v36 v37 v38 v39 v40 v41 v42 v43 v44 v45 v46 v47 v48 v49 v50 v51 v52 v53 v54 v55 v56 v57 v58 v59 v65
noncomputable def Z50 (L1:Z1v) (n_0:Bool × Int × ByteArray × Qwg × Z5r × Int) (old_1:Int × Int × Qlg × Qlg × Qtb × Int × Int):Option Qqj:=
 Option.bind (Z7m (g4 n_0) old_1) fun r1=>
 L1 (r1.1.1.length:Int) 0 n_0.1 n_0.2.1 n_0.2.2.1 (g3 n_0).1 (g3 n_0).2.1 (g3 n_0).2.2.1 (g3 (g3 n_0)) (g4 (g3 n_0)) (g5 (g3 n_0)) (g6 (g3 n_0)) (g7 (g3 n_0)) (g8 (g3 n_0)) (g9 (g3 n_0)) (g10 (g3 n_0)) (g11 (g3 n_0)) (h12 (g3 n_0)) (g4 n_0).1 (g4 n_0).2.1 (g4 n_0).2.2.1 (g3 (g4 n_0)) (g4 (g4 n_0)) (g5 (g4 n_0)) (h6 (g4 n_0)) (h5 n_0) [] r1.1.1
noncomputable def Qt6 (n:Nat) (m1:Nat) (r1:Z1v):Nat→Z2d:=iter (fun _ _ _ _ _ _ _ _ _ _ _ _ _ _ _ _ _ _ _ _ _ _ _ _ _ _ _ _ _ _ _ _ _ _ _ _=>none) fun L=>Qv2 L r1
noncomputable def Qt4 (n:Nat):Nat→Z1v:=Qjg (fun _ _ _ _ _ _ _ _ _ _ _ _ _ _ _ _ _ _ _ _ _ _ _ _ _ _ _ _=>none) fun m L=>Qve (Qt6 n m L n)
noncomputable def Qy1 (n m:Nat) (v2 v3:Int) (v4:Bool) (v5:Int) (v6:ByteArray) (v7 v8 v9 v10 v11 v12:Int) (v13:List Int) (v14 v15 v16 v17 v18:Int) (v19:List Qlf) (v20 v21:Int) (v22 v23:List Qls) (v24:List Qrc) (v25 v26 v27:Int) (v28:List Z18) (v29:List Qrc):Option Qqj:=
 Qjv Zep tab (fiB [.val t38,.val t36] Z7a) n [.val t38,.val t36] [⟨t48,[true],none⟩] Tryz.f49 [1,0,1,0] [] [2,4,12,13,14] m
 ⟨[(2,V1 (.ptr (2,0) 0)),(4,V1 (.ref (888888,4))),(12,V1 (.ref (888888,12))),(13,Vp t2 v2),(14,Vp t2 v3)],[((2,0),Ob.box 39 [LV.pure t4 v4,LV.pure t2 v5,LV.pure t9 v6,LV.pure t2 v7,LV.pure t2 v8,LV.pure t2 v9,LV.pure t2 v10,LV.pure t2 v11,LV.pure t2 v12,LV.pure t28 v13,LV.pure t2 v14,LV.pure t2 v15,LV.pure t2 v16,LV.pure t2 v17,LV.pure t2 v18,LV.pure t29 v19,LV.pure t2 v20,LV.pure t2 v21,LV.pure t32 v22,LV.pure t32 v23,LV.pure t33 v24,LV.pure t2 v25,LV.pure t2 v26,LV.pure t2 v27]),((888888,4),Ob.row 46 t45 v28),((888888,12),Ob.row 55 t54 v29)]⟩
noncomputable def Z1z (n m1 m:Nat) (v30 v31:Int) (v32:List Qlf) (v33 v34:Int) (v35:Bool) (v36:Int) (v37:ByteArray) (v38 v39 v40 v41 v42 v43:Int) (v44:List Int) (v45 v46 v47 v48 v49:Int) (v50:List Qlf) (v51 v52:Int) (v53 v54:List Qls) (v55:List Qrc) (v56 v57 v58:Int) (v59:List Z18) (v60 v61 v62:Int) (v63:ByteArray) (v64:Int) (v65:List Qrc):Option Qqj:=
 Qjv Zep tab (fiB [.val t38,.val t36] Z7a) n [.val t38,.val t36] [⟨t48,[true],none⟩] Tryz.f49 [1,0,1,0,0,1,1,0,0,1,1,0] [(m1,[2,4,12,13,14])] [2,4,6,12,13,14,20,21,22] m
 ⟨[(2,V1 (.ptr (2,0) 0)),(4,V1 (.ref (888888,4))),(6,V1 (.ptr (6,0) 0)),(12,V1 (.ref (888888,12))),(13,Vp t2 v30),(14,Vp t2 v31),(20,Vp t29 v32),(21,Vp t2 v33),(22,Vp t2 v34)],[((2,0),Ob.box 39 [LV.pure t4 v35,LV.pure t2 v36,LV.pure t9 v37,LV.pure t2 v38,LV.pure t2 v39,LV.pure t2 v40,LV.pure t2 v41,LV.pure t2 v42,LV.pure t2 v43,LV.pure t28 v44,LV.pure t2 v45,LV.pure t2 v46,LV.pure t2 v47,LV.pure t2 v48,LV.pure t2 v49,LV.pure t29 v50,LV.pure t2 v51,LV.pure t2 v52,LV.pure t32 v53,LV.pure t32 v54,LV.pure t33 v55,LV.pure t2 v56,LV.pure t2 v57,LV.pure t2 v58]),((888888,4),Ob.row 46 t45 v59),((6,0),Ob.box 55 [LV.pure t2 v60,LV.pure t2 v61,LV.pure t2 v62,LV.pure t9 v63,LV.pure t2 v64]),((888888,12),Ob.row 55 t54 v65)]⟩
theorem Zai (n m1:Nat):∀ m,Z1z n m1 m=Qt6 n m1 (Qy1 n m1) m
 | 0=>rfl
 | m+1=>by rw [show Z1z n m1 (m+1)=Qv2 (Z1z n m1 m) (Qy1 n m1) from by kernel_rfl,Zai n m1 m];rfl
theorem Za9 (n:Nat):∀ m,Qy1 n m=Qt4 n m
 | 0=>rfl
 | m+1=>by rw [show Qy1 n (m+1)=Qve (Z1z n m n) from by kernel_rfl,Zai n m n,Za9 n m];rfl
noncomputable def Zfp (n:Nat) (n_0:Bool × Int × ByteArray × Qwg × Z5r × Int) (old_1:Int × Int × Qlg × Qlg × Qtb × Int × Int):Option Qqj:=Z50 (Qt4 n n) n_0 old_1
noncomputable def Z6h (n_0:Bool × Int × ByteArray × Qwg × Z5r × Int) (old_1:Int × Int × Qlg × Qlg × Qtb × Int × Int):Option Qqj:=Zfp 1099511627776 n_0 old_1
noncomputable def Zl1:Ent:=⟨[.val t38,.val t36],[⟨t48,[true],none⟩],fun x=>Z6h x.1 x.2.1⟩
theorem Z8x:GD 49 Zl1:=fnl Z7a (fun n x=>Zfp n x.1 x.2.1) (Qjy Z7j (Qjy Zfr Qk3)) Tryz.func49 fun n x=>Eq.trans (b:=Z50 (Qy1 n n) x.1 x.2.1) (by kernel_rfl) (by rw [Za9 n n];rfl)
noncomputable def Zm5 (n_0:Bool × Int × ByteArray × Qwg × Z5r × Int) (s_1:ByteArray):Option ((Zql × Zau × Bool × Unit) × Unit):=
 Option.bind (Qr4 n_0) fun r1=>
 bif !n_0.1 then
  some ((r1.1.1,[],false,()),())
 else
 bif (g3 n_0).1 != 1 then
  some ((r1.1.1,[],false,()),())
 else
  Option.bind (Zlu (g4 n_0) s_1) fun r2=>
  bif !r2.1.2.1 then
   some ((r1.1.1,[],false,()),())
  else
   Option.bind (Z6h (u4 r1.1.1 r2.1.1) (g4 n_0)) fun r3=>
   some (((u4 r1.1.1 r2.1.1),r3.1.1,true,()),())
noncomputable def Zn4:Ent:=⟨[.val t38,.val t9],[⟨t38,(nF 24),none⟩,⟨t48,[true],none⟩,⟨t4,[false],none⟩],fun x=>Zm5 x.1 x.2.1⟩
theorem Zhw:GD 23 Zn4:=fnk 1 (fo [[1,2,4,16,17,18,19],[1,2,4,7,16,17,18,19],[1,2,4,7,20],[4,5,6],[2,4,7,8,9],[2,4,7,8,30],[4,5,6],[2,4,7],[4,5,6]]) (Qjy Qxh (Qjy Z8x (Qjy Zig Qk3))) Tryz.func23
abbrev Qx6:Type:=(Int × Int × IV × Unit) × Unit
noncomputable def Zks:Ctx:=[]
def Zd9:Fi:=fo [[0,2,3,11,12,33,34,37,38],[0,2,3,11,12,13,33,34,37,38],[0,2,3,5,11,12,33,34,37,38],[0,2,3,5,11,12,33,34,37,38],[0,2,3,5,11,12,33,34,37,38],[0,2,3,5,11,12,29,33,34,37,38],[2,3,39],[2,3,4],[2,3,4]]
abbrev Z7f:Type:=List Int→Int→Int→Option Qx6
noncomputable def Z1s (L1:Z7f) (v1:List Int) (v2 v3:Int):Option Qx6:=
 bif decide (v3<(v1.length:Int)) then
  bif decide (v3<5) then
   bif decide (0≤v3)&&decide (v3<(v1.length:Int)) then
    bif decide (0≤IntKind.wrap .i64 (7*v3)) then
     bif decide (List.getD v1 v3.toNat 0 ≥ 128) then
      L1 v1 (IntKind.wrap .i64 ((BitVec.ofInt 64 v2 ||| BitVec.ofInt 64 (IntKind.wrap .i64 ((IntKind.wrap .i64 (IntKind.wrap .u8 ((BitVec.ofInt 8 (List.getD v1 v3.toNat 0) &&& BitVec.ofInt 8 127).toNat)))*2 ^ (min ((IntKind.wrap .i64 (7*v3)).toNat) 64)))).toNat)) (IntKind.wrap .i64 (v3+1))
     else
     bif decide (IntKind.wrap .i64 (v3+1)>1) then
      bif (List.getD v1 v3.toNat 0)==0 then
       some ((0,0,IV.mk 216 [],()),())
      else
      bif decide (IntKind.wrap .i64 ((BitVec.ofInt 64 v2 ||| BitVec.ofInt 64 (IntKind.wrap .i64 ((IntKind.wrap .i64 (IntKind.wrap .u8 ((BitVec.ofInt 8 (List.getD v1 v3.toNat 0) &&& BitVec.ofInt 8 127).toNat)))*2 ^ (min ((IntKind.wrap .i64 (7*v3)).toNat) 64)))).toNat)>1073741824) then
       some ((0,0,IV.mk 216 [],()),())
      else
       some ((IntKind.wrap .i64 ((BitVec.ofInt 64 v2 ||| BitVec.ofInt 64 (IntKind.wrap .i64 ((IntKind.wrap .i64 (IntKind.wrap .u8 ((BitVec.ofInt 8 (List.getD v1 v3.toNat 0) &&& BitVec.ofInt 8 127).toNat)))*2 ^ (min ((IntKind.wrap .i64 (7*v3)).toNat) 64)))).toNat),IntKind.wrap .i64 (v3+1),IV.nil,()),())
     else
     bif decide (IntKind.wrap .i64 ((BitVec.ofInt 64 v2 ||| BitVec.ofInt 64 (IntKind.wrap .i64 ((IntKind.wrap .i64 (IntKind.wrap .u8 ((BitVec.ofInt 8 (List.getD v1 v3.toNat 0) &&& BitVec.ofInt 8 127).toNat)))*2 ^ (min ((IntKind.wrap .i64 (7*v3)).toNat) 64)))).toNat)>1073741824) then
      some ((0,0,IV.mk 216 [],()),())
     else
      some ((IntKind.wrap .i64 ((BitVec.ofInt 64 v2 ||| BitVec.ofInt 64 (IntKind.wrap .i64 ((IntKind.wrap .i64 (IntKind.wrap .u8 ((BitVec.ofInt 8 (List.getD v1 v3.toNat 0) &&& BitVec.ofInt 8 127).toNat)))*2 ^ (min ((IntKind.wrap .i64 (7*v3)).toNat) 64)))).toNat),IntKind.wrap .i64 (v3+1),IV.nil,()),())
    else none
   else none
  else
   some ((0,0,IV.mk 216 [],()),())
 else
  some ((0,0,IV.mk 216 [],()),())
noncomputable def Ze8 (L1:Z7f) (b_0:List Int):Option Qx6:=
 L1 b_0 0 0
noncomputable def Z2p (n:Nat):Nat→Z7f:=iter (fun _ _ _=>none) fun L=>Z1s L
noncomputable def Z24 (n m:Nat) (v1:List Int) (v2 v3:Int):Option Qx6:=
 Qjv Zks tab (fiB [.val t25] Zd9) n [.val t25] [⟨t2,[false],none⟩,⟨t2,[false],none⟩,⟨t20,[false],none⟩] Tryz.f197 [1,0,0] [] [0,2,3] m
 ⟨[(0,Vp t25 v1),(2,Vp t2 v2),(3,Vp t2 v3)],[]⟩
theorem Zan (n:Nat):∀ m,Z24 n m=Z2p n m
 | 0=>rfl
 | m+1=>by rw [show Z24 n (m+1)=Z1s (Z24 n m) from by kernel_rfl,Zan n m];rfl
noncomputable def Zf9 (n:Nat) (b_0:List Int):Option Qx6:=Ze8 (Z2p n n) b_0
noncomputable def Zei (b_0:List Int):Option Qx6:=Zf9 1099511627776 b_0
noncomputable def Zkl:Ent:=⟨[.val t25],[⟨t2,[false],none⟩,⟨t2,[false],none⟩,⟨t20,[false],none⟩],fun x=>Zei x.1⟩
theorem Zgf:GD 197 Zkl:=fnl Zd9 (fun n x=>Zf9 n x.1) Qk3 Tryz.func197 fun n x=>Eq.trans (b:=Ze8 (Z24 n n) x.1) (by kernel_rfl) (by rw [Zan n n];rfl)
noncomputable def Z6t (b_0:List Int):Option ((Int × Int × Bool × Unit) × Unit):=
 Option.bind (Zei b_0) fun r1=>
 some ((r1.1.1,r1.1.2.1,!(IV.is r1.1.2.2.1 216),()),())
noncomputable def Zl9:Ent:=⟨[.val t25],[⟨t2,[false],none⟩,⟨t2,[false],none⟩,⟨t4,[false],none⟩],fun x=>Z6t x.1⟩
theorem Z8r:GD 176 Zl9:=fnk 1 (fo [[0],[2,3,5],[2,3,7],[2,3,4]]) (Qjy Zgf Qk3) Tryz.func176
noncomputable def Qk8 (r_0:(List Int) × IV) (what_1:ByteArray):Option ((Int × Unit) × (Zkv × Unit)):=
 bif !(IV.isNil r_0.2) then
  some ((0,()),(r_0,()))
 else
  Option.bind (Z6t r_0.1) fun r1=>
  bif !r1.1.2.2.1 then
   bif (decide (0≤r1.1.2.1)&&decide (r1.1.2.1≤(r_0.1.length:Int)))&&decide ((r_0.1.length:Int)≤(r_0.1.length:Int)) then
    some ((r1.1.1,()),((List.drop r1.1.2.1.toNat (List.take ((r_0.1.length:Int).toNat) r_0.1),IV.mk 134 [.str what_1]),()))
   else none
  else
  bif (decide (0≤r1.1.2.1)&&decide (r1.1.2.1≤(r_0.1.length:Int)))&&decide ((r_0.1.length:Int)≤(r_0.1.length:Int)) then
   some ((r1.1.1,()),((List.drop r1.1.2.1.toNat (List.take ((r_0.1.length:Int).toNat) r_0.1),r_0.2),()))
  else none
noncomputable def Z5a:Ent:=⟨[.box 131 Zop [false,false],.val t9],[⟨t2,[false],none⟩],fun x=>Qk8 x.1 x.2.1⟩
theorem Z9b:GD 146 Z5a:=fnk 1 (fo [[0,1],[0,1,12],[0,4],[0,1,5,6,7],[0,1,5,6,23],[0,5,6],[0,5],[0,4]]) (Qjy Z8r Qk3) Tryz.func146
noncomputable def Z55 (b_0:List Int):Option ((ByteArray × Int × Bool × Unit) × Unit):=
 Option.bind (Z6t b_0) fun r1=>
 bif !r1.1.2.2.1 then
  some (((⟨#[]⟩:ByteArray),0,false,()),())
 else
 bif decide (r1.1.1>IntKind.wrap .i64 ((b_0.length:Int) - r1.1.2.1)) then
  some (((⟨#[]⟩:ByteArray),0,false,()),())
 else
 bif (decide (0≤r1.1.2.1)&&decide (r1.1.2.1≤IntKind.wrap .i64 (r1.1.2.1+r1.1.1)))&&decide (IntKind.wrap .i64 (r1.1.2.1+r1.1.1)≤(b_0.length:Int)) then
  some ((Q5g (List.drop r1.1.2.1.toNat (List.take ((IntKind.wrap .i64 (r1.1.2.1+r1.1.1)).toNat) b_0)),IntKind.wrap .i64 (r1.1.2.1+r1.1.1),true,()),())
 else none
noncomputable def Zfm:Ent:=⟨[.val t25],[⟨t9,[false],none⟩,⟨t2,[false],none⟩,⟨t4,[false],none⟩],fun x=>Z55 x.1⟩
theorem Z9w:GD 177 Zfm:=fnk 1 (fo [[0,15,16,17,18,19,20],[0,3,4,5,15,16,17,18,19,20],[0,3,5,21],[2,3,4],[2,3,4]]) (Qjy Z8r Qk3) Tryz.func177
noncomputable def Qmf (r_0:(List Int) × IV) (what_1:ByteArray):Option (Zpp × (Zkv × Unit)):=
 bif !(IV.isNil r_0.2) then
  some (((⟨#[]⟩:ByteArray),()),(r_0,()))
 else
  Option.bind (Z55 r_0.1) fun r1=>
  bif !r1.1.2.2.1 then
   bif (decide (0≤r1.1.2.1)&&decide (r1.1.2.1≤(r_0.1.length:Int)))&&decide ((r_0.1.length:Int)≤(r_0.1.length:Int)) then
    some ((r1.1.1,()),((List.drop r1.1.2.1.toNat (List.take ((r_0.1.length:Int).toNat) r_0.1),IV.mk 134 [.str what_1]),()))
   else none
  else
  bif (decide (0≤r1.1.2.1)&&decide (r1.1.2.1≤(r_0.1.length:Int)))&&decide ((r_0.1.length:Int)≤(r_0.1.length:Int)) then
   some ((r1.1.1,()),((List.drop r1.1.2.1.toNat (List.take ((r_0.1.length:Int).toNat) r_0.1),r_0.2),()))
  else none
noncomputable def Z3b:Ent:=⟨[.box 131 Zop [false,false],.val t9],[⟨t9,[false],none⟩],fun x=>Qmf x.1 x.2.1⟩
theorem Z8c:GD 147 Z3b:=fnk 1 (fo [[0,1],[0,1,12],[0,4],[0,1,5,6,7],[0,1,5,6,23],[0,5,6],[0,5],[0,4]]) (Qjy Z9w Qk3) Tryz.func147
abbrev Qlb:Type:=(Z18 × Unit) × (Zkv × Unit)
noncomputable def Qya:Ctx:=[(146,Z5a),(147,Z3b)]
def Qtq:Fi:=fo [[0,2,34,35,36,37,38],[0,2,34,35,36,37,38],[0,2,34,35,36,37,38],[0,2,3,34,35,36,37,38],[0,2,3,25,34,35,36,37,38],[0,2,3,34,35,36,37,38],[0,2,3,34,35,36,37,38,39],[0,2,3,34,35,36,37,38],[0,2,3,34,35,36,37,38],[0,2],[0,2],[0,2]]
abbrev Qpc:Type:=Int→List Int→IV→Int→Int→Int→Int→Int→Int→Int→Int→ByteArray→List Int→Option Qlb
abbrev Z3z:Type:=Int→Bool→List Int→IV→Int→Int→Int→Int→Int→Int→Int→Int→ByteArray→List Int→Option Qlb
noncomputable def Qp9 (L1:Qpc) (v8:Int) (v9:List Int) (v10:IV) (v11 v12 v13 v14 v15 v16 v17 v18:Int) (v19:ByteArray) (v20:List Int):Option Qlb:=
 bif decide (v8>0) then
  bif IV.isNil v10 then
   Option.bind (Qk8 (v9,v10) (⟨#[115,116,101,112]⟩:ByteArray)) fun r21=>
   bif Nat.ble (v20.length+1) 1073741824 then
    L1 (IntKind.wrap .i64 (v8 - 1)) r21.2.1.1 r21.2.1.2 v11 v12 v13 v14 v15 v16 v17 v18 v19 (v20++[r21.1.1])
   else none
  else
   Option.bind (Qk8 (v9,v10) (⟨#[108,111]⟩:ByteArray)) fun r22=>
   Option.bind (Qk8 r22.2.1 (⟨#[104,105]⟩:ByteArray)) fun r23=>
   Option.bind (Qmf r23.2.1 (⟨#[116,101,120,116]⟩:ByteArray)) fun r24=>
   some (((v11,v12,v13,v14,v15,v16,v20,r22.1.1,r23.1.1,r24.1.1),()),(r24.2.1,()))
 else
  Option.bind (Qk8 (v9,v10) (⟨#[108,111]⟩:ByteArray)) fun r25=>
  Option.bind (Qk8 r25.2.1 (⟨#[104,105]⟩:ByteArray)) fun r26=>
  Option.bind (Qmf r26.2.1 (⟨#[116,101,120,116]⟩:ByteArray)) fun r27=>
  some (((v11,v12,v13,v14,v15,v16,v20,r25.1.1,r26.1.1,r27.1.1),()),(r27.2.1,()))
noncomputable def Z45 (L3:Qpc) (v28:Int) (v29:Bool) (v30:List Int) (v31:IV) (v32 v33 v34 v35 v36 v37 v38 v39:Int) (v40:ByteArray) (v41:List Int):Option Qlb:=
 bif decide (v28>0) then
  bif IV.isNil v31 then
   Option.bind (Qk8 (v30,v31) (⟨#[115,116,101,112]⟩:ByteArray)) fun r42=>
   bif Nat.ble (v41.length+1) 1073741824 then
    L3 (IntKind.wrap .i64 (v28 - 1)) r42.2.1.1 r42.2.1.2 v32 v33 v34 v35 v36 v37 v38 v39 v40 (v41++[r42.1.1])
   else none
  else
   Option.bind (Qk8 (v30,v31) (⟨#[108,111]⟩:ByteArray)) fun r63=>
   Option.bind (Qk8 r63.2.1 (⟨#[104,105]⟩:ByteArray)) fun r64=>
   Option.bind (Qmf r64.2.1 (⟨#[116,101,120,116]⟩:ByteArray)) fun r65=>
   some (((v32,v33,v34,v35,v36,v37,v41,r63.1.1,r64.1.1,r65.1.1),()),(r65.2.1,()))
 else
  Option.bind (Qk8 (v30,v31) (⟨#[108,111]⟩:ByteArray)) fun r66=>
  Option.bind (Qk8 r66.2.1 (⟨#[104,105]⟩:ByteArray)) fun r67=>
  Option.bind (Qmf r67.2.1 (⟨#[116,101,120,116]⟩:ByteArray)) fun r68=>
  some (((v32,v33,v34,v35,v36,v37,v41,r66.1.1,r67.1.1,r68.1.1),()),(r68.2.1,()))
noncomputable def Z44 (L3:Qpc) (v43:Int) (v44:List Int) (v45:IV) (v46 v47 v48 v49 v50 v51 v52 v53:Int) (v54:ByteArray) (v55:List Int):Option Qlb:=
 bif decide (v43>0) then
  bif IV.isNil v45 then
   Option.bind (Qk8 (v44,v45) (⟨#[115,116,101,112]⟩:ByteArray)) fun r56=>
   bif Nat.ble (v55.length+1) 1073741824 then
    L3 (IntKind.wrap .i64 (v43 - 1)) r56.2.1.1 r56.2.1.2 v46 v47 v48 v49 v50 v51 v52 v53 v54 (v55++[r56.1.1])
   else none
  else
   Option.bind (Qk8 (v44,v45) (⟨#[108,111]⟩:ByteArray)) fun r57=>
   Option.bind (Qk8 r57.2.1 (⟨#[104,105]⟩:ByteArray)) fun r58=>
   Option.bind (Qmf r58.2.1 (⟨#[116,101,120,116]⟩:ByteArray)) fun r59=>
   some (((v46,v47,v48,v49,v50,v51,v55,r57.1.1,r58.1.1,r59.1.1),()),(r59.2.1,()))
 else
  Option.bind (Qk8 (v44,v45) (⟨#[108,111]⟩:ByteArray)) fun r60=>
  Option.bind (Qk8 r60.2.1 (⟨#[104,105]⟩:ByteArray)) fun r61=>
  Option.bind (Qmf r61.2.1 (⟨#[116,101,120,116]⟩:ByteArray)) fun r62=>
  some (((v46,v47,v48,v49,v50,v51,v55,r60.1.1,r61.1.1,r62.1.1),()),(r62.2.1,()))
noncomputable def Qun (L1:Qpc) (L2:Z3z) (r_0:(List Int) × IV):Option Qlb:=
 Option.bind (Qk8 r_0 (⟨#[107,105,110,100]⟩:ByteArray)) fun r1=>
 Option.bind (Qk8 r1.2.1 (⟨#[102,114,111,109]⟩:ByteArray)) fun r2=>
 Option.bind (Qk8 r2.2.1 (⟨#[116,111]⟩:ByteArray)) fun r3=>
 Option.bind (Qk8 r3.2.1 (⟨#[105,110,99]⟩:ByteArray)) fun r4=>
 Option.bind (Qk8 r4.2.1 (⟨#[101,112,111,99,104]⟩:ByteArray)) fun r5=>
 Option.bind (Qk8 r5.2.1 (⟨#[97,103,101]⟩:ByteArray)) fun r6=>
 Option.bind (Qk8 r6.2.1 (⟨#[119,97,121]⟩:ByteArray)) fun r7=>
 bif decide (r7.1.1>64) then
  L1 r7.1.1 r7.2.1.1 (IV.mk 134 [.str (⟨#[119,97,121]⟩:ByteArray)]) r1.1.1 r2.1.1 r3.1.1 r4.1.1 r5.1.1 r6.1.1 0 0 (⟨#[]⟩:ByteArray) []
 else
  L2 r7.1.1 (decide (r7.1.1>64)) r7.2.1.1 r7.2.1.2 r1.1.1 r2.1.1 r3.1.1 r4.1.1 r5.1.1 r6.1.1 0 0 (⟨#[]⟩:ByteArray) []
noncomputable def Qnj (n:Nat):Nat→Qpc:=iter (fun _ _ _ _ _ _ _ _ _ _ _ _ _=>none) fun L=>Qp9 L
noncomputable def Z3q (n:Nat):Nat→Qpc:=iter (fun _ _ _ _ _ _ _ _ _ _ _ _ _=>none) fun L=>Z44 L
noncomputable def Qtn (n:Nat):Nat→Z3z:=Qjg (fun _ _ _ _ _ _ _ _ _ _ _ _ _ _=>none) fun m L=>Z45 (Z3q n m)
noncomputable def Qti (n m:Nat) (v8:Int) (v9:List Int) (v10:IV) (v11 v12 v13 v14 v15 v16 v17 v18:Int) (v19:ByteArray) (v20:List Int):Option Qlb:=
 Qjv Qya tab (fiB [.box 131 Zop [false,false]] Qtq) n [.box 131 Zop [false,false]] [⟨t45,(nF 6++[true,false,false,false]),none⟩] Tryz.f86 [1,1,1,1,1,0,0] [] [0,2,3] m
 ⟨[(0,V1 (.ptr (0,0) 0)),(2,V1 (.ptr (2,0) 0)),(3,Vp t2 v8)],[((0,0),Ob.box 131 [LV.pure t25 v9,LV.pure t20 v10]),((2,0),Ob.box 46 [LV.pure t2 v11,LV.pure t2 v12,LV.pure t2 v13,LV.pure t2 v14,LV.pure t2 v15,LV.pure t2 v16,LV.ref (2,7),LV.pure t2 v17,LV.pure t2 v18,LV.pure t9 v19]),((2,7),Ob.row 3 t2 v20)]⟩
noncomputable def Qxc (n m:Nat) (v28:Int) (v29:Bool) (v30:List Int) (v31:IV) (v32 v33 v34 v35 v36 v37 v38 v39:Int) (v40:ByteArray) (v41:List Int):Option Qlb:=
 Qjv Qya tab (fiB [.box 131 Zop [false,false]] Qtq) n [.box 131 Zop [false,false]] [⟨t45,(nF 6++[true,false,false,false]),none⟩] Tryz.f86 [1,1,1,1,1,0,0] [] [0,2,3,25] m
 ⟨[(0,V1 (.ptr (0,0) 0)),(2,V1 (.ptr (2,0) 0)),(3,Vp t2 v28),(25,Vp t4 v29)],[((0,0),Ob.box 131 [LV.pure t25 v30,LV.pure t20 v31]),((2,0),Ob.box 46 [LV.pure t2 v32,LV.pure t2 v33,LV.pure t2 v34,LV.pure t2 v35,LV.pure t2 v36,LV.pure t2 v37,LV.ref (2,7),LV.pure t2 v38,LV.pure t2 v39,LV.pure t9 v40]),((2,7),Ob.row 3 t2 v41)]⟩
noncomputable def Qtk (n m:Nat) (v43:Int) (v44:List Int) (v45:IV) (v46 v47 v48 v49 v50 v51 v52 v53:Int) (v54:ByteArray) (v55:List Int):Option Qlb:=
 Qjv Qya tab (fiB [.box 131 Zop [false,false]] Qtq) n [.box 131 Zop [false,false]] [⟨t45,(nF 6++[true,false,false,false]),none⟩] Tryz.f86 [1,1,1,1,1,0,0] [] [0,2,3,25] m
 ⟨[(0,V1 (.ptr (0,0) 0)),(2,V1 (.ptr (2,0) 0)),(3,Vp t2 v43)],[((0,0),Ob.box 131 [LV.pure t25 v44,LV.pure t20 v45]),((2,0),Ob.box 46 [LV.pure t2 v46,LV.pure t2 v47,LV.pure t2 v48,LV.pure t2 v49,LV.pure t2 v50,LV.pure t2 v51,LV.ref (2,7),LV.pure t2 v52,LV.pure t2 v53,LV.pure t9 v54]),((2,7),Ob.row 3 t2 v55)]⟩
theorem Z2h (n:Nat):∀ m,Qti n m=Qnj n m
 | 0=>rfl
 | m+1=>by rw [show Qti n (m+1)=Qp9 (Qti n m) from by kernel_rfl,Z2h n m];rfl
theorem Z1e (n:Nat):∀ m,Qtk n m=Z3q n m
 | 0=>rfl
 | m+1=>by rw [show Qtk n (m+1)=Z44 (Qtk n m) from by kernel_rfl,Z1e n m];rfl
theorem Za7 (n:Nat):∀ m,Qxc n m=Qtn n m
 | 0=>rfl
 | m+1=>by rw [show Qxc n (m+1)=Z45 (Qtk n m) from by kernel_rfl,Z1e n m];rfl
noncomputable def Z58 (n:Nat) (r_0:(List Int) × IV):Option Qlb:=Qun (Qnj n n) (Qtn n n) r_0
noncomputable def Z30 (r_0:(List Int) × IV):Option Qlb:=Z58 1099511627776 r_0
noncomputable def Z57:Ent:=⟨[.box 131 Zop [false,false]],[⟨t45,(nF 6++[true,false,false,false]),none⟩],fun x=>Z30 x.1⟩
theorem Z97:GD 86 Z57:=fnl Qtq (fun n x=>Z58 n x.1) (Qjy Z9b (Qjy Z8c Qk3)) Tryz.func86 fun n x=>Eq.trans (b:=Qun (Qti n n) (Qxc n n) x.1) (by kernel_rfl) (by rw [Z2h n n,Za7 n n];rfl)
abbrev Qme:Type:=(Int × Unit) × Unit
noncomputable def Z5n:Ctx:=[]
def Qw1:Fi:=fo [[0,1],[0,1,7,8],[0,1,7,8,9],[0,1,5,7,8],[0,1,5,7,8,16],[4],[0,1,7,8],[4]]
abbrev Qro:Type:=List Int→(Int × Unit→Option (Bool × Unit))→Int→Int→Option Qme
noncomputable def Qm1 (L1:Qro) (v1:List Int) (v2:(Int × Unit→Option (Bool × Unit))) (v3 v4:Int):Option Qme:=
 bif decide (v4<v3) then
  bif decide (0≤v4)&&decide (v4<(v1.length:Int)) then
   Option.bind (v2 (List.getD v1 v4.toNat 0,())) fun r5=>
   bif r5.1 then
    some ((v4,()),())
   else
    L1 v1 v2 v3 (IntKind.wrap .i64 (v4+1))
  else none
 else
  some (((-1),()),())
noncomputable def Qwt (L1:Qro) (s_0:List Int) (f_1:(Int × Unit→Option (Bool × Unit))):Option Qme:=
 L1 s_0 f_1 (s_0.length:Int) 0
noncomputable def Ql8 (n:Nat):Nat→Qro:=iter (fun _ _ _ _=>none) fun L=>Qm1 L
noncomputable def Qou (n m:Nat) (v1:List Int) (v2:(Int × Unit→Option (Bool × Unit))) (v3 v4:Int):Option Qme:=
 Qjv Z5n tab (fiB [.val t28,.fn [t2] [t4]] Qw1) n [.val t28,.fn [t2] [t4]] [⟨t2,[false],none⟩] Tryz.f208 [1,0,1,0] [] [0,1,7,8] m
 ⟨[(0,Vp t28 v1),(1,V1 (.clo [t2] [t4] v2)),(7,Vp t2 v3),(8,Vp t2 v4)],[]⟩
theorem Qvb (n:Nat):∀ m,Qou n m=Ql8 n m
 | 0=>rfl
 | m+1=>by rw [show Qou n (m+1)=Qm1 (Qou n m) from by kernel_rfl,Qvb n m];rfl
noncomputable def Qww (n:Nat) (s_0:List Int) (f_1:(Int × Unit→Option (Bool × Unit))):Option Qme:=Qwt (Ql8 n n) s_0 f_1
noncomputable def Qtz (s_0:List Int) (f_1:(Int × Unit→Option (Bool × Unit))):Option Qme:=Qww 1099511627776 s_0 f_1
noncomputable def Z5i:Ent:=⟨[.val t28,.fn [t2] [t4]],[⟨t2,[false],none⟩],fun x=>Qtz x.1 x.2.1⟩
theorem Z33:GD 208 Z5i:=fnl Qw1 (fun n x=>Qww n x.1 x.2.1) Qk3 Tryz.func208 fun n x=>Eq.trans (b:=Qwt (Qou n n) x.1 x.2.1) (by kernel_rfl) (by rw [Qvb n n];rfl)
noncomputable def Qox (s_0:List Int) (f_1:(Int × Unit→Option (Bool × Unit))):Option ((Bool × Unit) × Unit):=
 Option.bind (Qtz s_0 f_1) fun r1=>
 some ((decide (r1.1.1 ≥ 0),()),())
noncomputable def Z2t:Ent:=⟨[.val t28,.fn [t2] [t4]],[⟨t4,[false],none⟩],fun x=>Qox x.1 x.2.1⟩
theorem Qzk:GD 198 Z2t:=fnk 1 (fo [[0,1],[4]]) (Qjy Z33 Qk3) Tryz.func198
noncomputable def Z64 (v_0 x_1 x_2:Int):Option ((Bool × Unit) × Unit):=
 bif decide (v_0<x_1) then
  some ((true,()),())
 else
  some ((decide (v_0>x_2),()),())
noncomputable def Zg8:Ent:=⟨[.val t2,.rbox t2,.rbox t2],[⟨t4,[false],none⟩],fun x=>Z64 x.1 x.2.1 x.2.2.1⟩
theorem Zc9:GD 199 Zg8:=fnk 1 (fo [[0,1,2,9,10,11],[4]]) Qk3 Tryz.func199
noncomputable def Qoc (lo_0 hi_1:Int) (l_2:List Int):Option ((Bool × Unit) × Unit):=
 Option.bind (Qox l_2 (fun x=>(Z64 x.1 lo_0 hi_1).bind fun r=>some (r.1.1,()))) fun r1=>
 some ((!r1.1.1,()),())
noncomputable def Zn1:Ent:=⟨[.val t2,.val t2,.val t28],[⟨t4,[false],none⟩],fun x=>Qoc x.1 x.2.1 x.2.2.1⟩
theorem Za6:GD 178 Zn1:=fnk 1 (fo [[2,3,4],[6]]) (Qjy Qzk (Qjy Zc9 Qk3)) Tryz.func178
noncomputable def Zi8 (m_0:Int × Int × Int × Int × Int × Int × (List Int) × Int × Int × ByteArray):Option ((Z18 × Unit) × Unit):=
 some (((m_0.1,m_0.2.1,m_0.2.2.1,m_0.2.2.2.1,0,0,[],0,0,(⟨#[]⟩:ByteArray)),()),())
noncomputable def Zmn:Ent:=⟨[.val t45],[⟨t45,(nF 6++[true,false,false,false]),none⟩],fun x=>Zi8 x.1⟩
theorem Zi3:GD 200 Zmn:=fnk 1 (fo [[1,2],[2]]) Qk3 Tryz.func200
abbrev Qo3:Type:=(Int × Unit) × Unit
noncomputable def Zae:Ctx:=[]
def Z0a:Fi:=fo [[0,1],[0,1,7,8],[0,1,7,8,9],[0,1,5,7,8],[0,1,5,7,8,16],[4],[0,1,7,8],[4]]
abbrev Quv:Type:=List Int→Int→Int→Int→Option Qo3
noncomputable def Qnl (L1:Quv) (v1:List Int) (v2 v3 v4:Int):Option Qo3:=
 bif decide (v4<v3) then
  bif decide (0≤v4)&&decide (v4<(v1.length:Int)) then
   bif v2==(List.getD v1 v4.toNat 0) then
    some ((v4,()),())
   else
    L1 v1 v2 v3 (IntKind.wrap .i64 (v4+1))
  else none
 else
  some (((-1),()),())
noncomputable def Z1q (L1:Quv) (s_0:List Int) (v_1:Int):Option Qo3:=
 L1 s_0 v_1 (s_0.length:Int) 0
noncomputable def Qmi (n:Nat):Nat→Quv:=iter (fun _ _ _ _=>none) fun L=>Qnl L
noncomputable def Qs2 (n m:Nat) (v1:List Int) (v2 v3 v4:Int):Option Qo3:=
 Qjv Zae tab (fiB [.val t28,.val t2] Z0a) n [.val t28,.val t2] [⟨t2,[false],none⟩] Tryz.f210 [1,0,1,0] [] [0,1,7,8] m
 ⟨[(0,Vp t28 v1),(1,Vp t2 v2),(7,Vp t2 v3),(8,Vp t2 v4)],[]⟩
theorem Qz6 (n:Nat):∀ m,Qs2 n m=Qmi n m
 | 0=>rfl
 | m+1=>by rw [show Qs2 n (m+1)=Qnl (Qs2 n m) from by kernel_rfl,Qz6 n m];rfl
noncomputable def Z2l (n:Nat) (s_0:List Int) (v_1:Int):Option Qo3:=Z1q (Qmi n n) s_0 v_1
noncomputable def Qyb (s_0:List Int) (v_1:Int):Option Qo3:=Z2l 1099511627776 s_0 v_1
noncomputable def Zb1:Ent:=⟨[.val t28,.val t2],[⟨t2,[false],none⟩],fun x=>Qyb x.1 x.2.1⟩
theorem Z69:GD 210 Zb1:=fnl Z0a (fun n x=>Z2l n x.1 x.2.1) Qk3 Tryz.func210 fun n x=>Eq.trans (b:=Z1q (Qs2 n n) x.1 x.2.1) (by kernel_rfl) (by rw [Qz6 n n];rfl)
noncomputable def Qpm (s_0:List Int) (v_1:Int):Option ((Bool × Unit) × Unit):=
 Option.bind (Qyb s_0 v_1) fun r1=>
 some ((decide (r1.1.1 ≥ 0),()),())
noncomputable def Qxu:Ent:=⟨[.val t28,.val t2],[⟨t4,[false],none⟩],fun x=>Qpm x.1 x.2.1⟩
theorem Qv3:GD 202 Qxu:=fnk 1 (fo [[0,1],[4]]) (Qjy Z69 Qk3) Tryz.func202
abbrev Qx9:Type:=(IV × Unit) × Unit
noncomputable def Zka:Ctx:=[(202,Qxu)]
def Zdc:Fi:=fo [[0,9,10,11,14,15,16,17,31,32,35,36,37,38,39],[0,18,31,32,35,36,37,38,39],[2],[0,21,22,23,31,32,35,36,37,38,39],[0,21,22,23,24,31,32,35,36,37,38,39],[0,3,4,21,22,23,31,32,35,36,37,38,39],[0,3,21,22,23,31,32,35,36,37,38,39,40],[2],[0,21,22,23,31,32,35,36,37,38,39],[2]]
abbrev Z7b:Type:=List Int→List Int→Int→Int→Option Qx9
noncomputable def Qvd (L1:Z7b) (v1 v2:List Int) (v3 v4:Int):Option Qx9:=
 bif decide (v4<v3) then
  bif decide (0≤v4)&&decide (v4<(v2.length:Int)) then
   bif decide (List.getD v2 v4.toNat 0<1) then
    some ((IV.mk 222 [.int .i64 v4],()),())
   else
   bif decide (List.getD v2 v4.toNat 0>8) then
    some ((IV.mk 222 [.int .i64 v4],()),())
   else
   bif decide (0≤v4)&&decide (v4≤(v1.length:Int)) then
    Option.bind (Qpm (List.drop 0 (List.take v4.toNat v1)) (List.getD v2 v4.toNat 0)) fun r5=>
    bif r5.1.1 then
     some ((IV.mk 222 [.int .i64 v4],()),())
    else
     L1 v1 v2 v3 (IntKind.wrap .i64 (v4+1))
   else none
  else none
 else
  some ((IV.nil,()),())
noncomputable def Z54 (L1:Z7b) (p_0:List Int):Option Qx9:=
 bif decide ((p_0.length:Int)<1) then
  some ((IV.mk 222 [.int .i64 0],()),())
 else
 bif decide ((p_0.length:Int)>10) then
  some ((IV.mk 222 [.int .i64 0],()),())
 else
 bif decide (0<(p_0.length:Int)) then
  bif (List.getD p_0 0 0) != 1 then
   some ((IV.mk 222 [.int .i64 0],()),())
  else
   L1 p_0 p_0 (p_0.length:Int) 0
 else none
noncomputable def Qrb (n:Nat):Nat→Z7b:=iter (fun _ _ _ _=>none) fun L=>Qvd L
noncomputable def Z28 (n m:Nat) (v1 v2:List Int) (v3 v4:Int):Option Qx9:=
 Qjv Zka tab (fiB [.val t28] Zdc) n [.val t28] [⟨t20,[false],none⟩] Tryz.f204 [1,1,0,1,0] [] [0,21,22,23] m
 ⟨[(0,Vp t28 v1),(21,Vp t28 v2),(22,Vp t2 v3),(23,Vp t2 v4)],[]⟩
theorem Zar (n:Nat):∀ m,Z28 n m=Qrb n m
 | 0=>rfl
 | m+1=>by rw [show Z28 n (m+1)=Qvd (Z28 n m) from by kernel_rfl,Zar n m];rfl
noncomputable def Zeg (n:Nat) (p_0:List Int):Option Qx9:=Z54 (Qrb n n) p_0
noncomputable def Zfv (p_0:List Int):Option Qx9:=Zeg 1099511627776 p_0
noncomputable def Zky:Ent:=⟨[.val t28],[⟨t20,[false],none⟩],fun x=>Zfv x.1⟩
theorem Zga:GD 204 Zky:=fnl Zdc (fun n x=>Zeg n x.1) (Qjy Qv3 Qk3) Tryz.func204 fun n x=>Eq.trans (b:=Z54 (Z28 n n) x.1) (by kernel_rfl) (by rw [Zar n n];rfl)
noncomputable def Qzi (p_0:List Int):Option ((Bool × Unit) × Unit):=
 Option.bind (Zfv p_0) fun r1=>
 some ((!(IV.is r1.1.1 222),()),())
noncomputable def Zn5:Ent:=⟨[.val t28],[⟨t4,[false],none⟩],fun x=>Qzi x.1⟩
theorem Zb5:GD 183 Zn5:=fnk 1 (fo [[0],[4],[2]]) (Qjy Zga Qk3) Tryz.func183
abbrev Qo4:Type:=(Bool × Unit) × Unit
noncomputable def Zaq:Ctx:=[]
def Z0s:Fi:=fo [[0,1],[0,1,10],[4],[0,1,12,13],[0,1,12,13,14],[0,1,5,12,13],[0,1,12,13,24],[4],[0,1,12,13],[4]]
abbrev Qux:Type:=List Int→List Int→Int→Int→Option Qo4
noncomputable def Qne (L1:Qux) (v1 v2:List Int) (v3 v4:Int):Option Qo4:=
 bif decide (v4<v3) then
  bif decide (0≤v4)&&decide (v4<(v1.length:Int)) then
   bif decide (0≤v4)&&decide (v4<(v2.length:Int)) then
    bif (List.getD v1 v4.toNat 0) != (List.getD v2 v4.toNat 0) then
     some ((false,()),())
    else
     L1 v1 v2 v3 (IntKind.wrap .i64 (v4+1))
   else none
  else none
 else
  some ((true,()),())
noncomputable def Qsh (L1:Qux) (s1_0 s2_1:List Int):Option Qo4:=
 bif (s1_0.length:Int) != (s2_1.length:Int) then
  some ((false,()),())
 else
  L1 s1_0 s2_1 (s1_0.length:Int) 0
noncomputable def Qnk (n:Nat):Nat→Qux:=iter (fun _ _ _ _=>none) fun L=>Qne L
noncomputable def Qs1 (n m:Nat) (v1 v2:List Int) (v3 v4:Int):Option Qo4:=
 Qjv Zaq tab (fiB [.val t28,.val t28] Z0s) n [.val t28,.val t28] [⟨t4,[false],none⟩] Tryz.f209 [1,1,0,1,0] [] [0,1,12,13] m
 ⟨[(0,Vp t28 v1),(1,Vp t28 v2),(12,Vp t2 v3),(13,Vp t2 v4)],[]⟩
theorem Qyy (n:Nat):∀ m,Qs1 n m=Qnk n m
 | 0=>rfl
 | m+1=>by rw [show Qs1 n (m+1)=Qne (Qs1 n m) from by kernel_rfl,Qyy n m];rfl
noncomputable def Z1c (n:Nat) (s1_0 s2_1:List Int):Option Qo4:=Qsh (Qnk n n) s1_0 s2_1
noncomputable def Qye (s1_0 s2_1:List Int):Option Qo4:=Z1c 1099511627776 s1_0 s2_1
noncomputable def Zal:Ent:=⟨[.val t28,.val t28],[⟨t4,[false],none⟩],fun x=>Qye x.1 x.2.1⟩
theorem Z70:GD 209 Zal:=fnl Z0s (fun n x=>Z1c n x.1 x.2.1) Qk3 Tryz.func209 fun n x=>Eq.trans (b:=Qsh (Qs1 n n) x.1 x.2.1) (by kernel_rfl) (by rw [Qyy n n];rfl)
noncomputable def Qpq (a_0 b_1:Int × Int × Int × Int × Int × Int × (List Int) × Int × Int × ByteArray):Option ((Bool × Unit) × Unit):=
 bif a_0.1==b_1.1 then
  bif a_0.2.1==b_1.2.1 then
   bif a_0.2.2.1==b_1.2.2.1 then
    bif a_0.2.2.2.1==b_1.2.2.2.1 then
     bif a_0.2.2.2.2.1==b_1.2.2.2.2.1 then
      bif a_0.2.2.2.2.2.1==b_1.2.2.2.2.2.1 then
       Option.bind (Qye a_0.2.2.2.2.2.2.1 b_1.2.2.2.2.2.2.1) fun r1=>
       bif r1.1.1 then
        bif a_0.2.2.2.2.2.2.2.1==b_1.2.2.2.2.2.2.2.1 then
         bif a_0.2.2.2.2.2.2.2.2.1==b_1.2.2.2.2.2.2.2.2.1 then
          some ((Qeq a_0.2.2.2.2.2.2.2.2.2 b_1.2.2.2.2.2.2.2.2.2,()),())
         else
          some ((false,()),())
        else
         some ((false,()),())
       else
        some ((false,()),())
      else
       some ((false,()),())
     else
      some ((false,()),())
    else
     some ((false,()),())
   else
    some ((false,()),())
  else
   some ((false,()),())
 else
  some ((false,()),())
noncomputable def Zmp:Ent:=⟨[.val t45,.val t45],[⟨t4,[false],none⟩],fun x=>Qpq x.1 x.2.1⟩
theorem Zi1:GD 201 Zmp:=fnk 1 (fo [[2,3,11,12,13,14,15,18,19,20,21,22,25,26,27,28,29,32,33,34,35,36,39,40,41,42,43,46,47,48,49,50,53,54,55,56,57,60,61,62,63,64,67,68,69,70,71],[4]]) (Qjy Z70 Qk3) Tryz.func201
noncomputable def Z7p (m_0:Int × Int × Int × Int × Int × Int × (List Int) × Int × Int × ByteArray):Option ((Bool × Unit) × Unit):=
 Option.bind (Zi8 m_0) fun r1=>
 bif m_0.1==2 then
  bif m_0.1==2 then
   bif m_0.1==2 then
    Option.bind (Qoc 0 1073741824 [m_0.2.2.2.2.1,m_0.2.2.2.2.2.1]) fun r2=>
    bif r2.1.1 then
     Option.bind (Qzi m_0.2.2.2.2.2.2.1) fun r3=>
     bif r3.1.1 then
      Option.bind (Qoc 0 1000000 [m_0.2.2.2.2.2.2.2.1,r1.1.1.2.2.2.2.2.2.2.2.1]) fun r4=>
      bif r4.1.1 then
       Option.bind (Qpq m_0 (r1.1.1.1,r1.1.1.2.1,r1.1.1.2.2.1,r1.1.1.2.2.2.1,m_0.2.2.2.2.1,m_0.2.2.2.2.2.1,m_0.2.2.2.2.2.2.1,m_0.2.2.2.2.2.2.2.1,r1.1.1.2.2.2.2.2.2.2.2)) fun r5=>
       some ((r5.1.1,()),())
      else
       some ((false,()),())
     else
      some ((false,()),())
    else
     some ((false,()),())
   else
    Option.bind (Qoc 0 1073741824 [m_0.2.2.2.2.1,m_0.2.2.2.2.2.1]) fun r6=>
    bif r6.1.1 then
     Option.bind (Qzi m_0.2.2.2.2.2.2.1) fun r7=>
     bif r7.1.1 then
      Option.bind (Qoc 0 1000000 [r1.1.1.2.2.2.2.2.2.2.1,m_0.2.2.2.2.2.2.2.2.1]) fun r8=>
      bif r8.1.1 then
       Option.bind (Qpq m_0 (r1.1.1.1,r1.1.1.2.1,r1.1.1.2.2.1,r1.1.1.2.2.2.1,m_0.2.2.2.2.1,m_0.2.2.2.2.2.1,m_0.2.2.2.2.2.2.1,r1.1.1.2.2.2.2.2.2.2.1,m_0.2.2.2.2.2.2.2.2.1,r1.1.1.2.2.2.2.2.2.2.2.2)) fun r9=>
       some ((r9.1.1,()),())
      else
       some ((false,()),())
     else
      some ((false,()),())
    else
     some ((false,()),())
  else
  bif m_0.1==7 then
   Option.bind (Qoc 1 1000000 [m_0.2.2.2.2.2.2.2.1]) fun r10=>
   bif r10.1.1 then
    bif decide ((m_0.2.2.2.2.2.2.2.2.2.size:Int)≤12) then
     Option.bind (Qpq m_0 (r1.1.1.1,r1.1.1.2.1,r1.1.1.2.2.1,r1.1.1.2.2.2.1,r1.1.1.2.2.2.2.1,r1.1.1.2.2.2.2.2.1,r1.1.1.2.2.2.2.2.2.1,m_0.2.2.2.2.2.2.2.1,r1.1.1.2.2.2.2.2.2.2.2.1,m_0.2.2.2.2.2.2.2.2.2)) fun r11=>
     some ((r11.1.1,()),())
    else
     some ((false,()),())
   else
    some ((false,()),())
  else
  bif m_0.1==8 then
   bif m_0.1==8 then
    bif decide (m_0.2.2.2.2.2.2.2.1≤m_0.2.2.2.2.2.2.2.2.1) then
     Option.bind (Qoc 1 1000000 [m_0.2.2.2.2.2.2.2.1,m_0.2.2.2.2.2.2.2.2.1]) fun r12=>
     bif r12.1.1 then
      Option.bind (Qpq m_0 (r1.1.1.1,r1.1.1.2.1,r1.1.1.2.2.1,r1.1.1.2.2.2.1,r1.1.1.2.2.2.2.1,r1.1.1.2.2.2.2.2.1,r1.1.1.2.2.2.2.2.2.1,m_0.2.2.2.2.2.2.2.1,m_0.2.2.2.2.2.2.2.2.1,r1.1.1.2.2.2.2.2.2.2.2.2)) fun r13=>
      some ((r13.1.1,()),())
     else
      some ((false,()),())
    else
     some ((false,()),())
   else
    Option.bind (Qpq m_0 r1.1.1) fun r14=>
    some ((r14.1.1,()),())
  else
  bif m_0.1==9 then
   bif decide (m_0.2.2.2.2.2.2.2.1≤m_0.2.2.2.2.2.2.2.2.1) then
    Option.bind (Qoc 1 1000000 [m_0.2.2.2.2.2.2.2.1,m_0.2.2.2.2.2.2.2.2.1]) fun r15=>
    bif r15.1.1 then
     Option.bind (Qpq m_0 (r1.1.1.1,r1.1.1.2.1,r1.1.1.2.2.1,r1.1.1.2.2.2.1,r1.1.1.2.2.2.2.1,r1.1.1.2.2.2.2.2.1,r1.1.1.2.2.2.2.2.2.1,m_0.2.2.2.2.2.2.2.1,m_0.2.2.2.2.2.2.2.2.1,r1.1.1.2.2.2.2.2.2.2.2.2)) fun r16=>
     some ((r16.1.1,()),())
    else
     some ((false,()),())
   else
    some ((false,()),())
  else
   Option.bind (Qpq m_0 r1.1.1) fun r17=>
   some ((r17.1.1,()),())
 else
 bif m_0.1==5 then
  bif m_0.1==2 then
   Option.bind (Qoc 0 1073741824 [m_0.2.2.2.2.1,m_0.2.2.2.2.2.1]) fun r18=>
   bif r18.1.1 then
    Option.bind (Qzi m_0.2.2.2.2.2.2.1) fun r19=>
    bif r19.1.1 then
     Option.bind (Qoc 0 1000000 [m_0.2.2.2.2.2.2.2.1,r1.1.1.2.2.2.2.2.2.2.2.1]) fun r20=>
     bif r20.1.1 then
      Option.bind (Qpq m_0 (r1.1.1.1,r1.1.1.2.1,r1.1.1.2.2.1,r1.1.1.2.2.2.1,m_0.2.2.2.2.1,m_0.2.2.2.2.2.1,m_0.2.2.2.2.2.2.1,m_0.2.2.2.2.2.2.2.1,r1.1.1.2.2.2.2.2.2.2.2)) fun r21=>
      some ((r21.1.1,()),())
     else
      some ((false,()),())
    else
     some ((false,()),())
   else
    some ((false,()),())
  else
   Option.bind (Qoc 0 1073741824 [m_0.2.2.2.2.1,m_0.2.2.2.2.2.1]) fun r22=>
   bif r22.1.1 then
    Option.bind (Qzi m_0.2.2.2.2.2.2.1) fun r23=>
    bif r23.1.1 then
     Option.bind (Qoc 0 1000000 [r1.1.1.2.2.2.2.2.2.2.1,m_0.2.2.2.2.2.2.2.2.1]) fun r24=>
     bif r24.1.1 then
      Option.bind (Qpq m_0 (r1.1.1.1,r1.1.1.2.1,r1.1.1.2.2.1,r1.1.1.2.2.2.1,m_0.2.2.2.2.1,m_0.2.2.2.2.2.1,m_0.2.2.2.2.2.2.1,r1.1.1.2.2.2.2.2.2.2.1,m_0.2.2.2.2.2.2.2.2.1,r1.1.1.2.2.2.2.2.2.2.2.2)) fun r25=>
      some ((r25.1.1,()),())
     else
      some ((false,()),())
    else
     some ((false,()),())
   else
    some ((false,()),())
 else
 bif m_0.1==7 then
  Option.bind (Qoc 1 1000000 [m_0.2.2.2.2.2.2.2.1]) fun r26=>
  bif r26.1.1 then
   bif decide ((m_0.2.2.2.2.2.2.2.2.2.size:Int)≤12) then
    Option.bind (Qpq m_0 (r1.1.1.1,r1.1.1.2.1,r1.1.1.2.2.1,r1.1.1.2.2.2.1,r1.1.1.2.2.2.2.1,r1.1.1.2.2.2.2.2.1,r1.1.1.2.2.2.2.2.2.1,m_0.2.2.2.2.2.2.2.1,r1.1.1.2.2.2.2.2.2.2.2.1,m_0.2.2.2.2.2.2.2.2.2)) fun r27=>
    some ((r27.1.1,()),())
   else
    some ((false,()),())
  else
   some ((false,()),())
 else
 bif m_0.1==8 then
  bif m_0.1==8 then
   bif decide (m_0.2.2.2.2.2.2.2.1≤m_0.2.2.2.2.2.2.2.2.1) then
    Option.bind (Qoc 1 1000000 [m_0.2.2.2.2.2.2.2.1,m_0.2.2.2.2.2.2.2.2.1]) fun r28=>
    bif r28.1.1 then
     Option.bind (Qpq m_0 (r1.1.1.1,r1.1.1.2.1,r1.1.1.2.2.1,r1.1.1.2.2.2.1,r1.1.1.2.2.2.2.1,r1.1.1.2.2.2.2.2.1,r1.1.1.2.2.2.2.2.2.1,m_0.2.2.2.2.2.2.2.1,m_0.2.2.2.2.2.2.2.2.1,r1.1.1.2.2.2.2.2.2.2.2.2)) fun r29=>
     some ((r29.1.1,()),())
    else
     some ((false,()),())
   else
    some ((false,()),())
  else
   Option.bind (Qpq m_0 r1.1.1) fun r30=>
   some ((r30.1.1,()),())
 else
 bif m_0.1==9 then
  bif decide (m_0.2.2.2.2.2.2.2.1≤m_0.2.2.2.2.2.2.2.2.1) then
   Option.bind (Qoc 1 1000000 [m_0.2.2.2.2.2.2.2.1,m_0.2.2.2.2.2.2.2.2.1]) fun r31=>
   bif r31.1.1 then
    Option.bind (Qpq m_0 (r1.1.1.1,r1.1.1.2.1,r1.1.1.2.2.1,r1.1.1.2.2.2.1,r1.1.1.2.2.2.2.1,r1.1.1.2.2.2.2.2.1,r1.1.1.2.2.2.2.2.2.1,m_0.2.2.2.2.2.2.2.1,m_0.2.2.2.2.2.2.2.2.1,r1.1.1.2.2.2.2.2.2.2.2.2)) fun r32=>
    some ((r32.1.1,()),())
   else
    some ((false,()),())
  else
   some ((false,()),())
 else
  Option.bind (Qpq m_0 r1.1.1) fun r33=>
  some ((r33.1.1,()),())
noncomputable def Zis:Ent:=⟨[.val t45],[⟨t4,[false],none⟩],fun x=>Z7p x.1⟩
theorem Zft:GD 179 Zis:=fnk 1 (fo [[1,36,37,38,41,42,43,44,45,46,49,50,51,66,67,68,69,72,73,74,91,92,93,94,95,96,99,100,101],[1,3,36,37,38,41,42,43,44,45,46,49,50,51,66,67,68,69,72,73,74,91,92,93,94,95,96,99,100,101],[1,3,7,36,37,38,41,42,43,44,45,46,49,50,51,66,67,68,69,72,73,74,91,92,93,94,95,96,99,100,101],[1,3,7,8,36,37,38,41,42,43,44,45,46,49,50,51,66,67,68,69,72,73,74,91,92,93,94,95,96,99,100,101],[1,3,7,8,36,37,38,41,42,43,44,45,46,49,50,51,66,67,68,69,72,73,74,91,92,93,94,95,96,99,100,101],[1,3,36,37,38,41,42,43,44,45,46,49,50,51],[1,3,22,36,37,38,41,42,43,44,45,46,49,50,51],[1,3,36,37,38,41,42,43,44,45,46,49,50,51],[1,3,36,37,38,41,42,43,44,45,46,49,50,51],[2],[1,3,7,53,66,67,68,69,72,73,74,91,92,93,94,95,96,99,100,101],[1,3,66,67,68,69,72,73,74],[2],[1,3,7,76,91,92,93,94,95,96,99,100,101],[1,3,76,91,92,93,94,95,96,99,100,101],[1,3,91,92,93,94,95,96,99,100,101],[2],[2]]) (Qjy Za6 (Qjy Zb5 (Qjy Zi3 (Qjy Zi1 Qk3)))) Tryz.func179
noncomputable def Zia (m_0:Int × Int × Int × Int × Int × Int × (List Int) × Int × Int × ByteArray):Option ((Bool × Unit) × Unit):=
 Option.bind (Qoc 1 9 [m_0.1]) fun r1=>
 bif r1.1.1 then
  Option.bind (Qoc 1 8 [m_0.2.1,m_0.2.2.1]) fun r2=>
  bif r2.1.1 then
   bif m_0.2.1 != m_0.2.2.1 then
    Option.bind (Qoc 1 1073741824 [m_0.2.2.2.1]) fun r3=>
    bif r3.1.1 then
     Option.bind (Z7p m_0) fun r4=>
     some ((r4.1.1,()),())
    else
     some ((false,()),())
   else
    some ((false,()),())
  else
   some ((false,()),())
 else
  some ((false,()),())
noncomputable def Zjo:Ent:=⟨[.val t45],[⟨t4,[false],none⟩],fun x=>Zia x.1⟩
theorem Zj8:GD 148 Zjo:=fnk 1 (fo [[1,8,9,10,11,12,13,16,17,18,19,20,23,24,25,26,29,30],[2]]) (Qjy Za6 (Qjy Zft Qk3)) Tryz.func148
noncomputable def Qtf (s:List Int):Option (((List Int) × Unit) × Unit):=bif Nat.ble s.length 1073741824 then some ((s,()),()) else none
theorem Z6g (s:List Int):Qde [] tab (Qk4 Tryz.f180 []) 1 [.val t25] [⟨t25,[true],none⟩] Tryz.f180 (s,())=bif !(List.isEmpty s) then bif Nat.ble (0+s.length) 1073741824 then some (([]++s,()),()) else none
 else Q3f (some (([],()),())) (bif Nat.ble (0+s.length) 1073741824 then some (([]++s,()),()) else none):=by kernel_rfl
theorem Z8k (s:List Int):Qde [] tab (Qk4 Tryz.f180 []) 1 [.val t25] [⟨t25,[true],none⟩] Tryz.f180 (s,())=Qtf s:=by
  rw [Z6g]
  cases s with
  | nil=>exact Qcu _
  | cons x q=>rw [Nat.zero_add];rfl
noncomputable def Z11:Ent:=⟨[.val t25],[⟨t25,[true],none⟩],fun x=>Qtf x.1⟩
theorem Z5x:Q4u tab.ty Tryz.prog 180 Z11:=by
  refine Qjk (Γ:=[]) (fi:=Qk4 Tryz.f180 []) (n:=1) follows Qk3 Zfg Tryz.func180 (by kernel_rfl) (by kernel_rfl) (fun x r h=>?_)
  obtain ⟨s,_u⟩:=x
  exact (Z8k s).trans h
abbrev Qzr:Type:=((List Int) × Unit) × Unit
noncomputable def Zm8:Ctx:=[(180,Z11)]
def Zfl:Fi:=fo [[0,1],[0,1],[0,5],[0,5,11],[0,5],[0,5],[4]]
abbrev Z9s:Type:=Int→List Int→Option Qzr
noncomputable def Z4h (L1:Z9s) (v2:Int) (v3:List Int):Option Qzr:=
 bif decide (v2 ≥ 128) then
  bif Nat.ble (v3.length+1) 1073741824 then
   L1 (Int.fdiv v2 (2 ^ 7)) (v3++[IntKind.wrap .u8 ((BitVec.ofInt 8 (IntKind.wrap .u8 v2) ||| BitVec.ofInt 8 128).toNat)])
  else none
 else
 bif Nat.ble (v3.length+1) 1073741824 then
  some ((v3++[IntKind.wrap .u8 v2],()),())
 else none
noncomputable def Z7v (L1:Z9s) (b_0:List Int) (v_1:Int):Option Qzr:=
 Option.bind (Qtf b_0) fun r1=>
 L1 (IntKind.wrap .u64 v_1) r1.1.1
noncomputable def Z0q (n:Nat):Nat→Z9s:=iter (fun _ _=>none) fun L=>Z4h L
noncomputable def Z4l (n m:Nat) (v2:Int) (v3:List Int):Option Qzr:=
 Qjv Zm8 tab (fiB [.val t25,.val t2] Zfl) n [.val t25,.val t2] [⟨t25,[true],none⟩] Tryz.f149 [1,1,1,0,0] [] [0,5] m
 ⟨[(0,V1 (.ref (888888,0))),(5,Vp t12 v2)],[((888888,0),Ob.row 5 t5 v3)]⟩
theorem Zd8 (n:Nat):∀ m,Z4l n m=Z0q n m
 | 0=>rfl
 | m+1=>by rw [show Z4l n (m+1)=Z4h (Z4l n m) from by kernel_rfl,Zd8 n m];rfl
noncomputable def Zh5 (n:Nat) (b_0:List Int) (v_1:Int):Option Qzr:=Z7v (Z0q n n) b_0 v_1
noncomputable def Ze7 (b_0:List Int) (v_1:Int):Option Qzr:=Zh5 1099511627776 b_0 v_1
noncomputable def Zgu:Ent:=⟨[.val t25,.val t2],[⟨t25,[true],none⟩],fun x=>Ze7 x.1 x.2.1⟩
theorem Zbd:GD 149 Zgu:=fnl Zfl (fun n x=>Zh5 n x.1 x.2.1) (Qjy Z5x Qk3) Tryz.func149 fun n x=>Eq.trans (b:=Z7v (Z4l n n) x.1 x.2.1) (by kernel_rfl) (by rw [Zd8 n n];rfl)
noncomputable def Z22 (b_0:List Int) (s_1:ByteArray):Option (((List Int) × Unit) × Unit):=
 Option.bind (Ze7 b_0 (s_1.size:Int)) fun r1=>
 bif Nat.ble (r1.1.1.length+(s_1.data.toList.map fun b=>(b.toNat:Int)).length) 1073741824 then
  some ((r1.1.1++(s_1.data.toList.map fun b=>(b.toNat:Int)),()),())
 else none
noncomputable def Z8u:Ent:=⟨[.val t25,.val t9],[⟨t25,[true],none⟩],fun x=>Z22 x.1 x.2.1⟩
theorem Zbw:GD 150 Z8u:=fnk 1 (fo [[0,1],[4]]) (Qjy Zbd Qk3) Tryz.func150
abbrev Qvi:Type:=(Int × Unit) × Unit
noncomputable def Zj7:Ctx:=[]
def Zcd:Fi:=fo [[0],[0,3],[3,7,8,9],[3,7,8,9,10],[3,5,7,8,9],[3,7,8,9],[3,7,8,9,17],[3,7,8,9,17,18],[3,6,7,8,9,17],[3,6,7,8,9,17],[3,7,8,9,17,24],[3,7,8,9,17],[3,7,8,9,17],[3,7,8,9],[2]]
abbrev Z7o:Type:=Int→List Int→Int→Int→Option Qvi
abbrev Zcg:Type:=Int→List Int→Int→Int→Int→Option Qvi
noncomputable def Qzx (L2:Zcg) (v1:Int) (v2:List Int) (v3 v4:Int):Option Qvi:=
 bif decide (v4<v3) then
  bif decide (0≤v4)&&decide (v4<(v2.length:Int)) then
   L2 (IntKind.wrap .u32 ((BitVec.ofInt 32 v1 ^^^ BitVec.ofInt 32 (IntKind.wrap .u32 (List.getD v2 v4.toNat 0))).toNat)) v2 v3 v4 0
  else none
 else
  some ((IntKind.wrap .u32 ((BitVec.ofInt 32 v1 ^^^ BitVec.ofInt 32 4294967295).toNat),()),())
noncomputable def Qzp (L2:Zcg) (L1:Z7o) (v5:Int) (v6:List Int) (v7 v8 v9:Int):Option Qvi:=
 bif decide (v9<8) then
  bif (IntKind.wrap .u32 ((BitVec.ofInt 32 v5 &&& BitVec.ofInt 32 1).toNat))==1 then
   L2 (IntKind.wrap .u32 ((BitVec.ofInt 32 (Int.fdiv v5 (2 ^ 1)) ^^^ BitVec.ofInt 32 3988292384).toNat)) v6 v7 v8 (IntKind.wrap .i64 (v9+1))
  else
   L2 (Int.fdiv v5 (2 ^ 1)) v6 v7 v8 (IntKind.wrap .i64 (v9+1))
 else
  L1 v5 v6 v7 (IntKind.wrap .i64 (v8+1))
noncomputable def Zik (L1:Z7o) (b_0:List Int):Option Qvi:=
 L1 4294967295 b_0 (b_0.length:Int) 0
noncomputable def Qx7 (n:Nat) (m1:Nat) (r1:Z7o):Nat→Zcg:=iter (fun _ _ _ _ _=>none) fun L=>Qzp L r1
noncomputable def Qzu (n:Nat):Nat→Z7o:=Qjg (fun _ _ _ _=>none) fun m L=>Qzx (Qx7 n m L n)
noncomputable def Z3k (n m:Nat) (v1:Int) (v2:List Int) (v3 v4:Int):Option Qvi:=
 Qjv Zj7 tab (fiB [.val t25] Zcd) n [.val t25] [⟨t91,[false],none⟩] Tryz.f151 [1,1,0,1,0] [] [3,7,8,9] m
 ⟨[(3,Vp t91 v1),(7,Vp t25 v2),(8,Vp t2 v3),(9,Vp t2 v4)],[]⟩
noncomputable def Z7s (n m1 m:Nat) (v5:Int) (v6:List Int) (v7 v8 v9:Int):Option Qvi:=
 Qjv Zj7 tab (fiB [.val t25] Zcd) n [.val t25] [⟨t91,[false],none⟩] Tryz.f151 [1,1,0,1,0,0,1,1,0,0,1,1,1,0] [(m1,[3,7,8,9])] [3,7,8,9,17] m
 ⟨[(3,Vp t91 v5),(7,Vp t25 v6),(8,Vp t2 v7),(9,Vp t2 v8),(17,Vp t2 v9)],[]⟩
theorem Zf6 (n m1:Nat):∀ m,Z7s n m1 m=Qx7 n m1 (Z3k n m1) m
 | 0=>rfl
 | m+1=>by rw [show Z7s n m1 (m+1)=Qzp (Z7s n m1 m) (Z3k n m1) from by kernel_rfl,Zf6 n m1 m];rfl
theorem Zeh (n:Nat):∀ m,Z3k n m=Qzu n m
 | 0=>rfl
 | m+1=>by rw [show Z3k n (m+1)=Qzx (Z7s n m n) from by kernel_rfl,Zf6 n m n,Zeh n m];rfl
noncomputable def Zjg (n:Nat) (b_0:List Int):Option Qvi:=Zik (Qzu n n) b_0
noncomputable def Zke (b_0:List Int):Option Qvi:=Zjg 1099511627776 b_0
noncomputable def Zjc:Ent:=⟨[.val t25],[⟨t91,[false],none⟩],fun x=>Zke x.1⟩
theorem Zj3:GD 151 Zjc:=fnl Zcd (fun n x=>Zjg n x.1) Qk3 Tryz.func151 fun n x=>Eq.trans (b:=Zik (Z3k n n) x.1) (by kernel_rfl) (by rw [Zeh n n];rfl)
abbrev Z3a:Type:=((List Int) × Unit) × Unit
noncomputable def Zoa:Ctx:=[(148,Zjo),(149,Zgu),(150,Z8u),(151,Zjc)]
def Zgw:Fi:={ keep:=[],vty:=[(4,25)],vals:=[],live:=[(0,[1]),(1,[1,10]),(2,[2]),(3,[1,3]),(4,[1,3]),(5,[1,3,4]),(6,[1,4,37,38,39]),(7,[1,4,37,38,39,40]),(8,[1,4,6,37,38,39]),(9,[1,4,37,38,39]),(10,[1,4,37,38,39]),(11,[4]),(12,[4,7]),(13,[2])] }
abbrev Zc1:Type:=Int→Int→Int→Int→Int→Int→Int→Int→List Int→Int→Int→ByteArray→List Int→List Int→Option Z3a
noncomputable def Qzq (L1:Zc1) (v2 v3 v4 v5 v6 v7 v8 v9:Int) (v10:List Int) (v11 v12:Int) (v13:ByteArray) (v14 v15:List Int):Option Z3a:=
 bif decide (v3<v2) then
  bif decide (0≤v3)&&decide (v3<(v15.length:Int)) then
   bif decide (0≤v3)&&decide (v3<(v15.length:Int)) then
    Option.bind (Ze7 v14 (List.getD v15 v3.toNat 0)) fun r16=>
    L1 v2 (IntKind.wrap .i64 (v3+1)) v4 v5 v6 v7 v8 v9 v10 v11 v12 v13 r16.1.1 v15
   else none
  else none
 else
  Option.bind (Z22 v14 v13) fun r17=>
  Option.bind (Zke r17.1.1) fun r18=>
  bif Nat.ble (r17.1.1.length+4) 1073741824 then
   some ((r17.1.1++[IntKind.wrap .u8 (Int.fdiv r18.1.1 (2 ^ 24)),IntKind.wrap .u8 (Int.fdiv r18.1.1 (2 ^ 16)),IntKind.wrap .u8 (Int.fdiv r18.1.1 (2 ^ 8)),IntKind.wrap .u8 r18.1.1],()),())
  else none
noncomputable def Zbm (L1:Zc1) (m_0:Int × Int × Int × Int × Int × Int × (List Int) × Int × Int × ByteArray):Option Z3a:=
 Option.bind (Zia m_0) fun r1=>
 bif !r1.1.1 then
  some (([],()),())
 else
 bif Nat.ble (7+m_0.2.2.2.2.2.2.1.length) 1073741824 then
  bif Nat.ble (([m_0.1,m_0.2.1,m_0.2.2.1,m_0.2.2.2.1,m_0.2.2.2.2.1,m_0.2.2.2.2.2.1,(m_0.2.2.2.2.2.2.1.length:Int)]++m_0.2.2.2.2.2.2.1).length+2) 1073741824 then
   L1 ((([m_0.1,m_0.2.1,m_0.2.2.1,m_0.2.2.2.1,m_0.2.2.2.2.1,m_0.2.2.2.2.2.1,(m_0.2.2.2.2.2.2.1.length:Int)]++m_0.2.2.2.2.2.2.1)++[m_0.2.2.2.2.2.2.2.1,m_0.2.2.2.2.2.2.2.2.1]).length:Int) 0 m_0.1 m_0.2.1 m_0.2.2.1 m_0.2.2.2.1 m_0.2.2.2.2.1 m_0.2.2.2.2.2.1 m_0.2.2.2.2.2.2.1 m_0.2.2.2.2.2.2.2.1 m_0.2.2.2.2.2.2.2.2.1 m_0.2.2.2.2.2.2.2.2.2 [] (([m_0.1,m_0.2.1,m_0.2.2.1,m_0.2.2.2.1,m_0.2.2.2.2.1,m_0.2.2.2.2.2.1,(m_0.2.2.2.2.2.2.1.length:Int)]++m_0.2.2.2.2.2.2.1)++[m_0.2.2.2.2.2.2.2.1,m_0.2.2.2.2.2.2.2.2.1])
  else none
 else none
noncomputable def Qzw (n:Nat):Nat→Zc1:=iter (fun _ _ _ _ _ _ _ _ _ _ _ _ _ _=>none) fun L=>Qzq L
noncomputable def Z7r (n m:Nat) (v2 v3 v4 v5 v6 v7 v8 v9:Int) (v10:List Int) (v11 v12:Int) (v13:ByteArray) (v14 v15:List Int):Option Z3a:=
 Qjv Zoa tab (fiB [.val t45] Zgw) n [.val t45] [⟨t25,[true],none⟩] Tryz.f87 [1,1,1,1,1,0,1,0] [] [1,4,37,38,39] m
 ⟨[(1,V1 (.ptr (1,0) 0)),(4,V1 (.ref (888888,4))),(37,V1 (.ref (888888,37))),(38,Vp t2 v2),(39,Vp t2 v3)],[((1,0),Ob.box 46 [LV.pure t2 v4,LV.pure t2 v5,LV.pure t2 v6,LV.pure t2 v7,LV.pure t2 v8,LV.pure t2 v9,LV.pure t28 v10,LV.pure t2 v11,LV.pure t2 v12,LV.pure t9 v13]),((888888,4),Ob.row 5 t5 v14),((888888,37),Ob.row 3 t2 v15)]⟩
theorem Zfe (n:Nat):∀ m,Z7r n m=Qzw n m
 | 0=>rfl
 | m+1=>by rw [show Z7r n (m+1)=Qzq (Z7r n m) from by kernel_rfl,Zfe n m];rfl
noncomputable def Zj0 (n:Nat) (m_0:Int × Int × Int × Int × Int × Int × (List Int) × Int × Int × ByteArray):Option Z3a:=Zbm (Qzw n n) m_0
noncomputable def Zkz (m_0:Int × Int × Int × Int × Int × Int × (List Int) × Int × Int × ByteArray):Option Z3a:=Zj0 1099511627776 m_0
noncomputable def Zjb:Ent:=⟨[.val t45],[⟨t25,[true],none⟩],fun x=>Zkz x.1⟩
theorem Zju:GD 87 Zjb:=fnl Zgw (fun n x=>Zj0 n x.1) (Qjy Zj8 (Qjy Zbd (Qjy Zbw (Qjy Zj3 Qk3)))) Tryz.func87 fun n x=>Eq.trans (b:=Zbm (Z7r n n) x.1) (by kernel_rfl) (by rw [Zfe n n];rfl)
abbrev Qnd:Type:=(Bool × Unit) × Unit
noncomputable def Z9l:Ctx:=[]
def Qz0:Fi:=fo [[0,1],[0,1,10],[4],[0,1,12,13],[0,1,12,13,14],[0,1,5,12,13],[0,1,12,13,24],[4],[0,1,12,13],[4]]
abbrev Qu0:Type:=List Int→List Int→Int→Int→Option Qnd
noncomputable def Qmv (L1:Qu0) (v1 v2:List Int) (v3 v4:Int):Option Qnd:=
 bif decide (v4<v3) then
  bif decide (0≤v4)&&decide (v4<(v1.length:Int)) then
   bif decide (0≤v4)&&decide (v4<(v2.length:Int)) then
    bif (List.getD v1 v4.toNat 0) != (List.getD v2 v4.toNat 0) then
     some ((false,()),())
    else
     L1 v1 v2 v3 (IntKind.wrap .i64 (v4+1))
   else none
  else none
 else
  some ((true,()),())
noncomputable def Qs0 (L1:Qu0) (s1_0 s2_1:List Int):Option Qnd:=
 bif (s1_0.length:Int) != (s2_1.length:Int) then
  some ((false,()),())
 else
  L1 s1_0 s2_1 (s1_0.length:Int) 0
noncomputable def Qn2 (n:Nat):Nat→Qu0:=iter (fun _ _ _ _=>none) fun L=>Qmv L
noncomputable def Qqw (n m:Nat) (v1 v2:List Int) (v3 v4:Int):Option Qnd:=
 Qjv Z9l tab (fiB [.val t25,.val t25] Qz0) n [.val t25,.val t25] [⟨t4,[false],none⟩] Tryz.f88 [1,1,0,1,0] [] [0,1,12,13] m
 ⟨[(0,Vp t25 v1),(1,Vp t25 v2),(12,Vp t2 v3),(13,Vp t2 v4)],[]⟩
theorem Qxv (n:Nat):∀ m,Qqw n m=Qn2 n m
 | 0=>rfl
 | m+1=>by rw [show Qqw n (m+1)=Qmv (Qqw n m) from by kernel_rfl,Qxv n m];rfl
noncomputable def Z0i (n:Nat) (s1_0 s2_1:List Int):Option Qnd:=Qs0 (Qn2 n n) s1_0 s2_1
noncomputable def Qtj (s1_0 s2_1:List Int):Option Qnd:=Z0i 1099511627776 s1_0 s2_1
noncomputable def Z01:Ent:=⟨[.val t25,.val t25],[⟨t4,[false],none⟩],fun x=>Qtj x.1 x.2.1⟩
theorem Z5t:GD 88 Z01:=fnl Qz0 (fun n x=>Z0i n x.1 x.2.1) Qk3 Tryz.func88 fun n x=>Eq.trans (b:=Qs0 (Qqw n n) x.1 x.2.1) (by kernel_rfl) (by rw [Qxv n n];rfl)
noncomputable def Zc8:Ctx:=[(86,Z57),(87,Zjb),(88,Z01)]
def Z9j:Fi:={ keep:=[],vty:=[],vals:=[],live:=[(0,[0,2,34,35,38,39,40,41]),(1,[0,2,11,34,35,38,39,40,41]),(2,[2,3]),(3,[0,2,4,34,35,38,39,40,41]),(4,[0,2,4,5,34,35,38,39,40,41]),(5,[0,2,5,7,34,35,38,39,40,41]),(6,[0,2,5,7,8,34,35,38,39,40,41]),(7,[2,5,42]),(8,[2,3]),(9,[2,3])] }
noncomputable def Z1t (Q3f:Option ((Z18 × Bool × Unit) × Unit)→Option ((Z18 × Bool × Unit) × Unit)→Option ((Z18 × Bool × Unit) × Unit)) (b_0:List Int):Option ((Z18 × Bool × Unit) × Unit):=
 bif decide ((b_0.length:Int)<4) then
  some ((Zkx,false,()),())
 else
 bif decide (0≤IntKind.wrap .i64 ((b_0.length:Int) - 4))&&decide (IntKind.wrap .i64 ((b_0.length:Int) - 4)≤(b_0.length:Int)) then
  Option.bind (Z30 (List.drop 0 (List.take ((IntKind.wrap .i64 ((b_0.length:Int) - 4)).toNat) b_0),IV.nil)) fun (r1:(Z18 × Unit) × (Zkv × Unit))=>
  Option.bind (Zkz r1.1.1) fun (r2:((List Int) × Unit) × Unit)=>
  bif IV.is r1.2.1.2 134 then
   some ((Zkx,false,()),())
  else
  bif !(List.isEmpty r2.1.1) then
   Option.bind (Qtj r2.1.1 b_0) fun (r3:(Bool × Unit) × Unit)=>
   bif !r3.1.1 then
    some ((Zkx,false,()),())
   else
    some ((r1.1.1,true,()),())
  else
   Q3f (
    some ((Zkx,false,()),())) (
    Option.bind (Qtj r2.1.1 b_0) fun (r4:(Bool × Unit) × Unit)=>
    bif !r4.1.1 then
     some ((Zkx,false,()),())
    else
     some ((r1.1.1,true,()),()))
 else none
noncomputable def Zbh (b_0:List Int):Option ((Z18 × Bool × Unit) × Unit):=Z1t (@Qav _ (@instDecidableEqProd _ _ (@instDecidableEqProd _ _ (@instDecidableEqProd _ _ inferInstance (@instDecidableEqProd _ _ inferInstance (@instDecidableEqProd _ _ inferInstance (@instDecidableEqProd _ _ inferInstance (@instDecidableEqProd _ _ inferInstance (@instDecidableEqProd _ _ inferInstance (@instDecidableEqProd _ _ inferInstance (@instDecidableEqProd _ _ inferInstance (@instDecidableEqProd _ _ inferInstance inferInstance))))))))) (@instDecidableEqProd _ _ inferInstance inferInstance)) inferInstance)) b_0
theorem Ziv (b_0:List Int):Qde Zc8 tab Z9j 1 [.val t25] [⟨t45,[false,false,false,false,false,false,true,false,false,false],none⟩,⟨t4,[false],none⟩] Tryz.f45 (b_0,())=Z1t Q3f b_0:=by kernel_rfl
theorem Zkg (b_0:List Int):Qde Zc8 tab Z9j 1 [.val t25] [⟨t45,[false,false,false,false,false,false,true,false,false,false],none⟩,⟨t4,[false],none⟩] Tryz.f45 (b_0,())=Zbh b_0:=(Ziv b_0).trans (congrArg (fun b=>Z1t b b_0) (@Qiu _ (@instDecidableEqProd _ _ (@instDecidableEqProd _ _ (@instDecidableEqProd _ _ inferInstance (@instDecidableEqProd _ _ inferInstance (@instDecidableEqProd _ _ inferInstance (@instDecidableEqProd _ _ inferInstance (@instDecidableEqProd _ _ inferInstance (@instDecidableEqProd _ _ inferInstance (@instDecidableEqProd _ _ inferInstance (@instDecidableEqProd _ _ inferInstance (@instDecidableEqProd _ _ inferInstance inferInstance))))))))) (@instDecidableEqProd _ _ inferInstance inferInstance)) inferInstance)))
noncomputable def Zmq:Ent:=⟨[.val t25],[⟨t45,[false,false,false,false,false,false,true,false,false,false],none⟩,⟨t4,[false],none⟩],fun x=>Zbh x.1⟩
theorem Zi2:Q4u tab.ty Tryz.prog 45 Zmq:=by
  refine Qjk (Γ:=Zc8) (fi:=Z9j) (n:=1) follows (Qjy Z97 (Qjy Zju (Qjy Z5t Qk3))) Zfg Tryz.func45 (by kernel_rfl) (by kernel_rfl) (fun x r h=>?_)
  obtain ⟨b_0,_u⟩:=x
  exact (Zkg b_0).trans h
noncomputable def Zlp (t_0:Int × Int × Int × Int × Int × Int × (List Int) × Int × Int × Int × Int × Int × List Qlf):Option ((Z9m × Unit) × Unit):=
 Option.bind (Qn6 (g6 t_0)) fun r1=>
 Option.bind (Qn7 (h12 t_0)) fun r2=>
 some ((((e12 (u6 t_0 r1.1.1) r2.1.1),[]),()),())
noncomputable def Zp0:Ent:=⟨[.val t30],[⟨Zn7,(nF 13++[true]),some 141⟩],fun x=>Zlp x.1⟩
theorem Zk8:GD 89 Zp0:=fnk 1 (fo [[1],[1],[2]]) (Qjy Qqc (Qjy Qq1 Qk3)) Tryz.func89
abbrev Qkg:Type:=(Int × Bool × Unit) × Unit
noncomputable def Qu1:Ctx:=[]
def Qnw:Fi:=fo [[0,1,2,40,41,42,43,44,45,46,47],[0,1,2,8,40,41,42,43,44,45,46,47],[0,1,2,8,9,10,40,41,42,43,44,45,46,47],[0,1,2,8,9,10,17,40,41,42,43,44,45,46,47],[0,1,2,8,9,10,11,40,41,42,43,44,45,46,47],[0,1,2,8,9,10,11,31,40,41,42,43,44,45,46,47],[0,1,2,8,9,10,40,41,42,43,44,45,46,47],[0,1,2,8,9,10,40,41,42,43,44,45,46,47],[6,7]]
abbrev Qm2:Type:=Z63→Int→(Qlf × Int × Unit→Option (Int × Unit))→Int→Int→Int→Option Qkg
noncomputable def Qky (L1:Qm2) (v1:List Qlf) (v2:Int) (v3:(Qlf × Int × Unit→Option (Int × Unit))) (v4 v5 v6:Int):Option Qkg:=
 bif decide (v5<v6) then
  bif decide (0≤IntKind.wrap .i64 (Int.fdiv (IntKind.wrap .u64 (IntKind.wrap .i64 (v5+v6))) (2 ^ 1)))&&decide (IntKind.wrap .i64 (Int.fdiv (IntKind.wrap .u64 (IntKind.wrap .i64 (v5+v6))) (2 ^ 1))<(v1.length:Int)) then
   Option.bind (v3 ((List.getD v1 ((IntKind.wrap .i64 (Int.fdiv (IntKind.wrap .u64 (IntKind.wrap .i64 (v5+v6))) (2 ^ 1))).toNat) (0,0,0)),v2,())) fun r7=>
   bif decide (r7.1<0) then
    L1 v1 v2 v3 v4 (IntKind.wrap .i64 ((IntKind.wrap .i64 (Int.fdiv (IntKind.wrap .u64 (IntKind.wrap .i64 (v5+v6))) (2 ^ 1)))+1)) v6
   else
    L1 v1 v2 v3 v4 v5 (IntKind.wrap .i64 (Int.fdiv (IntKind.wrap .u64 (IntKind.wrap .i64 (v5+v6))) (2 ^ 1)))
  else none
 else
 bif decide (v5<v4) then
  bif decide (0≤v5)&&decide (v5<(v1.length:Int)) then
   Option.bind (v3 ((List.getD v1 v5.toNat (0,0,0)),v2,())) fun r8=>
   some ((v5,r8.1==0,()),())
  else none
 else
  some ((v5,false,()),())
noncomputable def Qom (L1:Qm2) (x_0:List Qlf) (target_1:Int) (cmp_2:(Qlf × Int × Unit→Option (Int × Unit))):Option Qkg:=
 L1 x_0 target_1 cmp_2 (x_0.length:Int) 0 (x_0.length:Int)
noncomputable def Qkx (n:Nat):Nat→Qm2:=iter (fun _ _ _ _ _ _=>none) fun L=>Qky L
noncomputable def Qkz (n m:Nat) (v1:List Qlf) (v2:Int) (v3:(Qlf × Int × Unit→Option (Int × Unit))) (v4 v5 v6:Int):Option Qkg:=
 Qjv Qu1 tab (fiB [.val t29,.val t2,.fn [t52,t2] [t2]] Qnw) n [.val t29,.val t2,.fn [t52,t2] [t2]] [⟨t2,[false],none⟩,⟨t4,[false],none⟩] Tryz.f186 [1,1,1,0,0] [] [0,1,2,8,9,10] m
 ⟨[(0,Vp t29 v1),(1,Vp t2 v2),(2,V1 (.clo [t52,t2] [t2] v3)),(8,Vp t2 v4),(9,Vp t2 v5),(10,Vp t2 v6)],[]⟩
theorem Qnr (n:Nat):∀ m,Qkz n m=Qkx n m
 | 0=>rfl
 | m+1=>by rw [show Qkz n (m+1)=Qky (Qkz n m) from by kernel_rfl,Qnr n m];rfl
noncomputable def Qok (n:Nat) (x_0:List Qlf) (target_1:Int) (cmp_2:(Qlf × Int × Unit→Option (Int × Unit))):Option Qkg:=Qom (Qkx n n) x_0 target_1 cmp_2
noncomputable def Qmg (x_0:List Qlf) (target_1:Int) (cmp_2:(Qlf × Int × Unit→Option (Int × Unit))):Option Qkg:=Qok 1099511627776 x_0 target_1 cmp_2
noncomputable def Qty:Ent:=⟨[.val t29,.val t2,.fn [t52,t2] [t2]],[⟨t2,[false],none⟩,⟨t4,[false],none⟩],fun x=>Qmg x.1 x.2.1 x.2.2.1⟩
theorem Qsp:GD 186 Qty:=fnl Qnw (fun n x=>Qok n x.1 x.2.1 x.2.2.1) Qk3 Tryz.func186 fun n x=>Eq.trans (b:=Qom (Qkz n n) x.1 x.2.1 x.2.2.1) (by kernel_rfl) (by rw [Qnr n n];rfl)
noncomputable def Qzl (x_0:Int):Option ((Bool × Unit) × Unit):=
 some ((x_0 != x_0,()),())
noncomputable def Zea:Ent:=⟨[.val t2],[⟨t4,[false],none⟩],fun x=>Qzl x.1⟩
theorem Zav:GD 205 Zea:=fnk 1 (fo [[0],[2]]) Qk3 Tryz.func205
noncomputable def Qr2 (x_0 y_1:Int):Option ((Int × Unit) × Unit):=
 Option.bind (Qzl x_0) fun r1=>
 Option.bind (Qzl y_1) fun r2=>
 bif r1.1.1 then
  bif r2.1.1 then
   some ((0,()),())
  else
   some (((-1),()),())
 else
 bif r2.1.1 then
  some ((1,()),())
 else
 bif decide (x_0<y_1) then
  some (((-1),()),())
 else
 bif decide (x_0>y_1) then
  some ((1,()),())
 else
  some ((0,()),())
noncomputable def Zcp:Ent:=⟨[.val t2,.val t2],[⟨t2,[false],none⟩],fun x=>Qr2 x.1 x.2.1⟩
theorem Qu3:GD 188 Zcp:=fnk 1 (fo [[0,1],[0,1,5],[0,1,5,6],[0,1,6,11],[12],[4],[4],[0,1,13],[4],[0,1,16],[4],[19],[4],[4]]) (Qjy Zav Qk3) Tryz.func188
noncomputable def Z2w (k_0:Int × Int × Int) (id_1:Int):Option ((Int × Unit) × Unit):=
 Option.bind (Qr2 k_0.1 id_1) fun r1=>
 some ((r1.1.1,()),())
noncomputable def Zdq:Ent:=⟨[.val t52,.val t2],[⟨t2,[false],none⟩],fun x=>Z2w x.1 x.2.1⟩
theorem Z99:GD 187 Zdq:=fnk 1 (fo [[1,2],[4]]) (Qjy Qu3 Qk3) Tryz.func187
noncomputable def Z3h (l_0:List Qlf) (id_1:Int):Option ((Int × Bool × Unit) × Unit):=
 Option.bind (Qmg l_0 id_1 (fun x=>(Z2w x.1 x.2.1).bind fun r=>some (r.1.1,()))) fun r1=>
 some ((r1.1.1,r1.1.2.1,()),())
noncomputable def Zij:Ent:=⟨[.val t29,.val t2],[⟨t2,[false],none⟩,⟨t4,[false],none⟩],fun x=>Z3h x.1 x.2.1⟩
theorem Z78:GD 158 Zij:=fnk 1 (fo [[0,1],[4,5]]) (Qjy Qsp (Qjy Z99 Qk3)) Tryz.func158
noncomputable def Qxr (l_0:List Qlf) (id_1:Int):Option ((Qlf × Bool × Unit) × Unit):=
 Option.bind (Z3h l_0 id_1) fun r1=>
 bif !r1.1.2.1 then
  some (((0,0,0),false,()),())
 else
 bif decide (0≤r1.1.1)&&decide (r1.1.1<(l_0.length:Int)) then
  some (((List.getD l_0 r1.1.1.toNat (0,0,0)),true,()),())
 else none
noncomputable def Zfn:Ent:=⟨[.val t29,.val t2],[⟨t52,[false,false,false],none⟩,⟨t4,[false],none⟩],fun x=>Qxr x.1 x.2.1⟩
theorem Qxf:GD 98 Zfn:=fnk 1 (fo [[0,1,4],[0,4,6,7],[0,4,6,15],[4,5],[4,5]]) (Qjy Z78 Qk3) Tryz.func98
noncomputable def Zb9 (l_0:List Qlf) (id_1 inc_2:Int):Option ((Bool × Unit) × Unit):=
 Option.bind (Qxr l_0 id_1) fun r1=>
 bif r1.1.2.1 then
  some ((decide (r1.1.1.2.1>inc_2),()),())
 else
  some ((false,()),())
noncomputable def Zms:Ent:=⟨[.val t29,.val t2,.val t2],[⟨t4,[false],none⟩],fun x=>Zb9 x.1 x.2.1 x.2.2.1⟩
theorem Za5:GD 90 Zms:=fnk 1 (fo [[0,1,2,17,18,19,20],[2,7,8,17,18,19,20],[6]]) (Qjy Qxf Qk3) Tryz.func90
noncomputable def Qvx (n_0:Qwg × List Z18) (step_1:Int):Option (Unit × (Z9m × Unit)):=
 some ((),(((u11 (u9 (u6 (u4 (u3 n_0.1 0) 0) []) 0) step_1),n_0.2),()))
noncomputable def Zf8:Ent:=⟨[.box 141 Zn7 (nF 13++[true]),.val t2],[],fun x=>Qvx x.1 x.2.1⟩
theorem Qwb:GD 91 Zf8:=fnk 1 (fo [[0]]) Qk3 Tryz.func91
noncomputable def Zat (t_0:Int × Int × Int × Int × Int × Int × (List Int) × Int × Int × Int × Int × Int × List Qlf):Option ((Bool × Unit) × Unit):=
 bif t_0.1==1 then
  some ((true,()),())
 else
 bif (g3 t_0) != 0 then
  some ((decide (IntKind.wrap .i64 (t_0.2.2.1 - (g8 t_0))≤20),()),())
 else
  some ((false,()),())
noncomputable def Zl4:Ent:=⟨[.val t30],[⟨t4,[false],none⟩],fun x=>Zat x.1⟩
theorem Zge:GD 111 Zl4:=fnk 1 (fo [[1,7,8,9,10,11,12,13,14,15,16,17],[2]]) Qk3 Tryz.func111
noncomputable def Zbg (p_0:List Int) (id_1:Int):Option ((Bool × Unit) × Unit):=
 Option.bind (Qpm p_0 id_1) fun r1=>
 some ((r1.1.1,()),())
noncomputable def Zmd:Ent:=⟨[.val t28,.val t2],[⟨t4,[false],none⟩],fun x=>Zbg x.1 x.2.1⟩
theorem Zic:GD 181 Zmd:=fnk 1 (fo [[0,1],[4]]) (Qjy Qv3 Qk3) Tryz.func181
noncomputable def Qzh (n_0:Qwg × List Z18) (id_1:Int):Option ((Bool × Unit) × (Z9m × Unit)):=
 bif n_0.1.1==1 then
  Option.bind (Qxr (h12 n_0.1) id_1) fun r1=>
  Option.bind (Zat n_0.1) fun r2=>
  bif r2.1.1 then
   Option.bind (Zbg (g6 n_0.1) id_1) fun r3=>
   bif !r3.1.1 then
    bif r1.1.2.1 then
     some ((true,()),(n_0,()))
    else
     some ((decide (((h12 n_0.1).length:Int)<8),()),(n_0,()))
   else
    some ((false,()),(n_0,()))
  else
   some ((false,()),(n_0,()))
 else
  Option.bind (Qxr (h12 n_0.1) id_1) fun r4=>
  Option.bind (Zat n_0.1) fun r5=>
  bif r5.1.1 then
   Option.bind (Zbg (g6 n_0.1) id_1) fun r6=>
   bif !r6.1.1 then
    bif r4.1.2.1 then
     some ((true,()),(n_0,()))
    else
     some ((decide (((h12 n_0.1).length:Int)<3),()),(n_0,()))
   else
    some ((false,()),(n_0,()))
  else
   some ((false,()),(n_0,()))
noncomputable def Zee:Ent:=⟨[.box 141 Zn7 (nF 13++[true]),.val t2],[⟨t4,[false],none⟩],fun x=>Qzh x.1 x.2.1⟩
theorem Zbf:GD 152 Zee:=fnk 1 (fo [[0,1,30,31,32,33,34,35,36,37,40,41,42,43,44,45,46,47,48,49,50],[0,1,5,30,31,32,33,34,35,36,37,40,41,42,43,44,45,46,47,48,49,50],[0,1,5,13,30,31,32,33,34,35,36,37,40,41,42,43,44,45,46,47,48,49,50],[0,1,5,30,31,32,33,34,35,36,37,40,41,42,43,44,45,46,47,48,49,50],[0,1,5,7,30,31,32,33,34,35,36,37,40,41,42,43,44,45,46,47,48,49,50],[0,4]]) (Qjy Qxf (Qjy Zge (Qjy Zic Qk3))) Tryz.func152
noncomputable def Qtc (n_0:Qwg × List Z18) (kind_1 to_2 lo_3:Int):Option (Unit × (Z9m × Unit)):=
 Option.bind (Qn6 (g6 n_0.1)) fun r1=>
 bif Nat.ble (n_0.2.length+1) 1073741824 then
  some ((),((n_0.1,n_0.2++[(kind_1,n_0.1.1,to_2,n_0.1.2.1,(g7 n_0.1),IntKind.wrap .i64 (n_0.1.2.2.1 - (g8 n_0.1)),r1.1.1,lo_3,0,(⟨#[]⟩:ByteArray))]),()))
 else none
noncomputable def Qkw (n_0:Qwg × List Z18) (kind_1 to_2 lo_3:Int):Option (Unit × (Z9m × Unit)):=
 bif kind_1==2 then
  Qtc n_0 kind_1 to_2 lo_3
 else
 bif kind_1==5 then
  Qtc n_0 kind_1 to_2 lo_3
 else
 bif Nat.ble (n_0.2.length+1) 1073741824 then
  some ((),((n_0.1,n_0.2++[(kind_1,n_0.1.1,to_2,n_0.1.2.1,0,0,[],lo_3,0,(⟨#[]⟩:ByteArray))]),()))
 else none
noncomputable def Ze0:Ent:=⟨[.box 141 Zn7 (nF 13++[true]),.val t2,.val t2,.val t2],[],fun x=>Qkw x.1 x.2.1 x.2.2.1 x.2.2.2.1⟩
theorem Qrv:GD 142 Ze0:=fnk 1 (fo [[0,1,8,26,27],[0,8,28],[0,8],[0]]) (Qjy Qqc Qk3) Tryz.func142
noncomputable def Z0v:Ctx:=[(203,Qjh)]
def Qyx:Fi:={ keep:=[],vty:=[],vals:=[],live:=[(0,[0,1,2]),(1,[0,1,2]),(2,[0,1,2,7]),(3,[0,1,2,7,16]),(4,[6]),(5,[0,1,2,7,8]),(6,[0,1,2,7,8,22]),(7,[6]),(8,[0,1,2,7,8,31]),(9,[0,1,2,7,9]),(10,[0,1,7,9]),(11,[9]),(12,[6]),(13,[0,1,2,7,8]),(14,[0,1,2,7,8,68]),(15,[0,1,2]),(16,[0]),(17,[6]),(18,[0,1,7]),(19,[0]),(20,[6])] }
noncomputable def Z0w (c:Nat) (s_0:List Qlf) (i_1:Int) (v_2:List Qlf):Option ((Z63 × Unit) × Unit):=
 bif (decide (0≤i_1)&&decide (i_1≤((s_0.length:Nat):Int)))&&decide (((s_0.length:Nat):Int)≤((((List.map some s_0++List.replicate c none).length) - 0:Nat):Int)) then
  bif (v_2.length:Int)==0 then
   bif Nat.ble s_0.length ((List.map some s_0++List.replicate c none).length) then
    Option.bind (Qd (List.take s_0.length (List.map some s_0++List.replicate c none))) fun (z1:List Qlf)=>
    some ((z1,()),())
   else none
  else
  bif i_1==((s_0.length:Nat):Int) then
   bif Nat.ble (0+s_0.length) ((List.map some s_0++List.replicate c none).length) then
    bif Nat.ble (s_0.length+v_2.length) ((List.map some s_0++List.replicate c none).length) then
     bif Nat.ble (s_0.length+v_2.length) ((Q6 (List.map some s_0++List.replicate c none) s_0.length v_2).length) then
      Option.bind (Qd (List.take (s_0.length+v_2.length) (Q6 (List.map some s_0++List.replicate c none) s_0.length v_2))) fun (z2:List Qlf)=>
      some ((z2,()),())
     else none
    else
    bif Nat.ble (s_0.length+v_2.length) 1073741824 then
     Option.bind (Qd (List.take s_0.length (List.map some s_0++List.replicate c none))) fun (z3:List Qlf)=>
     some ((z3++v_2,()),())
    else none
   else none
  else
  bif Nat.ble (0+s_0.length) ((List.map some s_0++List.replicate c none).length) then
   bif decide (IntKind.wrap .i64 (((s_0.length:Nat):Int)+(v_2.length:Int))>((((List.map some s_0++List.replicate c none).length) - 0:Nat):Int)) then
    bif decide (0≤i_1)&&decide (i_1≤((((List.map some s_0++List.replicate c none).length) - 0:Nat):Int)) then
     bif Nat.ble (0+((i_1 - 0).toNat)) ((List.map some s_0++List.replicate c none).length) then
      bif decide (0<IntKind.wrap .i64 ((IntKind.wrap .i64 (((s_0.length:Nat):Int)+(v_2.length:Int))) - i_1))&&true&&Nat.blt ((List.map some s_0++List.replicate c none).length) (((i_1 - 0).toNat)+((List.replicate ((IntKind.wrap .i64 ((IntKind.wrap .i64 (((s_0.length:Nat):Int)+(v_2.length:Int))) - i_1)).toNat) ((0,0,0):Int × Int × Int)).length))&&Nat.ble (((List.map some s_0++List.replicate c none).length)+((List.replicate ((IntKind.wrap .i64 ((IntKind.wrap .i64 (((s_0.length:Nat):Int)+(v_2.length:Int))) - i_1)).toNat) ((0,0,0):Int × Int × Int)).length)) 536870912 then
       bif (decide (0≤i_1)&&decide (i_1≤((((i_1 - 0).toNat)+((List.replicate ((IntKind.wrap .i64 ((IntKind.wrap .i64 (((s_0.length:Nat):Int)+(v_2.length:Int))) - i_1)).toNat) ((0,0,0):Int × Int × Int)).length):Nat):Int)))&&decide (((((i_1 - 0).toNat)+((List.replicate ((IntKind.wrap .i64 ((IntKind.wrap .i64 (((s_0.length:Nat):Int)+(v_2.length:Int))) - i_1)).toNat) ((0,0,0):Int × Int × Int)).length):Nat):Int)≤((((List.take ((i_1 - 0).toNat) (List.map some s_0++List.replicate c none)++List.map some (List.replicate ((IntKind.wrap .i64 ((IntKind.wrap .i64 (((s_0.length:Nat):Int)+(v_2.length:Int))) - i_1)).toNat) ((0,0,0):Int × Int × Int))).length) - 0:Nat):Int)) then
        bif Nat.ble ((0+i_1.toNat)+((((((i_1 - 0).toNat)+((List.replicate ((IntKind.wrap .i64 ((IntKind.wrap .i64 (((s_0.length:Nat):Int)+(v_2.length:Int))) - i_1)).toNat) ((0,0,0):Int × Int × Int)).length):Nat):Int) - i_1).toNat)) ((List.take ((i_1 - 0).toNat) (List.map some s_0++List.replicate c none)++List.map some (List.replicate ((IntKind.wrap .i64 ((IntKind.wrap .i64 (((s_0.length:Nat):Int)+(v_2.length:Int))) - i_1)).toNat) ((0,0,0):Int × Int × Int))).length) then
         bif (decide (0≤IntKind.wrap .i64 (i_1+(v_2.length:Int)))&&decide (IntKind.wrap .i64 (i_1+(v_2.length:Int))≤((((i_1 - 0).toNat)+((List.replicate ((IntKind.wrap .i64 ((IntKind.wrap .i64 (((s_0.length:Nat):Int)+(v_2.length:Int))) - i_1)).toNat) ((0,0,0):Int × Int × Int)).length):Nat):Int)))&&decide (((((i_1 - 0).toNat)+((List.replicate ((IntKind.wrap .i64 ((IntKind.wrap .i64 (((s_0.length:Nat):Int)+(v_2.length:Int))) - i_1)).toNat) ((0,0,0):Int × Int × Int)).length):Nat):Int)≤((((Q6 (List.take ((i_1 - 0).toNat) (List.map some s_0++List.replicate c none)++List.map some (List.replicate ((IntKind.wrap .i64 ((IntKind.wrap .i64 (((s_0.length:Nat):Int)+(v_2.length:Int))) - i_1)).toNat) ((0,0,0):Int × Int × Int))) (0+i_1.toNat) (List.take ((((((i_1 - 0).toNat)+((List.replicate ((IntKind.wrap .i64 ((IntKind.wrap .i64 (((s_0.length:Nat):Int)+(v_2.length:Int))) - i_1)).toNat) ((0,0,0):Int × Int × Int)).length):Nat):Int) - i_1).toNat) v_2)).length) - 0:Nat):Int)) then
          bif (decide (0≤i_1)&&decide (i_1≤((s_0.length:Nat):Int)))&&decide (((s_0.length:Nat):Int)≤((((List.map some s_0++List.replicate c none).length) - 0:Nat):Int)) then
           bif Nat.ble ((0+((IntKind.wrap .i64 (i_1+(v_2.length:Int))).toNat))+((((((i_1 - 0).toNat)+((List.replicate ((IntKind.wrap .i64 ((IntKind.wrap .i64 (((s_0.length:Nat):Int)+(v_2.length:Int))) - i_1)).toNat) ((0,0,0):Int × Int × Int)).length):Nat):Int) - (IntKind.wrap .i64 (i_1+(v_2.length:Int)))).toNat)) ((Q6 (List.take ((i_1 - 0).toNat) (List.map some s_0++List.replicate c none)++List.map some (List.replicate ((IntKind.wrap .i64 ((IntKind.wrap .i64 (((s_0.length:Nat):Int)+(v_2.length:Int))) - i_1)).toNat) ((0,0,0):Int × Int × Int))) (0+i_1.toNat) (List.take ((((((i_1 - 0).toNat)+((List.replicate ((IntKind.wrap .i64 ((IntKind.wrap .i64 (((s_0.length:Nat):Int)+(v_2.length:Int))) - i_1)).toNat) ((0,0,0):Int × Int × Int)).length):Nat):Int) - i_1).toNat) v_2)).length) then
            bif Nat.ble ((0+i_1.toNat)+((((s_0.length:Nat):Int) - i_1).toNat)) ((List.map some s_0++List.replicate c none).length) then
            Option.bind (Qd (List.take (min ((((((i_1 - 0).toNat)+((List.replicate ((IntKind.wrap .i64 ((IntKind.wrap .i64 (((s_0.length:Nat):Int)+(v_2.length:Int))) - i_1)).toNat) ((0,0,0):Int × Int × Int)).length):Nat):Int) - (IntKind.wrap .i64 (i_1+(v_2.length:Int)))).toNat) ((((s_0.length:Nat):Int) - i_1).toNat)) (List.drop (0+i_1.toNat) (List.map some s_0++List.replicate c none)))) fun (z4:List Qlf)=>
            bif Nat.ble (((i_1 - 0).toNat)+((List.replicate ((IntKind.wrap .i64 ((IntKind.wrap .i64 (((s_0.length:Nat):Int)+(v_2.length:Int))) - i_1)).toNat) ((0,0,0):Int × Int × Int)).length)) ((Q6 (Q6 (List.take ((i_1 - 0).toNat) (List.map some s_0++List.replicate c none)++List.map some (List.replicate ((IntKind.wrap .i64 ((IntKind.wrap .i64 (((s_0.length:Nat):Int)+(v_2.length:Int))) - i_1)).toNat) ((0,0,0):Int × Int × Int))) (0+i_1.toNat) (List.take ((((((i_1 - 0).toNat)+((List.replicate ((IntKind.wrap .i64 ((IntKind.wrap .i64 (((s_0.length:Nat):Int)+(v_2.length:Int))) - i_1)).toNat) ((0,0,0):Int × Int × Int)).length):Nat):Int) - i_1).toNat) v_2)) (0+((IntKind.wrap .i64 (i_1+(v_2.length:Int))).toNat)) z4).length) then
            Option.bind (Qd (List.take (((i_1 - 0).toNat)+((List.replicate ((IntKind.wrap .i64 ((IntKind.wrap .i64 (((s_0.length:Nat):Int)+(v_2.length:Int))) - i_1)).toNat) ((0,0,0):Int × Int × Int)).length)) (Q6 (Q6 (List.take ((i_1 - 0).toNat) (List.map some s_0++List.replicate c none)++List.map some (List.replicate ((IntKind.wrap .i64 ((IntKind.wrap .i64 (((s_0.length:Nat):Int)+(v_2.length:Int))) - i_1)).toNat) ((0,0,0):Int × Int × Int))) (0+i_1.toNat) (List.take ((((((i_1 - 0).toNat)+((List.replicate ((IntKind.wrap .i64 ((IntKind.wrap .i64 (((s_0.length:Nat):Int)+(v_2.length:Int))) - i_1)).toNat) ((0,0,0):Int × Int × Int)).length):Nat):Int) - i_1).toNat) v_2)) (0+((IntKind.wrap .i64 (i_1+(v_2.length:Int))).toNat)) z4))) fun (z5:List Qlf)=>
            some ((z5,()),())
            else none
            else none
           else none
          else none
         else none
        else none
       else none
      else none
     else none
    else none
   else
   bif decide (0≤IntKind.wrap .i64 (((s_0.length:Nat):Int)+(v_2.length:Int)))&&decide (IntKind.wrap .i64 (((s_0.length:Nat):Int)+(v_2.length:Int))≤((((List.map some s_0++List.replicate c none).length) - 0:Nat):Int)) then
    bif (decide (0≤IntKind.wrap .i64 (i_1+(v_2.length:Int)))&&decide (IntKind.wrap .i64 (i_1+(v_2.length:Int))≤((((IntKind.wrap .i64 (((s_0.length:Nat):Int)+(v_2.length:Int))) - 0).toNat:Nat):Int)))&&decide (((((IntKind.wrap .i64 (((s_0.length:Nat):Int)+(v_2.length:Int))) - 0).toNat:Nat):Int)≤((((List.map some s_0++List.replicate c none).length) - 0:Nat):Int)) then
     bif (decide (0≤IntKind.wrap .i64 (i_1+(v_2.length:Int)))&&decide (IntKind.wrap .i64 (i_1+(v_2.length:Int))≤((((IntKind.wrap .i64 (((s_0.length:Nat):Int)+(v_2.length:Int))) - 0).toNat:Nat):Int)))&&decide (((((IntKind.wrap .i64 (((s_0.length:Nat):Int)+(v_2.length:Int))) - 0).toNat:Nat):Int)≤((((List.map some s_0++List.replicate c none).length) - 0:Nat):Int)) then
      bif (decide (0≤i_1)&&decide (i_1≤((((IntKind.wrap .i64 (((s_0.length:Nat):Int)+(v_2.length:Int))) - 0).toNat:Nat):Int)))&&decide (((((IntKind.wrap .i64 (((s_0.length:Nat):Int)+(v_2.length:Int))) - 0).toNat:Nat):Int)≤((((List.map some s_0++List.replicate c none).length) - 0:Nat):Int)) then
       bif Nat.ble ((0+((IntKind.wrap .i64 (i_1+(v_2.length:Int))).toNat))+((((((IntKind.wrap .i64 (((s_0.length:Nat):Int)+(v_2.length:Int))) - 0).toNat:Nat):Int) - (IntKind.wrap .i64 (i_1+(v_2.length:Int)))).toNat)) ((List.map some s_0++List.replicate c none).length) then
        bif Nat.ble ((0+i_1.toNat)+((((((IntKind.wrap .i64 (((s_0.length:Nat):Int)+(v_2.length:Int))) - 0).toNat:Nat):Int) - i_1).toNat)) ((List.map some s_0++List.replicate c none).length) then
         Option.bind (Qd (List.take (min ((((((IntKind.wrap .i64 (((s_0.length:Nat):Int)+(v_2.length:Int))) - 0).toNat:Nat):Int) - (IntKind.wrap .i64 (i_1+(v_2.length:Int)))).toNat) ((((((IntKind.wrap .i64 (((s_0.length:Nat):Int)+(v_2.length:Int))) - 0).toNat:Nat):Int) - i_1).toNat)) (List.drop (0+i_1.toNat) (List.map some s_0++List.replicate c none)))) fun (z6:List Qlf)=>
         bif (decide (0≤i_1)&&decide (i_1≤((((IntKind.wrap .i64 (((s_0.length:Nat):Int)+(v_2.length:Int))) - 0).toNat:Nat):Int)))&&decide (((((IntKind.wrap .i64 (((s_0.length:Nat):Int)+(v_2.length:Int))) - 0).toNat:Nat):Int)≤((((Q6 (List.map some s_0++List.replicate c none) (0+((IntKind.wrap .i64 (i_1+(v_2.length:Int))).toNat)) z6).length) - 0:Nat):Int)) then
          bif Nat.ble ((0+i_1.toNat)+((((((IntKind.wrap .i64 (((s_0.length:Nat):Int)+(v_2.length:Int))) - 0).toNat:Nat):Int) - i_1).toNat)) ((Q6 (List.map some s_0++List.replicate c none) (0+((IntKind.wrap .i64 (i_1+(v_2.length:Int))).toNat)) z6).length) then
           bif Nat.ble (((IntKind.wrap .i64 (((s_0.length:Nat):Int)+(v_2.length:Int))) - 0).toNat) ((Q6 (Q6 (List.map some s_0++List.replicate c none) (0+((IntKind.wrap .i64 (i_1+(v_2.length:Int))).toNat)) z6) (0+i_1.toNat) (List.take ((((((IntKind.wrap .i64 (((s_0.length:Nat):Int)+(v_2.length:Int))) - 0).toNat:Nat):Int) - i_1).toNat) v_2)).length) then
            Option.bind (Qd (List.take (((IntKind.wrap .i64 (((s_0.length:Nat):Int)+(v_2.length:Int))) - 0).toNat) (Q6 (Q6 (List.map some s_0++List.replicate c none) (0+((IntKind.wrap .i64 (i_1+(v_2.length:Int))).toNat)) z6) (0+i_1.toNat) (List.take ((((((IntKind.wrap .i64 (((s_0.length:Nat):Int)+(v_2.length:Int))) - 0).toNat:Nat):Int) - i_1).toNat) v_2)))) fun (z7:List Qlf)=>
            some ((z7,()),())
           else none
          else none
         else none
        else none
       else none
      else none
     else none
    else none
   else none
  else none
 else none
theorem Z5u (c:Nat) (s_0:List Qlf) (i_1:Int) (v_2:List Qlf):Qde Z0v tab { Qyx with cap:=c } 1 [.ownc 53 t52,.val t2,.own 53 t52] [⟨t29,[true],none⟩] Tryz.f203 (s_0,i_1,v_2,())=Z0w c s_0 i_1 v_2:=by kernel_rfl
theorem Z5y (c:Nat) (s_0:List Qlf) (i_1:Int) (v_2:List Qlf):Z0w c s_0 i_1 v_2=Qei ((0,0,0):Int × Int × Int) c s_0 i_1 v_2:=by kernel_rfl
noncomputable def Qx3 (s_0:List Qlf) (i_1:Int) (v_2:List Qlf):Option ((Z63 × Unit) × Unit):=Qeg s_0 i_1 v_2
noncomputable def Z9k:Ent:=⟨[.ownc 53 t52,.val t2,.own 53 t52],[⟨t29,[true],none⟩],fun x=>Qx3 x.1 x.2.1 x.2.2.1⟩
theorem Z60:Q4u tab.ty Tryz.prog 203 Z9k:=by
  refine Qgs (Γ:=Z0v) (fi:=Qyx) (n:=1) follows (Qjy (Qjx Tryz.func203 (by kernel_rfl) (by kernel_rfl)) Qk3) Zfg Tryz.func203 (by kernel_rfl) (by kernel_rfl) (fun c x r hc h=>?_)
  obtain ⟨s_0,i_1,v_2,_u⟩:=x
  exact (Z5u c s_0 i_1 v_2).trans ((Z5y c s_0 i_1 v_2).trans (Qin ((0,0,0):Int × Int × Int) c s_0 i_1 v_2 r hc h))
noncomputable def Z6e (l_0:List Qlf) (k_1:Int × Int × Int):Option ((Z63 × Bool × Unit) × Unit):=
 Option.bind (Qn7 l_0) fun r1=>
 Option.bind (Zb9 l_0 k_1.1 k_1.2.1) fun r2=>
 bif r2.1.1 then
  some ((r1.1.1,false,()),())
 else
  Option.bind (Z3h l_0 k_1.1) fun r3=>
  bif r3.1.2.1 then
   bif decide (0≤r3.1.1)&&decide (r3.1.1<(r1.1.1.length:Int)) then
    bif decide (0≤r3.1.1)&&decide (r3.1.1<(r1.1.1.length:Int)) then
     some ((List.set r1.1.1 r3.1.1.toNat k_1,true,()),())
    else none
   else none
  else
   Option.bind (Qx3 r1.1.1 r3.1.1 [k_1]) fun r4=>
   some ((r4.1.1,true,()),())
noncomputable def Zkf:Ent:=⟨[.val t29,.val t52],[⟨t29,[true],none⟩,⟨t4,[false],none⟩],fun x=>Z6e x.1 x.2.1⟩
theorem Zg6:GD 182 Zkf:=fnk 1 (fo [[0,3],[0,3,6],[0,3,6,16],[4,5],[3,6,7,8],[3,6,7,25],[6],[4,5],[4,5]]) (Qjy Qq1 (Qjy Za5 (Qjy Z78 (Qjy Z60 Qk3)))) Tryz.func182
noncomputable def Qu8 (n_0:Qwg × List Z18) (m_1:Int × Int × Int × Int × Int × Int × (List Int) × Int × Int × ByteArray):Option (Unit × (Z9m × Unit)):=
 Option.bind (Z6e (h12 n_0.1) (m_1.2.1,(g3 m_1),n_0.1.2.2.1)) fun r1=>
 some ((),(((e12 n_0.1 r1.1.1),n_0.2),()))
noncomputable def Zds:Ent:=⟨[.box 141 Zn7 (nF 13++[true]),.val t45],[],fun x=>Qu8 x.1 x.2.1⟩
theorem Z0k:GD 153 Zds:=fnk 1 (fo [[0,3],[0]]) (Qjy Zg6 Qk3) Tryz.func153
noncomputable def Qta (n_0:Qwg × List Z18) (m_1:Int × Int × Int × Int × Int × Int × (List Int) × Int × Int × ByteArray) (lo_2:Int):Option (Unit × (Z9m × Unit)):=
 Option.bind (Qzh n_0 m_1.2.1) fun r1=>
 bif !r1.1.1 then
  Option.bind (Qkw r1.2.1 3 m_1.2.1 0) fun r2=>
  some ((),(r2.2.1,()))
 else
  Option.bind (Qu8 r1.2.1 m_1) fun r3=>
  Option.bind (Qkw r3.2.1 2 m_1.2.1 lo_2) fun r4=>
  some ((),(r4.2.1,()))
noncomputable def Zcc:Ent:=⟨[.box 141 Zn7 (nF 13++[true]),.val t45,.val t2],[],fun x=>Qta x.1 x.2.1 x.2.2.1⟩
theorem Z8b:GD 92 Zcc:=fnk 1 (fo [[0,2,4],[0,2,4,10],[0],[0,2,4],[0]]) (Qjy Qrv (Qjy Zbf (Qjy Z0k Qk3))) Tryz.func92
noncomputable def Zbq (p_0:List Int) (id_1:Int):Option (((List Int) × Bool × Unit) × Unit):=
 Option.bind (Qn6 p_0) fun r1=>
 bif Nat.ble (r1.1.1.length+1) 1073741824 then
  Option.bind (Qzi (r1.1.1++[id_1])) fun r2=>
  bif !r2.1.1 then
   some (([],false,()),())
  else
   some ((r1.1.1++[id_1],true,()),())
 else none
noncomputable def Zmw:Ent:=⟨[.val t28,.val t2],[⟨t28,[true],none⟩,⟨t4,[false],none⟩],fun x=>Zbq x.1 x.2.1⟩
theorem Zab:GD 154 Zmw:=fnk 1 (fo [[0,1],[6],[6,14],[4,5],[4,5]]) (Qjy Qqc (Qjy Zb5 Qk3)) Tryz.func154
noncomputable def Z3m (p_0:List Int):Option ((Int × Unit) × Unit):=
 bif decide ((p_0.length:Int)<2) then
  some ((0,()),())
 else
 bif decide (0≤IntKind.wrap .i64 ((p_0.length:Int) - 2))&&decide (IntKind.wrap .i64 ((p_0.length:Int) - 2)<(p_0.length:Int)) then
  some ((List.getD p_0 ((IntKind.wrap .i64 ((p_0.length:Int) - 2)).toNat) 0,()),())
 else none
noncomputable def Zj1:Ent:=⟨[.val t28],[⟨t2,[false],none⟩],fun x=>Z3m x.1⟩
theorem Zed:GD 184 Zj1:=fnk 1 (fo [[0],[0,5],[2],[2]]) Qk3 Tryz.func184
noncomputable def Qxy (n_0:Qwg × List Z18) (m_1:Int × Int × Int × Int × Int × Int × (List Int) × Int × Int × ByteArray) (p_2:List Int):Option (Unit × (Z9m × Unit)):=
 Option.bind (Z3m (g6 m_1)) fun r1=>
 bif r1.1.1==0 then
  some ((),(((u6 (u5 n_0.1 1) p_2),n_0.2),()))
 else
  some ((),(((u6 (u5 n_0.1 r1.1.1) p_2),n_0.2),()))
noncomputable def Zgg:Ent:=⟨[.box 141 Zn7 (nF 13++[true]),.val t45,.val t28],[],fun x=>Qxy x.1 x.2.1 x.2.2.1⟩
theorem Z36:GD 155 Zgg:=fnk 1 (fo [[0,2,4],[0],[0,23],[0]]) (Qjy Zed Qk3) Tryz.func155
noncomputable def Qsl (n_0:Qwg × List Z18) (m_1:Int × Int × Int × Int × Int × Int × (List Int) × Int × Int × ByteArray):Option (Unit × (Z9m × Unit)):=
 Option.bind (Qkw ((u9 n_0.1 0),n_0.2) 6 m_1.2.1 0) fun r4=>
 some ((),(((u11 r4.2.1.1 (IntKind.wrap .i64 ((g11 r4.2.1.1)+1))),r4.2.1.2),()))
noncomputable def Qt3 (n_0:Qwg × List Z18) (m_1:Int × Int × Int × Int × Int × Int × (List Int) × Int × Int × ByteArray):Option (Unit × (Z9m × Unit)):=
 bif (g9 n_0.1) != m_1.2.1 then
  bif (g3 n_0.1) != m_1.2.1 then
   Option.bind (Qkw n_0 6 m_1.2.1 0) fun r1=>
   some ((),(r1.2.1,()))
  else
   some ((),(n_0,()))
 else
 bif (g3 n_0.1) != 0 then
  bif (g3 n_0.1) != m_1.2.1 then
   Option.bind (Qkw n_0 6 m_1.2.1 0) fun r2=>
   some ((),(r2.2.1,()))
  else
   some ((),(n_0,()))
 else
  Option.bind (Zbq (g6 m_1) n_0.1.1) fun r3=>
  bif !r3.1.2.1 then
   Qsl n_0 m_1
  else
  bif decide ((g5 m_1)>20) then
   Qsl n_0 m_1
  else
   Option.bind (Qxy ((u9 n_0.1 0),n_0.2) m_1 r3.1.1) fun r6=>
   some ((),(((u11 (u8 (u7 (u4 (u3 r6.2.1.1 m_1.2.1) (g3 m_1)) (g4 m_1)) (IntKind.wrap .i64 (r6.2.1.1.2.2.1 - (g5 m_1)))) 0),r6.2.1.2),()))
noncomputable def Zby:Ent:=⟨[.box 141 Zn7 (nF 13++[true]),.val t45],[],fun x=>Qt3 x.1 x.2.1⟩
theorem Z87:GD 93 Zby:=fnk 1 (fo [[0,3,15,16,17,18,19,20,52,53,54],[0,3,21,52,53,54],[0,3,29],[0],[0,3,52,53,54],[0,3,4,5,52,53,54],[0,3,4,55],[0],[0],[0,3],[0]]) (Qjy Qrv (Qjy Zab (Qjy Z36 Qk3))) Tryz.func93
noncomputable def Qwa (n_0:Qwg × List Z18) (m_1:Int × Int × Int × Int × Int × Int × (List Int) × Int × Int × ByteArray):Option (Unit × (Z9m × Unit)):=
 bif m_1.2.1==(g9 n_0.1) then
  some ((),(((u11 (u9 n_0.1 0) (IntKind.wrap .i64 ((g11 n_0.1)+1))),n_0.2),()))
 else
 bif m_1.2.1==(g3 n_0.1) then
  Option.bind (Qvx n_0 0) fun r1=>
  some ((),(r1.2.1,()))
 else
  some ((),(n_0,()))
noncomputable def Zbz:Ent:=⟨[.box 141 Zn7 (nF 13++[true]),.val t45],[],fun x=>Qwa x.1 x.2.1⟩
theorem Z8o:GD 94 Zbz:=fnk 1 (fo [[0,3],[0,5],[0,5,6],[0],[0],[0,26],[0]]) (Qjy Qwb Qk3) Tryz.func94
noncomputable def Qst (n_0:Qwg × List Z18) (m_1:Int × Int × Int × Int × Int × Int × (List Int) × Int × Int × ByteArray):Option (Unit × (Z9m × Unit)):=
 Option.bind (Qxr (h12 n_0.1) m_1.2.1) fun r1=>
 bif r1.1.2.1 then
  Option.bind (Qu8 n_0 m_1) fun r2=>
  some ((),(r2.2.1,()))
 else
  Option.bind (Qkw n_0 3 m_1.2.1 0) fun r3=>
  some ((),(r3.2.1,()))
noncomputable def Zce:Ent:=⟨[.box 141 Zn7 (nF 13++[true]),.val t45],[],fun x=>Qst x.1 x.2.1⟩
theorem Z8a:GD 95 Zce:=fnk 1 (fo [[0,3],[0,3,5],[0,3,17],[0],[0]]) (Qjy Qxf (Qjy Qrv (Qjy Z0k Qk3))) Tryz.func95
noncomputable def Qw7 (n_0:Qwg × List Z18) (m_1:Int × Int × Int × Int × Int × Int × (List Int) × Int × Int × ByteArray):Option (Unit × (Z9m × Unit)):=
 bif m_1.2.1 != (g3 n_0.1) then
  Option.bind (Qkw n_0 6 m_1.2.1 0) fun r1=>
  some ((),(r1.2.1,()))
 else
  Option.bind (Zbq (g6 m_1) n_0.1.1) fun r2=>
  bif !r2.1.2.1 then
   Option.bind (Qkw n_0 6 m_1.2.1 0) fun r3=>
   Option.bind (Qvx r3.2.1 1) fun r4=>
   some ((),(r4.2.1,()))
  else
   Option.bind (Qxy n_0 m_1 r2.1.1) fun r5=>
   bif decide (IntKind.wrap .i64 (r5.2.1.1.2.2.1 - (g5 m_1))>(g8 r5.2.1.1)) then
    some ((),(((u8 (u7 r5.2.1.1 (g4 m_1)) (IntKind.wrap .i64 (r5.2.1.1.2.2.1 - (g5 m_1)))),r5.2.1.2),()))
   else
    some ((),(r5.2.1,()))
noncomputable def Zch:Ent:=⟨[.box 141 Zn7 (nF 13++[true]),.val t45],[],fun x=>Qw7 x.1 x.2.1⟩
theorem Z8n:GD 96 Zch:=fnk 1 (fo [[0,3],[0,3,13],[0],[0,3,4,5],[0,3,4,30],[0],[0],[0,3],[0,3,54],[0]]) (Qjy Qwb (Qjy Qrv (Qjy Zab (Qjy Z36 Qk3)))) Tryz.func96
abbrev Qmb:Type:=(Int × Unit) × Unit
noncomputable def Z5s:Ctx:=[]
def Qvl:Fi:=fo [[0,1],[0,1,7,8],[0,1,7,8,9],[0,1,5,7,8],[0,1,5,7,8,16],[4],[0,1,7,8],[4]]
abbrev Qrg:Type:=Z63→(Qlf × Unit→Option (Bool × Unit))→Int→Int→Option Qmb
noncomputable def Qlu (L1:Qrg) (v1:List Qlf) (v2:(Qlf × Unit→Option (Bool × Unit))) (v3 v4:Int):Option Qmb:=
 bif decide (v4<v3) then
  bif decide (0≤v4)&&decide (v4<(v1.length:Int)) then
   Option.bind (v2 ((List.getD v1 v4.toNat (0,0,0)),())) fun r5=>
   bif r5.1 then
    some ((v4,()),())
   else
    L1 v1 v2 v3 (IntKind.wrap .i64 (v4+1))
  else none
 else
  some (((-1),()),())
noncomputable def Qwq (L1:Qrg) (s_0:List Qlf) (f_1:(Qlf × Unit→Option (Bool × Unit))):Option Qmb:=
 L1 s_0 f_1 (s_0.length:Int) 0
noncomputable def Ql6 (n:Nat):Nat→Qrg:=iter (fun _ _ _ _=>none) fun L=>Qlu L
noncomputable def Qp1 (n m:Nat) (v1:List Qlf) (v2:(Qlf × Unit→Option (Bool × Unit))) (v3 v4:Int):Option Qmb:=
 Qjv Z5s tab (fiB [.val t29,.fn [t52] [t4]] Qvl) n [.val t29,.fn [t52] [t4]] [⟨t2,[false],none⟩] Tryz.f185 [1,0,1,0] [] [0,1,7,8] m
 ⟨[(0,Vp t29 v1),(1,V1 (.clo [t52] [t4] v2)),(7,Vp t2 v3),(8,Vp t2 v4)],[]⟩
theorem Qvc (n:Nat):∀ m,Qp1 n m=Ql6 n m
 | 0=>rfl
 | m+1=>by rw [show Qp1 n (m+1)=Qlu (Qp1 n m) from by kernel_rfl,Qvc n m];rfl
noncomputable def Qwr (n:Nat) (s_0:List Qlf) (f_1:(Qlf × Unit→Option (Bool × Unit))):Option Qmb:=Qwq (Ql6 n n) s_0 f_1
noncomputable def Qu5 (s_0:List Qlf) (f_1:(Qlf × Unit→Option (Bool × Unit))):Option Qmb:=Qwr 1099511627776 s_0 f_1
noncomputable def Qwl:Ent:=⟨[.val t29,.fn [t52] [t4]],[⟨t2,[false],none⟩],fun x=>Qu5 x.1 x.2.1⟩
theorem Z32:GD 185 Qwl:=fnl Qvl (fun n x=>Qwr n x.1 x.2.1) Qk3 Tryz.func185 fun n x=>Eq.trans (b:=Qwq (Qp1 n n) x.1 x.2.1) (by kernel_rfl) (by rw [Qvc n n];rfl)
abbrev Qm5:Type:=(Z63 × Unit) × Unit
noncomputable def Z53:Ctx:=[(156,Qjh),(185,Qwl)]
def Qvf:Fi:={ keep:=[],vty:=[],vals:=[],live:=[(0,[0,1]),(1,[0,1,5]),(2,[0,1,5,12]),(3,[4]),(4,[0,1,5,6]),(5,[0,1,5,6,19]),(6,[0,1,5,6]),(7,[0,1,5,6,7]),(8,[0,1,5,6,7,29]),(9,[0,1,5,6]),(10,[0,1,5,6]),(11,[0,5]),(12,[4])],melt:=[(11,1000000),(12,1000000)] }
abbrev Qr6:Type:=(Qlf × Unit→Option (Bool × Unit))→Int→Int→Z63→Option Qm5
noncomputable def Qlj (L1:Qr6) (v2:(Qlf × Unit→Option (Bool × Unit))) (v3 v4:Int) (v5:List Qlf):Option Qm5:=
 bif decide (v4<(v5.length:Int)) then
  bif decide (0≤v4)&&decide (v4<(v5.length:Int)) then
   bif decide (0≤v4)&&decide (v4<(v5.length:Int)) then
    Option.bind (v2 ((List.getD v5 v4.toNat (0,0,0)),())) fun r6=>
    bif !r6.1 then
     bif decide (0≤v3)&&decide (v3<(v5.length:Int)) then
      bif decide (0≤v3)&&decide (v3<(v5.length:Int)) then
       L1 v2 (IntKind.wrap .i64 (v3+1)) (IntKind.wrap .i64 (v4+1)) (List.set v5 v3.toNat (List.getD v5 v4.toNat (0,0,0)))
      else none
     else none
    else
     L1 v2 v3 (IntKind.wrap .i64 (v4+1)) v5
   else none
  else none
 else
 bif (decide (0≤v3)&&decide (v3≤((v5.length:Nat):Int)))&&decide (((v5.length:Nat):Int)≤(((List.map some v5).length:Nat):Int)) then
  bif Nat.ble ((0+v3.toNat)+((((v5.length:Nat):Int) - v3).toNat)) ((List.map some v5).length) then
   bif decide (0≤v3)&&decide (v3≤(((Q6 (List.map some v5) (0+v3.toNat) (List.replicate ((((v5.length:Nat):Int) - v3).toNat) ((0,0,0):Int × Int × Int))).length:Nat):Int)) then
    bif Nat.ble ((v3 - 0).toNat) ((Q6 (List.map some v5) (0+v3.toNat) (List.replicate ((((v5.length:Nat):Int) - v3).toNat) ((0,0,0):Int × Int × Int))).length) then
     Option.bind (Qd (List.take ((v3 - 0).toNat) (Q6 (List.map some v5) (0+v3.toNat) (List.replicate ((((v5.length:Nat):Int) - v3).toNat) ((0,0,0):Int × Int × Int))))) fun z7=>
     some ((z7,()),())
    else none
   else none
  else none
 else none
noncomputable def Qop (L1:Qr6) (s_0:List Qlf) (del_1:(Qlf × Unit→Option (Bool × Unit))):Option Qm5:=
 Option.bind (Qu5 s_0 del_1) fun r1=>
 bif r1.1.1==(-1) then
  some ((s_0,()),())
 else
  L1 del_1 r1.1.1 (IntKind.wrap .i64 (r1.1.1+1)) s_0
noncomputable def Qli (n:Nat):Nat→Qr6:=iter (fun _ _ _ _=>none) fun L=>Qlj L
noncomputable def Qo5 (n m:Nat) (v2:(Qlf × Unit→Option (Bool × Unit))) (v3 v4:Int) (v5:List Qlf):Option Qm5:=
 Qjv Z53 tab (fiB [.own 53 t52,.fn [t52] [t4]] Qvf) n [.own 53 t52,.fn [t52] [t4]] [⟨t29,[true],none⟩] Tryz.f156 [1,1,1,0,1,0] [] [0,1,5,6] m
 ⟨[(0,V1 (.ref (888888,0))),(1,V1 (.clo [t52] [t4] v2)),(5,Vp t2 v3),(6,Vp t2 v4)],[((888888,0),Ob.row 53 t52 v5)]⟩
theorem Qu9 (n:Nat):∀ m,Qo5 n m=Qli n m
 | 0=>rfl
 | m+1=>by rw [show Qo5 n (m+1)=Qlj (Qo5 n m) from by kernel_rfl,Qu9 n m];rfl
noncomputable def Qvn (n:Nat) (s_0:List Qlf) (del_1:(Qlf × Unit→Option (Bool × Unit))):Option Qm5:=Qop (Qli n n) s_0 del_1
noncomputable def Qss (s_0:List Qlf) (del_1:(Qlf × Unit→Option (Bool × Unit))):Option Qm5:=Qvn 1099511627776 s_0 del_1
noncomputable def Z4t:Ent:=⟨[.own 53 t52,.fn [t52] [t4]],[⟨t29,[true],none⟩],fun x=>Qss x.1 x.2.1⟩
theorem Z19:GD 156 Z4t:=fnl Qvf (fun n x=>Qvn n x.1 x.2.1) (Qjy (Qjx Tryz.func156 (by kernel_rfl) (by kernel_rfl)) (Qjy Z32 Qk3)) Tryz.func156 fun n x=>Eq.trans (b:=Qop (Qo5 n n) x.1 x.2.1) (by kernel_rfl) (by rw [Qu9 n n];rfl)
noncomputable def Zaj (k_0:Int × Int × Int) (x_1:Int):Option ((Bool × Unit) × Unit):=
 some ((k_0.1==x_1,()),())
noncomputable def Zer:Ent:=⟨[.val t52,.rbox t2],[⟨t4,[false],none⟩],fun x=>Zaj x.1 x.2.1⟩
theorem Zaz:GD 157 Zer:=fnk 1 (fo [[1,2],[3]]) Qk3 Tryz.func157
noncomputable def Z6i (l_0:List Qlf) (id_1:Int):Option ((Z63 × Unit) × Unit):=
 Option.bind (Qn7 l_0) fun r1=>
 Option.bind (Qss r1.1.1 (fun x=>(Zaj x.1 id_1).bind fun r=>some (r.1.1,()))) fun r2=>
 some ((r2.1.1,()),())
noncomputable def Zkb:Ent:=⟨[.val t29,.val t2],[⟨t29,[true],none⟩],fun x=>Z6i x.1 x.2.1⟩
theorem Zgb:GD 97 Zkb:=fnk 1 (fo [[0,3],[4]]) (Qjy Qq1 (Qjy Z19 (Qjy Zaz Qk3))) Tryz.func97
noncomputable def Qqg (m_1:Int × Int × Int × Int × Int × Int × (List Int) × Int × Int × ByteArray) (r1:(Z9m × Unit) × Unit) (lo_2:Int):Option ((Qwg × Zau × Unit) × Unit):=
 bif m_1.1==1 then
  Option.bind (Qta r1.1.1 m_1 lo_2) fun r10=>
  some ((r10.2.1.1,r10.2.1.2,()),())
 else
 bif m_1.1==2 then
  Option.bind (Qt3 r1.1.1 m_1) fun r11=>
  some ((r11.2.1.1,r11.2.1.2,()),())
 else
 bif m_1.1==3 then
  Option.bind (Qwa r1.1.1 m_1) fun r12=>
  some ((r12.2.1.1,r12.2.1.2,()),())
 else
 bif m_1.1==4 then
  Option.bind (Qst r1.1.1 m_1) fun r13=>
  some ((r13.2.1.1,r13.2.1.2,()),())
 else
 bif m_1.1==5 then
  Option.bind (Qw7 r1.1.1 m_1) fun r14=>
  some ((r14.2.1.1,r14.2.1.2,()),())
 else
 bif m_1.1==6 then
  Option.bind (Z6i (h12 r1.1.1.1) m_1.2.1) fun r15=>
  some (((e12 r1.1.1.1 r15.1.1),r1.1.1.2,()),())
 else
  some ((r1.1.1.1,r1.1.1.2,()),())
noncomputable def Z6o (r1:(Z9m × Unit) × Unit) (m_1:Int × Int × Int × Int × Int × Int × (List Int) × Int × Int × ByteArray) (lo_2:Int):Option ((Qwg × Zau × Unit) × Unit):=
 bif (g3 r1.1.1.1) != 0 then
  bif m_1.2.1==(g3 r1.1.1.1) then
   bif decide ((g3 m_1)>(g4 r1.1.1.1)) then
    Option.bind (Qvx r1.1.1 0) fun r3=>
    bif m_1.1==1 then
     Option.bind (Qta r3.2.1 m_1 lo_2) fun r4=>
     some ((r4.2.1.1,r4.2.1.2,()),())
    else
    bif m_1.1==2 then
     Option.bind (Qt3 r3.2.1 m_1) fun r5=>
     some ((r5.2.1.1,r5.2.1.2,()),())
    else
    bif m_1.1==3 then
     Option.bind (Qwa r3.2.1 m_1) fun r6=>
     some ((r6.2.1.1,r6.2.1.2,()),())
    else
    bif m_1.1==4 then
     Option.bind (Qst r3.2.1 m_1) fun r7=>
     some ((r7.2.1.1,r7.2.1.2,()),())
    else
    bif m_1.1==5 then
     Option.bind (Qw7 r3.2.1 m_1) fun r8=>
     some ((r8.2.1.1,r8.2.1.2,()),())
    else
    bif m_1.1==6 then
     Option.bind (Z6i (h12 r3.2.1.1) m_1.2.1) fun r9=>
     some (((e12 r3.2.1.1 r9.1.1),r3.2.1.2,()),())
    else
     some ((r3.2.1.1,r3.2.1.2,()),())
   else
    Qqg m_1 r1 lo_2
  else
   Qqg m_1 r1 lo_2
 else
  Qqg m_1 r1 lo_2
noncomputable def Zag (t_0:Int × Int × Int × Int × Int × Int × (List Int) × Int × Int × Int × Int × Int × List Qlf) (m_1:Int × Int × Int × Int × Int × Int × (List Int) × Int × Int × ByteArray) (lo_2:Int):Option ((Qwg × Zau × Unit) × Unit):=
 Option.bind (Zlp t_0) fun r1=>
 Option.bind (Zb9 (h12 r1.1.1.1) m_1.2.1 (g3 m_1)) fun r2=>
 bif r2.1.1 then
  some ((r1.1.1.1,[],()),())
 else
 bif m_1.2.1==(g3 r1.1.1.1) then
  bif decide ((g3 m_1)<(g4 r1.1.1.1)) then
   some ((r1.1.1.1,[],()),())
  else
   Z6o r1 m_1 lo_2
 else
  Z6o r1 m_1 lo_2
noncomputable def Zl0:Ent:=⟨[.val t30,.val t45,.val t2],[⟨t30,(nF 13),none⟩,⟨t48,[true],none⟩],fun x=>Zag x.1 x.2.1 x.2.2.1⟩
theorem Zgh:GD 46 Zl0:=fnk 1 (fo [[2,3,4,6,22,23,24,25,26,27,28,29,30,31,32,33,34,35,36,37,38,39,52,53,54,55,56,57,58,59,62,63,64,65,66,67,68,69],[2,4,6,8,22,23,24,25,26,27,28,29,30,31,32,33,34,35,36,37,38,39,52,53,54,55,56,57,58,59,62,63,64,65,66,67,68,69],[2,4,6,8,40,52,53,54,55,56,57,58,59,62,63,64,65,66,67,68,69],[6,7],[2,4,6,8,70],[2,4,6,8],[2,4,6,8,74],[2,4,6,8,74,75],[6,8],[4,6,8,74,81],[6,8],[4,6,8,74,86],[6,8],[4,6,8,74,91],[6,8],[4,6,8,74,96],[6,8],[4,6,8,101],[6,8],[6,7]]) (Qjy Zk8 (Qjy Za5 (Qjy Qwb (Qjy Z8b (Qjy Z87 (Qjy Z8o (Qjy Z8a (Qjy Z8n (Qjy Zgb Qk3))))))))) Tryz.func46
abbrev Qkf:Type:=(Int × Bool × Unit) × Unit
noncomputable def Qsu:Ctx:=[]
def Qnp:Fi:=fo [[0,1,2,40,41,42,43,44,45,46,47],[0,1,2,8,40,41,42,43,44,45,46,47],[0,1,2,8,9,10,40,41,42,43,44,45,46,47],[0,1,2,8,9,10,17,40,41,42,43,44,45,46,47],[0,1,2,8,9,10,11,40,41,42,43,44,45,46,47],[0,1,2,8,9,10,11,31,40,41,42,43,44,45,46,47],[0,1,2,8,9,10,40,41,42,43,44,45,46,47],[0,1,2,8,9,10,40,41,42,43,44,45,46,47],[6,7]]
abbrev Qlh:Type:=Qlg→Int→(Qls × Int × Unit→Option (Int × Unit))→Int→Int→Int→Option Qkf
noncomputable def Qks (L1:Qlh) (v1:List Qls) (v2:Int) (v3:(Qls × Int × Unit→Option (Int × Unit))) (v4 v5 v6:Int):Option Qkf:=
 bif decide (v5<v6) then
  bif decide (0≤IntKind.wrap .i64 (Int.fdiv (IntKind.wrap .u64 (IntKind.wrap .i64 (v5+v6))) (2 ^ 1)))&&decide (IntKind.wrap .i64 (Int.fdiv (IntKind.wrap .u64 (IntKind.wrap .i64 (v5+v6))) (2 ^ 1))<(v1.length:Int)) then
   Option.bind (v3 ((List.getD v1 ((IntKind.wrap .i64 (Int.fdiv (IntKind.wrap .u64 (IntKind.wrap .i64 (v5+v6))) (2 ^ 1))).toNat) (0,(⟨#[]⟩:ByteArray))),v2,())) fun r7=>
   bif decide (r7.1<0) then
    L1 v1 v2 v3 v4 (IntKind.wrap .i64 ((IntKind.wrap .i64 (Int.fdiv (IntKind.wrap .u64 (IntKind.wrap .i64 (v5+v6))) (2 ^ 1)))+1)) v6
   else
    L1 v1 v2 v3 v4 v5 (IntKind.wrap .i64 (Int.fdiv (IntKind.wrap .u64 (IntKind.wrap .i64 (v5+v6))) (2 ^ 1)))
  else none
 else
 bif decide (v5<v4) then
  bif decide (0≤v5)&&decide (v5<(v1.length:Int)) then
   Option.bind (v3 ((List.getD v1 v5.toNat (0,(⟨#[]⟩:ByteArray))),v2,())) fun r8=>
   some ((v5,r8.1==0,()),())
  else none
 else
  some ((v5,false,()),())
noncomputable def Qnq (L1:Qlh) (x_0:List Qls) (target_1:Int) (cmp_2:(Qls × Int × Unit→Option (Int × Unit))):Option Qkf:=
 L1 x_0 target_1 cmp_2 (x_0.length:Int) 0 (x_0.length:Int)
noncomputable def Qkr (n:Nat):Nat→Qlh:=iter (fun _ _ _ _ _ _=>none) fun L=>Qks L
noncomputable def Qkq (n m:Nat) (v1:List Qls) (v2:Int) (v3:(Qls × Int × Unit→Option (Int × Unit))) (v4 v5 v6:Int):Option Qkf:=
 Qjv Qsu tab (fiB [.val t32,.val t2,.fn [t58,t2] [t2]] Qnp) n [.val t32,.val t2,.fn [t58,t2] [t2]] [⟨t2,[false],none⟩,⟨t4,[false],none⟩] Tryz.f189 [1,1,1,0,0] [] [0,1,2,8,9,10] m
 ⟨[(0,Vp t32 v1),(1,Vp t2 v2),(2,V1 (.clo [t58,t2] [t2] v3)),(8,Vp t2 v4),(9,Vp t2 v5),(10,Vp t2 v6)],[]⟩
theorem Qna (n:Nat):∀ m,Qkq n m=Qkr n m
 | 0=>rfl
 | m+1=>by rw [show Qkq n (m+1)=Qks (Qkq n m) from by kernel_rfl,Qna n m];rfl
noncomputable def Qnt (n:Nat) (x_0:List Qls) (target_1:Int) (cmp_2:(Qls × Int × Unit→Option (Int × Unit))):Option Qkf:=Qnq (Qkr n n) x_0 target_1 cmp_2
noncomputable def Ql0 (x_0:List Qls) (target_1:Int) (cmp_2:(Qls × Int × Unit→Option (Int × Unit))):Option Qkf:=Qnt 1099511627776 x_0 target_1 cmp_2
noncomputable def Qsv:Ent:=⟨[.val t32,.val t2,.fn [t58,t2] [t2]],[⟨t2,[false],none⟩,⟨t4,[false],none⟩],fun x=>Ql0 x.1 x.2.1 x.2.2.1⟩
theorem Qn9:GD 189 Qsv:=fnl Qnp (fun n x=>Qnt n x.1 x.2.1 x.2.2.1) Qk3 Tryz.func189 fun n x=>Eq.trans (b:=Qnq (Qkq n n) x.1 x.2.1 x.2.2.1) (by kernel_rfl) (by rw [Qna n n];rfl)
noncomputable def Z6n (i_0:Int × ByteArray) (seq_1:Int):Option ((Int × Unit) × Unit):=
 Option.bind (Qr2 i_0.1 seq_1) fun r1=>
 some ((r1.1.1,()),())
noncomputable def Zg3:Ent:=⟨[.val t58,.val t2],[⟨t2,[false],none⟩],fun x=>Z6n x.1 x.2.1⟩
theorem Zcj:GD 190 Zg3:=fnk 1 (fo [[1,2],[4]]) (Qjy Qu3 Qk3) Tryz.func190
noncomputable def Ze2 (l_0:List Qls) (seq_1:Int):Option ((ByteArray × Bool × Unit) × Unit):=
 Option.bind (Ql0 l_0 seq_1 (fun x=>(Z6n x.1 x.2.1).bind fun r=>some (r.1.1,()))) fun r1=>
 bif !r1.1.2.1 then
  some (((⟨#[]⟩:ByteArray),false,()),())
 else
 bif decide (0≤r1.1.1)&&decide (r1.1.1<(l_0.length:Int)) then
  some (((List.getD l_0 r1.1.1.toNat (0,(⟨#[]⟩:ByteArray))).2,true,()),())
 else none
noncomputable def Zgr:Ent:=⟨[.val t32,.val t2],[⟨t9,[false],none⟩,⟨t4,[false],none⟩],fun x=>Ze2 x.1 x.2.1⟩
theorem Zib:GD 159 Zgr:=fnk 1 (fo [[0,1],[0,6,7],[0,6,15],[4,5],[4,5]]) (Qjy Qn9 (Qjy Zcj Qk3)) Tryz.func159
abbrev Qrd:Type:=(Qlg × Zg9 × Unit) × Unit
noncomputable def Zjj:Ctx:=[(159,Zgr)]
def Zah:Fi:={ keep:=[],vty:=[(6,32),(7,146)],vals:=[],live:=[(0,[1,2,3,6,7,25,26,27,28,48,49,52,53,60,61,62,63,64,65,66,67,68]),(1,[1,2,3,6,7,14,25,26,27,28,48,49,52,53,60,61,62,63,64,65,66,67,68]),(2,[6,7]),(3,[1,2,3,6,7,25,26,27,28,48,49,52,53,60,61,62,63,64,65,66,67,68]),(4,[1,2,3,6,7,8,25,26,27,28,48,49,52,53,60,61,62,63,64,65,66,67,68]),(5,[1,2,3,6,7,8,25,26,27,28,29,48,49,52,53,60,61,62,63,64,65,66,67,68]),(6,[1,2,3,6,7,8,25,26,27,28,48,49,52,53,60,61,62,63,64,65,66,67,68]),(7,[1,2,3,6,7,8,9,10,25,26,27,28,48,49,52,53,60,61,62,63,64,65,66,67,68]),(8,[1,2,3,6,7,8,9,10,25,26,27,28,39,48,49,52,53,60,61,62,63,64,65,66,67,68]),(9,[1,2,3,6,7,8,10,25,26,27,28,48,49,52,53,60,61,62,63,64,65,66,67,68]),(10,[1,2,3,6,7,8,25,26,27,28,48,49,52,53,54,60,61,62,63,64,65,66,67,68]),(11,[1,2,3,6,7,8,11,25,26,27,28,48,49,52,53,60,61,62,63,64,65,66,67,68]),(12,[1,2,3,6,7,8,11,25,26,27,28,48,49,52,53,60,61,62,63,64,65,66,67,68,69]),(13,[1,2,3,6,7,8,25,26,27,28,48,49,52,53,60,61,62,63,64,65,66,67,68]),(14,[1,2,3,6,7,8,25,26,27,28,48,49,52,53,60,61,62,63,64,65,66,67,68]),(15,[6,7])] }
abbrev Qw9:Type:=Int→Int→Int→Int→Int→Qlg→Qlg→Qtb→Int→Int→Qlg→Zg9→Option Qrd
noncomputable def Zbn (v12:List (Int × Int)) (L1:Qw9) (v1 v2 v3 v4 v5:Int) (v6 v7:List Qls) (v8:List Qrc) (v9 v10:Int) (v11:List Qls) (r13:(ByteArray × Bool × Unit) × Unit):Option Qrd:=
 bif Nat.ble (v12.length+1) 1073741824 then
  L1 v1 v2 (IntKind.wrap .i64 (v3+1)) v4 v5 v6 v7 v8 v9 v10 (v11++[(v3,r13.1.1)]) (v12++[(v3,v3)])
 else none
noncomputable def Qzj (v12:List (Int × Int)) (L1:Qw9) (v1 v2 v3 v4 v5:Int) (v6 v7:List Qls) (v8:List Qrc) (v9 v10:Int) (v11:List Qls):Option Qrd:=
 bif Nat.ble (v12.length+1) 1073741824 then
  L1 v1 v2 (IntKind.wrap .i64 (v3+1)) v4 v5 v6 v7 v8 v9 v10 v11 (v12++[(v3,v3)])
 else none
noncomputable def Qte (L1:Qw9) (v1 v2 v3 v4 v5:Int) (v6 v7:List Qls) (v8:List Qrc) (v9 v10:Int) (v11:List Qls) (v12:List (Int × Int)):Option Qrd:=
 bif decide (v3≤v2) then
  bif decide (IntKind.wrap .i64 (v3 - v1)<8) then
   Option.bind (Ze2 v6 v3) fun r13=>
   bif r13.1.2.1 then
    bif Nat.ble (v11.length+1) 1073741824 then
     bif r13.1.2.1 then
      L1 v1 v2 (IntKind.wrap .i64 (v3+1)) v4 v5 v6 v7 v8 v9 v10 (v11++[(v3,r13.1.1)]) v12
     else
     bif decide (v3<1) then
      L1 v1 v2 (IntKind.wrap .i64 (v3+1)) v4 v5 v6 v7 v8 v9 v10 (v11++[(v3,r13.1.1)]) v12
     else
     bif decide (v3>1000000) then
      L1 v1 v2 (IntKind.wrap .i64 (v3+1)) v4 v5 v6 v7 v8 v9 v10 (v11++[(v3,r13.1.1)]) v12
     else
     bif decide ((v12.length:Int)>0) then
      bif decide (0≤IntKind.wrap .i64 ((v12.length:Int) - 1))&&decide (IntKind.wrap .i64 ((v12.length:Int) - 1)<(v12.length:Int)) then
       bif decide (0≤IntKind.wrap .i64 ((v12.length:Int) - 1))&&decide (IntKind.wrap .i64 ((v12.length:Int) - 1)<(v12.length:Int)) then
        bif ((List.getD v12 ((IntKind.wrap .i64 ((v12.length:Int) - 1)).toNat) (0,0)).2)==(IntKind.wrap .i64 (v3 - 1)) then
         bif decide (0≤IntKind.wrap .i64 ((v12.length:Int) - 1))&&decide (IntKind.wrap .i64 ((v12.length:Int) - 1)<(v12.length:Int)) then
          bif decide (0≤IntKind.wrap .i64 ((v12.length:Int) - 1))&&decide (IntKind.wrap .i64 ((v12.length:Int) - 1)<(v12.length:Int)) then
           L1 v1 v2 (IntKind.wrap .i64 (v3+1)) v4 v5 v6 v7 v8 v9 v10 (v11++[(v3,r13.1.1)]) (List.set v12 ((IntKind.wrap .i64 ((v12.length:Int) - 1)).toNat) ((List.getD v12 ((IntKind.wrap .i64 ((v12.length:Int) - 1)).toNat) (0,0)).1,v3))
          else none
         else none
        else
         Zbn v12 L1 v1 v2 v3 v4 v5 v6 v7 v8 v9 v10 v11 r13
       else none
      else none
     else
      Zbn v12 L1 v1 v2 v3 v4 v5 v6 v7 v8 v9 v10 v11 r13
    else none
   else
   bif r13.1.2.1 then
    L1 v1 v2 (IntKind.wrap .i64 (v3+1)) v4 v5 v6 v7 v8 v9 v10 v11 v12
   else
   bif decide (v3<1) then
    L1 v1 v2 (IntKind.wrap .i64 (v3+1)) v4 v5 v6 v7 v8 v9 v10 v11 v12
   else
   bif decide (v3>1000000) then
    L1 v1 v2 (IntKind.wrap .i64 (v3+1)) v4 v5 v6 v7 v8 v9 v10 v11 v12
   else
   bif decide ((v12.length:Int)>0) then
    bif decide (0≤IntKind.wrap .i64 ((v12.length:Int) - 1))&&decide (IntKind.wrap .i64 ((v12.length:Int) - 1)<(v12.length:Int)) then
     bif decide (0≤IntKind.wrap .i64 ((v12.length:Int) - 1))&&decide (IntKind.wrap .i64 ((v12.length:Int) - 1)<(v12.length:Int)) then
      bif ((List.getD v12 ((IntKind.wrap .i64 ((v12.length:Int) - 1)).toNat) (0,0)).2)==(IntKind.wrap .i64 (v3 - 1)) then
       bif decide (0≤IntKind.wrap .i64 ((v12.length:Int) - 1))&&decide (IntKind.wrap .i64 ((v12.length:Int) - 1)<(v12.length:Int)) then
        bif decide (0≤IntKind.wrap .i64 ((v12.length:Int) - 1))&&decide (IntKind.wrap .i64 ((v12.length:Int) - 1)<(v12.length:Int)) then
         L1 v1 v2 (IntKind.wrap .i64 (v3+1)) v4 v5 v6 v7 v8 v9 v10 v11 (List.set v12 ((IntKind.wrap .i64 ((v12.length:Int) - 1)).toNat) ((List.getD v12 ((IntKind.wrap .i64 ((v12.length:Int) - 1)).toNat) (0,0)).1,v3))
        else none
       else none
      else
       Qzj v12 L1 v1 v2 v3 v4 v5 v6 v7 v8 v9 v10 v11
     else none
    else none
   else
    Qzj v12 L1 v1 v2 v3 v4 v5 v6 v7 v8 v9 v10 v11
  else
   some ((v11,v12,()),())
 else
  some ((v11,v12,()),())
noncomputable def Z1g (L1:Qw9) (f_0:Int × Int × Qlg × Qlg × Qtb × Int × Int) (lo_1 hi_2:Int):Option Qrd:=
 bif decide (f_0.1<1) then
  some (([],[],()),())
 else
  L1 lo_1 (if IntKind.wrap .i64 (f_0.1 - 1)<hi_2 then IntKind.wrap .i64 (f_0.1 - 1) else hi_2) lo_1 f_0.1 f_0.2.1 f_0.2.2.1 (g3 f_0) (g4 f_0) (g5 f_0) (h6 f_0) [] []
noncomputable def Qrx (n:Nat):Nat→Qw9:=iter (fun _ _ _ _ _ _ _ _ _ _ _ _=>none) fun L=>Qte L
noncomputable def Qzn (n m:Nat) (v1 v2 v3 v4 v5:Int) (v6 v7:List Qls) (v8:List Qrc) (v9 v10:Int) (v11:List Qls) (v12:List (Int × Int)):Option Qrd:=
 Qjv Zjj tab (fiB [.val t36,.val t2,.val t2] Zah) n [.val t36,.val t2,.val t2] [⟨t32,[true],none⟩,⟨Zoz,[true],none⟩] Tryz.f99 [1,1,1,0,1,0] [] [1,2,3,6,7,8] m
 ⟨[(1,Vp t2 v1),(2,Vp t2 v2),(3,V1 (.ptr (3,0) 0)),(6,V1 (.ref (888888,6))),(7,V1 (.ref (888888,7))),(8,Vp t2 v3)],[((3,0),Ob.box 37 [LV.pure t2 v4,LV.pure t2 v5,LV.pure t32 v6,LV.pure t32 v7,LV.pure t33 v8,LV.pure t2 v9,LV.pure t2 v10]),((888888,6),Ob.row 59 t58 v11),((888888,7),Ob.row 100 t34 v12)]⟩
theorem Z93 (n:Nat):∀ m,Qzn n m=Qrx n m
 | 0=>rfl
 | m+1=>by rw [show Qzn n (m+1)=Qte (Qzn n m) from by kernel_rfl,Z93 n m];rfl
noncomputable def Zct (n:Nat) (f_0:Int × Int × Qlg × Qlg × Qtb × Int × Int) (lo_1 hi_2:Int):Option Qrd:=Z1g (Qrx n n) f_0 lo_1 hi_2
noncomputable def Zck (f_0:Int × Int × Qlg × Qlg × Qtb × Int × Int) (lo_1 hi_2:Int):Option Qrd:=Zct 1099511627776 f_0 lo_1 hi_2
noncomputable def Zcy:Ent:=⟨[.val t36,.val t2,.val t2],[⟨t32,[true],none⟩,⟨Zoz,[true],none⟩],fun x=>Zck x.1 x.2.1 x.2.2.1⟩
theorem Zfq:GD 99 Zcy:=fnl Zah (fun n x=>Zct n x.1 x.2.1 x.2.2.1) (Qjy Zib Qk3) Tryz.func99 fun n x=>Eq.trans (b:=Z1g (Qzn n n) x.1 x.2.1 x.2.2.1) (by kernel_rfl) (by rw [Z93 n n];rfl)
abbrev Qot:Type:=(Zau × Unit) × Unit
noncomputable def Zbb:Ctx:=[(58,Z6r),(98,Zfn),(99,Zcy)]
def Z2q:Fi:={ keep:=[],vty:=[(4,48)],vals:=[],live:=[(0,[2,3,4,25,26,27,28,29]),(1,[2,3,4,5,6,25,26,27,28,29]),(2,[2,3,4,30]),(3,[4]),(4,[2,3,4,7,8]),(5,[2,3,4,8,41,42,43]),(6,[2,3,4,8,41,42,43,44]),(7,[2,3,4,8,10,41,42,43]),(8,[2,3,4,8,41,42,43]),(9,[2,3,4,8,41,42,43]),(10,[2,3,4,59,60,61]),(11,[2,3,4,59,60,61,62]),(12,[2,3,4,12,59,60,61]),(13,[2,3,4,59,60,61]),(14,[2,3,4,59,60,61]),(15,[4])] }
abbrev Z31:Type:=Int→Int→Bool→Int→ByteArray→Int→Int→Int→Int→Int→Int→List Int→Int→Int→Int→Int→Int→Z63→Int→Int→Qlg→Qlg→Qtb→Int→Int→Int→Int→Int→Int→Int→Int→Int→List Int→Int→Int→ByteArray→Zau→Zg9→Qlg→Option Qot
abbrev Z2z:Type:=Int→Int→Bool→Int→ByteArray→Int→Int→Int→Int→Int→Int→List Int→Int→Int→Int→Int→Int→Z63→Int→Int→Qlg→Qlg→Qtb→Int→Int→Int→Int→Int→Int→Int→Int→Int→List Int→Int→Int→ByteArray→Zau→Zg9→Option Qot
noncomputable def Qs9 (L1:Z31) (L2:Z2z) (v3 v4:Int) (v5:Bool) (v6:Int) (v7:ByteArray) (v8 v9 v10 v11 v12 v13:Int) (v14:List Int) (v15 v16 v17 v18 v19:Int) (v20:List Qlf) (v21 v22:Int) (v23 v24:List Qls) (v25:List Qrc) (v26 v27 v28 v29 v30 v31 v32 v33 v34:Int) (v35:List Int) (v36 v37:Int) (v38:ByteArray) (v39:List Z18) (v40:List (Int × Int)) (v41:List Qls):Option Qot:=
 bif decide (v4<v3) then
  bif decide (0≤v4)&&decide (v4<(v41.length:Int)) then
   bif decide (0≤v4)&&decide (v4<(v41.length:Int)) then
    Option.bind (Qtm (v5,v6,v7,(v8,v9,v10,v11,v12,v13,v14,v15,v16,v17,v18,v19,v20),(v21,v22,v23,v24,v25,v26,v27),v28) 7 v30 ((List.getD v41 v4.toNat (0,(⟨#[]⟩:ByteArray))).1) 0 ((List.getD v41 v4.toNat (0,(⟨#[]⟩:ByteArray))).2)) fun r42=>
    bif Nat.ble (v39.length+1) 1073741824 then
     L1 v3 (IntKind.wrap .i64 (v4+1)) v5 v6 v7 v8 v9 v10 v11 v12 v13 v14 v15 v16 v17 v18 v19 v20 v21 v22 v23 v24 v25 v26 v27 v28 v29 v30 v31 v32 v33 v34 v35 v36 v37 v38 (v39++[r42.1.1]) v40 v41
    else none
   else none
  else none
 else
  L2 (v40.length:Int) 0 v5 v6 v7 v8 v9 v10 v11 v12 v13 v14 v15 v16 v17 v18 v19 v20 v21 v22 v23 v24 v25 v26 v27 v28 v29 v30 v31 v32 v33 v34 v35 v36 v37 v38 v39 v40
noncomputable def Qs8 (L2:Z2z) (v43 v44:Int) (v45:Bool) (v46:Int) (v47:ByteArray) (v48 v49 v50 v51 v52 v53:Int) (v54:List Int) (v55 v56 v57 v58 v59:Int) (v60:List Qlf) (v61 v62:Int) (v63 v64:List Qls) (v65:List Qrc) (v66 v67 v68 v69 v70 v71 v72 v73 v74:Int) (v75:List Int) (v76 v77:Int) (v78:ByteArray) (v79:List Z18) (v80:List (Int × Int)):Option Qot:=
 bif decide (v44<v43) then
  bif decide (0≤v44)&&decide (v44<(v80.length:Int)) then
   bif decide (0≤v44)&&decide (v44<(v80.length:Int)) then
    Option.bind (Qtm (v45,v46,v47,(v48,v49,v50,v51,v52,v53,v54,v55,v56,v57,v58,v59,v60),(v61,v62,v63,v64,v65,v66,v67),v68) 9 v70 ((List.getD v80 v44.toNat (0,0)).1) ((List.getD v80 v44.toNat (0,0)).2) (⟨#[]⟩:ByteArray)) fun r81=>
    bif Nat.ble (v79.length+1) 1073741824 then
     L2 v43 (IntKind.wrap .i64 (v44+1)) v45 v46 v47 v48 v49 v50 v51 v52 v53 v54 v55 v56 v57 v58 v59 v60 v61 v62 v63 v64 v65 v66 v67 v68 v69 v70 v71 v72 v73 v74 v75 v76 v77 v78 (v79++[r81.1.1]) v80
    else none
   else none
  else none
 else
  some ((v79,()),())
noncomputable def Qzm (L1:Z31) (n_0:Bool × Int × ByteArray × Qwg × Z5r × Int) (m_1:Int × Int × Int × Int × Int × Int × (List Int) × Int × Int × ByteArray):Option Qot:=
 Option.bind (Qxr (h12 (g3 n_0)) m_1.2.1) fun r1=>
 bif !r1.1.2.1 then
  some (([],()),())
 else
 bif r1.1.1.2.1 != (g3 m_1) then
  some (([],()),())
 else
  Option.bind (Zck (g4 n_0) (g7 m_1) (g8 m_1)) fun r2=>
  L1 (r2.1.1.length:Int) 0 n_0.1 n_0.2.1 n_0.2.2.1 (g3 n_0).1 (g3 n_0).2.1 (g3 n_0).2.2.1 (g3 (g3 n_0)) (g4 (g3 n_0)) (g5 (g3 n_0)) (g6 (g3 n_0)) (g7 (g3 n_0)) (g8 (g3 n_0)) (g9 (g3 n_0)) (g10 (g3 n_0)) (g11 (g3 n_0)) (h12 (g3 n_0)) (g4 n_0).1 (g4 n_0).2.1 (g4 n_0).2.2.1 (g3 (g4 n_0)) (g4 (g4 n_0)) (g5 (g4 n_0)) (h6 (g4 n_0)) (h5 n_0) m_1.1 m_1.2.1 m_1.2.2.1 (g3 m_1) (g4 m_1) (g5 m_1) (g6 m_1) (g7 m_1) (g8 m_1) (h9 m_1) [] r2.1.2.1 r2.1.1
noncomputable def Qql (n:Nat):Nat→Z2z:=iter (fun _ _ _ _ _ _ _ _ _ _ _ _ _ _ _ _ _ _ _ _ _ _ _ _ _ _ _ _ _ _ _ _ _ _ _ _ _ _=>none) fun L=>Qs8 L
noncomputable def Qsa (n:Nat):Nat→Z31:=iter (fun _ _ _ _ _ _ _ _ _ _ _ _ _ _ _ _ _ _ _ _ _ _ _ _ _ _ _ _ _ _ _ _ _ _ _ _ _ _ _=>none) fun L=>Qs9 L (Qql n n)
noncomputable def Qxg (n m:Nat) (v3 v4:Int) (v5:Bool) (v6:Int) (v7:ByteArray) (v8 v9 v10 v11 v12 v13:Int) (v14:List Int) (v15 v16 v17 v18 v19:Int) (v20:List Qlf) (v21 v22:Int) (v23 v24:List Qls) (v25:List Qrc) (v26 v27 v28 v29 v30 v31 v32 v33 v34:Int) (v35:List Int) (v36 v37:Int) (v38:ByteArray) (v39:List Z18) (v40:List (Int × Int)) (v41:List Qls):Option Qot:=
 Qjv Zbb tab (fiB [.val t38,.val t45] Z2q) n [.val t38,.val t45] [⟨t48,[true],none⟩] Tryz.f47 [1,1,1,1,0,1,0] [] [2,3,4,8,41,42,43] m
 ⟨[(2,V1 (.ptr (2,0) 0)),(3,V1 (.ptr (3,0) 0)),(4,V1 (.ref (888888,4))),(8,V1 (.ref (888888,8))),(41,V1 (.ref (888888,41))),(42,Vp t2 v3),(43,Vp t2 v4)],[((2,0),Ob.box 39 [LV.pure t4 v5,LV.pure t2 v6,LV.pure t9 v7,LV.pure t2 v8,LV.pure t2 v9,LV.pure t2 v10,LV.pure t2 v11,LV.pure t2 v12,LV.pure t2 v13,LV.pure t28 v14,LV.pure t2 v15,LV.pure t2 v16,LV.pure t2 v17,LV.pure t2 v18,LV.pure t2 v19,LV.pure t29 v20,LV.pure t2 v21,LV.pure t2 v22,LV.pure t32 v23,LV.pure t32 v24,LV.pure t33 v25,LV.pure t2 v26,LV.pure t2 v27,LV.pure t2 v28]),((3,0),Ob.box 46 [LV.pure t2 v29,LV.pure t2 v30,LV.pure t2 v31,LV.pure t2 v32,LV.pure t2 v33,LV.pure t2 v34,LV.pure t28 v35,LV.pure t2 v36,LV.pure t2 v37,LV.pure t9 v38]),((888888,4),Ob.row 46 t45 v39),((888888,8),Ob.row 100 t34 v40),((888888,41),Ob.row 59 t58 v41)]⟩
noncomputable def Qxd (n m:Nat) (v43 v44:Int) (v45:Bool) (v46:Int) (v47:ByteArray) (v48 v49 v50 v51 v52 v53:Int) (v54:List Int) (v55 v56 v57 v58 v59:Int) (v60:List Qlf) (v61 v62:Int) (v63 v64:List Qls) (v65:List Qrc) (v66 v67 v68 v69 v70 v71 v72 v73 v74:Int) (v75:List Int) (v76 v77:Int) (v78:ByteArray) (v79:List Z18) (v80:List (Int × Int)):Option Qot:=
 Qjv Zbb tab (fiB [.val t38,.val t45] Z2q) n [.val t38,.val t45] [⟨t48,[true],none⟩] Tryz.f47 [1,1,1,1,1,0,1,0] [] [2,3,4,59,60,61] m
 ⟨[(2,V1 (.ptr (2,0) 0)),(3,V1 (.ptr (3,0) 0)),(4,V1 (.ref (888888,4))),(59,V1 (.ref (888888,59))),(60,Vp t2 v43),(61,Vp t2 v44)],[((2,0),Ob.box 39 [LV.pure t4 v45,LV.pure t2 v46,LV.pure t9 v47,LV.pure t2 v48,LV.pure t2 v49,LV.pure t2 v50,LV.pure t2 v51,LV.pure t2 v52,LV.pure t2 v53,LV.pure t28 v54,LV.pure t2 v55,LV.pure t2 v56,LV.pure t2 v57,LV.pure t2 v58,LV.pure t2 v59,LV.pure t29 v60,LV.pure t2 v61,LV.pure t2 v62,LV.pure t32 v63,LV.pure t32 v64,LV.pure t33 v65,LV.pure t2 v66,LV.pure t2 v67,LV.pure t2 v68]),((3,0),Ob.box 46 [LV.pure t2 v69,LV.pure t2 v70,LV.pure t2 v71,LV.pure t2 v72,LV.pure t2 v73,LV.pure t2 v74,LV.pure t28 v75,LV.pure t2 v76,LV.pure t2 v77,LV.pure t9 v78]),((888888,4),Ob.row 46 t45 v79),((888888,59),Ob.row 100 t34 v80)]⟩
theorem Z66 (n:Nat):∀ m,Qxd n m=Qql n m
 | 0=>rfl
 | m+1=>by rw [show Qxd n (m+1)=Qs8 (Qxd n m) from by kernel_rfl,Z66 n m];rfl
theorem Z6w (n:Nat):∀ m,Qxg n m=Qsa n m
 | 0=>rfl
 | m+1=>by rw [show Qxg n (m+1)=Qs9 (Qxg n m) (Qxd n n) from by kernel_rfl,Z66 n n,Z6w n m];rfl
noncomputable def Zb7 (n:Nat) (n_0:Bool × Int × ByteArray × Qwg × Z5r × Int) (m_1:Int × Int × Int × Int × Int × Int × (List Int) × Int × Int × ByteArray):Option Qot:=Qzm (Qsa n n) n_0 m_1
noncomputable def Z4e (n_0:Bool × Int × ByteArray × Qwg × Z5r × Int) (m_1:Int × Int × Int × Int × Int × Int × (List Int) × Int × Int × ByteArray):Option Qot:=Zb7 1099511627776 n_0 m_1
noncomputable def Zi0:Ent:=⟨[.val t38,.val t45],[⟨t48,[true],none⟩],fun x=>Z4e x.1 x.2.1⟩
theorem Ze1:GD 47 Zi0:=fnl Z2q (fun n x=>Zb7 n x.1 x.2.1) (Qjy Z7j (Qjy Qxf (Qjy Zfq Qk3))) Tryz.func47 fun n x=>Eq.trans (b:=Qzm (Qxg n n) x.1 x.2.1) (by kernel_rfl) (by rw [Z6w n n];rfl)
noncomputable def Qts (f_0:Int × Int × Qlg × Qlg × Qtb × Int × Int) (top_1:Int):Option ((Z5r × Unit) × Unit):=
 Option.bind (Qq5 f_0) fun r1=>
 bif decide (r1.1.1.1>0) then
  bif decide (top_1≤1000000) then
   some (((u1 r1.1.1 (if top_1>r1.1.1.2.1 then top_1 else r1.1.1.2.1)),()),())
  else
   some ((r1.1.1,()),())
 else
  some ((r1.1.1,()),())
noncomputable def Ziz:Ent:=⟨[.val t36,.val t2],[⟨t36,[false,false,true,true,true,false,false],none⟩],fun x=>Qts x.1 x.2.1⟩
theorem Qwe:GD 100 Ziz:=fnk 1 (fo [[1,2,4,11,12],[1,2,4,11,12],[1,2,4,13],[2,4],[4]]) (Qjy Qu7 Qk3) Tryz.func100
noncomputable def Z7q (f_0:Int × Int × Qlg × Qlg × Qtb × Int × Int) (next_1:Int):Option ((Z5r × Unit) × Unit):=
 bif decide (f_0.1>0) then
  Option.bind (Qts f_0 (IntKind.wrap .i64 (next_1 - 1))) fun r1=>
  some ((r1.1.1,()),())
 else
  Option.bind (Qq5 f_0) fun r2=>
  bif decide (next_1 ≥ 1) then
   bif decide (next_1≤1000000) then
    some (((next_1,r2.1.1.2),()),())
   else
    some ((r2.1.1,()),())
  else
   some ((r2.1.1,()),())
noncomputable def Ziw:Ent:=⟨[.val t36,.val t2],[⟨t36,[false,false,true,true,true,false,false],none⟩],fun x=>Z7q x.1 x.2.1⟩
theorem Zeb:GD 101 Ziw:=fnk 1 (fo [[1,2,4,17,18],[1,2,4,7,17,18],[4],[1,2,4,17,18],[1,2,4,19],[2,4],[4]]) (Qjy Qwe (Qjy Qu7 Qk3)) Tryz.func101
noncomputable def Z98 (x_0:Int × ByteArray) (seq_1:Int):Option ((Int × Unit) × Unit):=
 Option.bind (Qr2 x_0.1 seq_1) fun r1=>
 some ((r1.1.1,()),())
noncomputable def Zho:Ent:=⟨[.val t58,.val t2],[⟨t2,[false],none⟩],fun x=>Z98 x.1 x.2.1⟩
theorem Zdt:GD 191 Zho:=fnk 1 (fo [[1,2],[4]]) (Qjy Qu3 Qk3) Tryz.func191
noncomputable def Qyw:Ctx:=[(192,Qjh)]
def Qy4:Fi:={ keep:=[],vty:=[],vals:=[],live:=[(0,[0,1,2]),(1,[0,1,2]),(2,[0,1,2,7]),(3,[0,1,2,7,16]),(4,[6]),(5,[0,1,2,7,8]),(6,[0,1,2,7,8,22]),(7,[6]),(8,[0,1,2,7,8,31]),(9,[0,1,2,7,9]),(10,[0,1,7,9]),(11,[9]),(12,[6]),(13,[0,1,2,7,8]),(14,[0,1,2,7,8,68]),(15,[0,1,2]),(16,[0]),(17,[6]),(18,[0,1,7]),(19,[0]),(20,[6])] }
noncomputable def Qzf (c:Nat) (s_0:List Qls) (i_1:Int) (v_2:List Qls):Option ((Qlg × Unit) × Unit):=
 bif (decide (0≤i_1)&&decide (i_1≤((s_0.length:Nat):Int)))&&decide (((s_0.length:Nat):Int)≤((((List.map some s_0++List.replicate c none).length) - 0:Nat):Int)) then
  bif (v_2.length:Int)==0 then
   bif Nat.ble s_0.length ((List.map some s_0++List.replicate c none).length) then
    Option.bind (Qd (List.take s_0.length (List.map some s_0++List.replicate c none))) fun (z1:List Qls)=>
    some ((z1,()),())
   else none
  else
  bif i_1==((s_0.length:Nat):Int) then
   bif Nat.ble (0+s_0.length) ((List.map some s_0++List.replicate c none).length) then
    bif Nat.ble (s_0.length+v_2.length) ((List.map some s_0++List.replicate c none).length) then
     bif Nat.ble (s_0.length+v_2.length) ((Q6 (List.map some s_0++List.replicate c none) s_0.length v_2).length) then
      Option.bind (Qd (List.take (s_0.length+v_2.length) (Q6 (List.map some s_0++List.replicate c none) s_0.length v_2))) fun (z2:List Qls)=>
      some ((z2,()),())
     else none
    else
    bif Nat.ble (s_0.length+v_2.length) 1073741824 then
     Option.bind (Qd (List.take s_0.length (List.map some s_0++List.replicate c none))) fun (z3:List Qls)=>
     some ((z3++v_2,()),())
    else none
   else none
  else
  bif Nat.ble (0+s_0.length) ((List.map some s_0++List.replicate c none).length) then
   bif decide (IntKind.wrap .i64 (((s_0.length:Nat):Int)+(v_2.length:Int))>((((List.map some s_0++List.replicate c none).length) - 0:Nat):Int)) then
    bif decide (0≤i_1)&&decide (i_1≤((((List.map some s_0++List.replicate c none).length) - 0:Nat):Int)) then
     bif Nat.ble (0+((i_1 - 0).toNat)) ((List.map some s_0++List.replicate c none).length) then
      bif decide (0<IntKind.wrap .i64 ((IntKind.wrap .i64 (((s_0.length:Nat):Int)+(v_2.length:Int))) - i_1))&&true&&Nat.blt ((List.map some s_0++List.replicate c none).length) (((i_1 - 0).toNat)+((List.replicate ((IntKind.wrap .i64 ((IntKind.wrap .i64 (((s_0.length:Nat):Int)+(v_2.length:Int))) - i_1)).toNat) ((0,(⟨#[]⟩:ByteArray)):Int × ByteArray)).length))&&Nat.ble (((List.map some s_0++List.replicate c none).length)+((List.replicate ((IntKind.wrap .i64 ((IntKind.wrap .i64 (((s_0.length:Nat):Int)+(v_2.length:Int))) - i_1)).toNat) ((0,(⟨#[]⟩:ByteArray)):Int × ByteArray)).length)) 536870912 then
       bif (decide (0≤i_1)&&decide (i_1≤((((i_1 - 0).toNat)+((List.replicate ((IntKind.wrap .i64 ((IntKind.wrap .i64 (((s_0.length:Nat):Int)+(v_2.length:Int))) - i_1)).toNat) ((0,(⟨#[]⟩:ByteArray)):Int × ByteArray)).length):Nat):Int)))&&decide (((((i_1 - 0).toNat)+((List.replicate ((IntKind.wrap .i64 ((IntKind.wrap .i64 (((s_0.length:Nat):Int)+(v_2.length:Int))) - i_1)).toNat) ((0,(⟨#[]⟩:ByteArray)):Int × ByteArray)).length):Nat):Int)≤((((List.take ((i_1 - 0).toNat) (List.map some s_0++List.replicate c none)++List.map some (List.replicate ((IntKind.wrap .i64 ((IntKind.wrap .i64 (((s_0.length:Nat):Int)+(v_2.length:Int))) - i_1)).toNat) ((0,(⟨#[]⟩:ByteArray)):Int × ByteArray))).length) - 0:Nat):Int)) then
        bif Nat.ble ((0+i_1.toNat)+((((((i_1 - 0).toNat)+((List.replicate ((IntKind.wrap .i64 ((IntKind.wrap .i64 (((s_0.length:Nat):Int)+(v_2.length:Int))) - i_1)).toNat) ((0,(⟨#[]⟩:ByteArray)):Int × ByteArray)).length):Nat):Int) - i_1).toNat)) ((List.take ((i_1 - 0).toNat) (List.map some s_0++List.replicate c none)++List.map some (List.replicate ((IntKind.wrap .i64 ((IntKind.wrap .i64 (((s_0.length:Nat):Int)+(v_2.length:Int))) - i_1)).toNat) ((0,(⟨#[]⟩:ByteArray)):Int × ByteArray))).length) then
         bif (decide (0≤IntKind.wrap .i64 (i_1+(v_2.length:Int)))&&decide (IntKind.wrap .i64 (i_1+(v_2.length:Int))≤((((i_1 - 0).toNat)+((List.replicate ((IntKind.wrap .i64 ((IntKind.wrap .i64 (((s_0.length:Nat):Int)+(v_2.length:Int))) - i_1)).toNat) ((0,(⟨#[]⟩:ByteArray)):Int × ByteArray)).length):Nat):Int)))&&decide (((((i_1 - 0).toNat)+((List.replicate ((IntKind.wrap .i64 ((IntKind.wrap .i64 (((s_0.length:Nat):Int)+(v_2.length:Int))) - i_1)).toNat) ((0,(⟨#[]⟩:ByteArray)):Int × ByteArray)).length):Nat):Int)≤((((Q6 (List.take ((i_1 - 0).toNat) (List.map some s_0++List.replicate c none)++List.map some (List.replicate ((IntKind.wrap .i64 ((IntKind.wrap .i64 (((s_0.length:Nat):Int)+(v_2.length:Int))) - i_1)).toNat) ((0,(⟨#[]⟩:ByteArray)):Int × ByteArray))) (0+i_1.toNat) (List.take ((((((i_1 - 0).toNat)+((List.replicate ((IntKind.wrap .i64 ((IntKind.wrap .i64 (((s_0.length:Nat):Int)+(v_2.length:Int))) - i_1)).toNat) ((0,(⟨#[]⟩:ByteArray)):Int × ByteArray)).length):Nat):Int) - i_1).toNat) v_2)).length) - 0:Nat):Int)) then
          bif (decide (0≤i_1)&&decide (i_1≤((s_0.length:Nat):Int)))&&decide (((s_0.length:Nat):Int)≤((((List.map some s_0++List.replicate c none).length) - 0:Nat):Int)) then
           bif Nat.ble ((0+((IntKind.wrap .i64 (i_1+(v_2.length:Int))).toNat))+((((((i_1 - 0).toNat)+((List.replicate ((IntKind.wrap .i64 ((IntKind.wrap .i64 (((s_0.length:Nat):Int)+(v_2.length:Int))) - i_1)).toNat) ((0,(⟨#[]⟩:ByteArray)):Int × ByteArray)).length):Nat):Int) - (IntKind.wrap .i64 (i_1+(v_2.length:Int)))).toNat)) ((Q6 (List.take ((i_1 - 0).toNat) (List.map some s_0++List.replicate c none)++List.map some (List.replicate ((IntKind.wrap .i64 ((IntKind.wrap .i64 (((s_0.length:Nat):Int)+(v_2.length:Int))) - i_1)).toNat) ((0,(⟨#[]⟩:ByteArray)):Int × ByteArray))) (0+i_1.toNat) (List.take ((((((i_1 - 0).toNat)+((List.replicate ((IntKind.wrap .i64 ((IntKind.wrap .i64 (((s_0.length:Nat):Int)+(v_2.length:Int))) - i_1)).toNat) ((0,(⟨#[]⟩:ByteArray)):Int × ByteArray)).length):Nat):Int) - i_1).toNat) v_2)).length) then
            bif Nat.ble ((0+i_1.toNat)+((((s_0.length:Nat):Int) - i_1).toNat)) ((List.map some s_0++List.replicate c none).length) then
            Option.bind (Qd (List.take (min ((((((i_1 - 0).toNat)+((List.replicate ((IntKind.wrap .i64 ((IntKind.wrap .i64 (((s_0.length:Nat):Int)+(v_2.length:Int))) - i_1)).toNat) ((0,(⟨#[]⟩:ByteArray)):Int × ByteArray)).length):Nat):Int) - (IntKind.wrap .i64 (i_1+(v_2.length:Int)))).toNat) ((((s_0.length:Nat):Int) - i_1).toNat)) (List.drop (0+i_1.toNat) (List.map some s_0++List.replicate c none)))) fun (z4:List Qls)=>
            bif Nat.ble (((i_1 - 0).toNat)+((List.replicate ((IntKind.wrap .i64 ((IntKind.wrap .i64 (((s_0.length:Nat):Int)+(v_2.length:Int))) - i_1)).toNat) ((0,(⟨#[]⟩:ByteArray)):Int × ByteArray)).length)) ((Q6 (Q6 (List.take ((i_1 - 0).toNat) (List.map some s_0++List.replicate c none)++List.map some (List.replicate ((IntKind.wrap .i64 ((IntKind.wrap .i64 (((s_0.length:Nat):Int)+(v_2.length:Int))) - i_1)).toNat) ((0,(⟨#[]⟩:ByteArray)):Int × ByteArray))) (0+i_1.toNat) (List.take ((((((i_1 - 0).toNat)+((List.replicate ((IntKind.wrap .i64 ((IntKind.wrap .i64 (((s_0.length:Nat):Int)+(v_2.length:Int))) - i_1)).toNat) ((0,(⟨#[]⟩:ByteArray)):Int × ByteArray)).length):Nat):Int) - i_1).toNat) v_2)) (0+((IntKind.wrap .i64 (i_1+(v_2.length:Int))).toNat)) z4).length) then
            Option.bind (Qd (List.take (((i_1 - 0).toNat)+((List.replicate ((IntKind.wrap .i64 ((IntKind.wrap .i64 (((s_0.length:Nat):Int)+(v_2.length:Int))) - i_1)).toNat) ((0,(⟨#[]⟩:ByteArray)):Int × ByteArray)).length)) (Q6 (Q6 (List.take ((i_1 - 0).toNat) (List.map some s_0++List.replicate c none)++List.map some (List.replicate ((IntKind.wrap .i64 ((IntKind.wrap .i64 (((s_0.length:Nat):Int)+(v_2.length:Int))) - i_1)).toNat) ((0,(⟨#[]⟩:ByteArray)):Int × ByteArray))) (0+i_1.toNat) (List.take ((((((i_1 - 0).toNat)+((List.replicate ((IntKind.wrap .i64 ((IntKind.wrap .i64 (((s_0.length:Nat):Int)+(v_2.length:Int))) - i_1)).toNat) ((0,(⟨#[]⟩:ByteArray)):Int × ByteArray)).length):Nat):Int) - i_1).toNat) v_2)) (0+((IntKind.wrap .i64 (i_1+(v_2.length:Int))).toNat)) z4))) fun (z5:List Qls)=>
            some ((z5,()),())
            else none
            else none
           else none
          else none
         else none
        else none
       else none
      else none
     else none
    else none
   else
   bif decide (0≤IntKind.wrap .i64 (((s_0.length:Nat):Int)+(v_2.length:Int)))&&decide (IntKind.wrap .i64 (((s_0.length:Nat):Int)+(v_2.length:Int))≤((((List.map some s_0++List.replicate c none).length) - 0:Nat):Int)) then
    bif (decide (0≤IntKind.wrap .i64 (i_1+(v_2.length:Int)))&&decide (IntKind.wrap .i64 (i_1+(v_2.length:Int))≤((((IntKind.wrap .i64 (((s_0.length:Nat):Int)+(v_2.length:Int))) - 0).toNat:Nat):Int)))&&decide (((((IntKind.wrap .i64 (((s_0.length:Nat):Int)+(v_2.length:Int))) - 0).toNat:Nat):Int)≤((((List.map some s_0++List.replicate c none).length) - 0:Nat):Int)) then
     bif (decide (0≤IntKind.wrap .i64 (i_1+(v_2.length:Int)))&&decide (IntKind.wrap .i64 (i_1+(v_2.length:Int))≤((((IntKind.wrap .i64 (((s_0.length:Nat):Int)+(v_2.length:Int))) - 0).toNat:Nat):Int)))&&decide (((((IntKind.wrap .i64 (((s_0.length:Nat):Int)+(v_2.length:Int))) - 0).toNat:Nat):Int)≤((((List.map some s_0++List.replicate c none).length) - 0:Nat):Int)) then
      bif (decide (0≤i_1)&&decide (i_1≤((((IntKind.wrap .i64 (((s_0.length:Nat):Int)+(v_2.length:Int))) - 0).toNat:Nat):Int)))&&decide (((((IntKind.wrap .i64 (((s_0.length:Nat):Int)+(v_2.length:Int))) - 0).toNat:Nat):Int)≤((((List.map some s_0++List.replicate c none).length) - 0:Nat):Int)) then
       bif Nat.ble ((0+((IntKind.wrap .i64 (i_1+(v_2.length:Int))).toNat))+((((((IntKind.wrap .i64 (((s_0.length:Nat):Int)+(v_2.length:Int))) - 0).toNat:Nat):Int) - (IntKind.wrap .i64 (i_1+(v_2.length:Int)))).toNat)) ((List.map some s_0++List.replicate c none).length) then
        bif Nat.ble ((0+i_1.toNat)+((((((IntKind.wrap .i64 (((s_0.length:Nat):Int)+(v_2.length:Int))) - 0).toNat:Nat):Int) - i_1).toNat)) ((List.map some s_0++List.replicate c none).length) then
         Option.bind (Qd (List.take (min ((((((IntKind.wrap .i64 (((s_0.length:Nat):Int)+(v_2.length:Int))) - 0).toNat:Nat):Int) - (IntKind.wrap .i64 (i_1+(v_2.length:Int)))).toNat) ((((((IntKind.wrap .i64 (((s_0.length:Nat):Int)+(v_2.length:Int))) - 0).toNat:Nat):Int) - i_1).toNat)) (List.drop (0+i_1.toNat) (List.map some s_0++List.replicate c none)))) fun (z6:List Qls)=>
         bif (decide (0≤i_1)&&decide (i_1≤((((IntKind.wrap .i64 (((s_0.length:Nat):Int)+(v_2.length:Int))) - 0).toNat:Nat):Int)))&&decide (((((IntKind.wrap .i64 (((s_0.length:Nat):Int)+(v_2.length:Int))) - 0).toNat:Nat):Int)≤((((Q6 (List.map some s_0++List.replicate c none) (0+((IntKind.wrap .i64 (i_1+(v_2.length:Int))).toNat)) z6).length) - 0:Nat):Int)) then
          bif Nat.ble ((0+i_1.toNat)+((((((IntKind.wrap .i64 (((s_0.length:Nat):Int)+(v_2.length:Int))) - 0).toNat:Nat):Int) - i_1).toNat)) ((Q6 (List.map some s_0++List.replicate c none) (0+((IntKind.wrap .i64 (i_1+(v_2.length:Int))).toNat)) z6).length) then
           bif Nat.ble (((IntKind.wrap .i64 (((s_0.length:Nat):Int)+(v_2.length:Int))) - 0).toNat) ((Q6 (Q6 (List.map some s_0++List.replicate c none) (0+((IntKind.wrap .i64 (i_1+(v_2.length:Int))).toNat)) z6) (0+i_1.toNat) (List.take ((((((IntKind.wrap .i64 (((s_0.length:Nat):Int)+(v_2.length:Int))) - 0).toNat:Nat):Int) - i_1).toNat) v_2)).length) then
            Option.bind (Qd (List.take (((IntKind.wrap .i64 (((s_0.length:Nat):Int)+(v_2.length:Int))) - 0).toNat) (Q6 (Q6 (List.map some s_0++List.replicate c none) (0+((IntKind.wrap .i64 (i_1+(v_2.length:Int))).toNat)) z6) (0+i_1.toNat) (List.take ((((((IntKind.wrap .i64 (((s_0.length:Nat):Int)+(v_2.length:Int))) - 0).toNat:Nat):Int) - i_1).toNat) v_2)))) fun (z7:List Qls)=>
            some ((z7,()),())
           else none
          else none
         else none
        else none
       else none
      else none
     else none
    else none
   else none
  else none
 else none
theorem Z4k (c:Nat) (s_0:List Qls) (i_1:Int) (v_2:List Qls):Qde Qyw tab { Qy4 with cap:=c } 1 [.ownc 59 t58,.val t2,.own 59 t58] [⟨t32,[true],none⟩] Tryz.f192 (s_0,i_1,v_2,())=Qzf c s_0 i_1 v_2:=by kernel_rfl
theorem Z52 (c:Nat) (s_0:List Qls) (i_1:Int) (v_2:List Qls):Qzf c s_0 i_1 v_2=Qei ((0,(⟨#[]⟩:ByteArray)):Int × ByteArray) c s_0 i_1 v_2:=by kernel_rfl
noncomputable def Qvj (s_0:List Qls) (i_1:Int) (v_2:List Qls):Option ((Qlg × Unit) × Unit):=Qeg s_0 i_1 v_2
noncomputable def Z82:Ent:=⟨[.ownc 59 t58,.val t2,.own 59 t58],[⟨t32,[true],none⟩],fun x=>Qvj x.1 x.2.1 x.2.2.1⟩
theorem Z4u:Q4u tab.ty Tryz.prog 192 Z82:=by
  refine Qgs (Γ:=Qyw) (fi:=Qy4) (n:=1) follows (Qjy (Qjx Tryz.func192 (by kernel_rfl) (by kernel_rfl)) Qk3) Zfg Tryz.func192 (by kernel_rfl) (by kernel_rfl) (fun c x r hc h=>?_)
  obtain ⟨s_0,i_1,v_2,_u⟩:=x
  exact (Z4k c s_0 i_1 v_2).trans ((Z52 c s_0 i_1 v_2).trans (Qin ((0,(⟨#[]⟩:ByteArray)):Int × ByteArray) c s_0 i_1 v_2 r hc h))
noncomputable def Zhm (l_0:List Qls) (next_1:Int) (i_2:Int × ByteArray):Option ((Qlg × Bool × Unit) × Unit):=
 Option.bind (Qkj l_0) fun r1=>
 Option.bind (Ql0 l_0 i_2.1 (fun x=>(Z98 x.1 x.2.1).bind fun r=>some (r.1.1,()))) fun r2=>
 bif r2.1.2.1 then
  some ((r1.1.1,false,()),())
 else
 bif decide (i_2.1<next_1) then
  some ((r1.1.1,false,()),())
 else
 bif decide (IntKind.wrap .i64 (i_2.1 - next_1) ≥ 8) then
  some ((r1.1.1,false,()),())
 else
  Option.bind (Qvj r1.1.1 r2.1.1 [i_2]) fun r3=>
  some ((r3.1.1,true,()),())
noncomputable def Zod:Ent:=⟨[.val t32,.val t2,.val t58],[⟨t32,[true],none⟩,⟨t4,[false],none⟩],fun x=>Zhm x.1 x.2.1 x.2.2.1⟩
theorem Zja:GD 160 Zod:=fnk 1 (fo [[0,1,5,22,23,24,25,28,29,30,31,32],[0,1,5,8,22,23,24,25,28,29,30,31,32],[1,5,8,9,10,22,23,24,25,28,29,30,31,32],[5,8,9,33],[6,7],[6,7]]) (Qjy Qma (Qjy Qn9 (Qjy Zdt (Qjy Z4u Qk3)))) Tryz.func160
noncomputable def Zb8 (f_0:Int × Int × Qlg × Qlg × Qtb × Int × Int):Option ((Z5r × Unit) × Unit):=
 Option.bind (Qkj f_0.2.2.1) fun r1=>
 Option.bind (Qkj (g3 f_0)) fun r2=>
 Option.bind (Ql5 (g4 f_0)) fun r3=>
 some (((u4 (u3 (u2 f_0 r1.1.1) r2.1.1) r3.1.1),()),())
noncomputable def Zh7:Ent:=⟨[.val t36],[⟨t36,[false,false,true,true,true,false,false],none⟩],fun x=>Zb8 x.1⟩
theorem Z9u:GD 163 Zh7:=fnk 1 (fo [[1,2],[1,2],[2]]) (Qjy Qma (Qjy Qlx Qk3)) Tryz.func163
noncomputable def Za1 (l_0:List Qls):Option ((Int × Unit) × Unit):=
 bif (l_0.length:Int)==0 then
  some ((0,()),())
 else
 bif decide (0<(l_0.length:Int)) then
  some (((List.getD l_0 0 (0,(⟨#[]⟩:ByteArray))).1,()),())
 else none
noncomputable def Zkj:Ent:=⟨[.val t32],[⟨t2,[false],none⟩],fun x=>Za1 x.1⟩
theorem Zg1:GD 162 Zkj:=fnk 1 (fo [[0],[0,5],[2],[2]]) Qk3 Tryz.func162
noncomputable def Z4f (l_0:List Qls) (next_1:Int):Option ((Qlg × Qls × Bool × Unit) × Unit):=
 Option.bind (Qkj l_0) fun r1=>
 Option.bind (Za1 l_0) fun r2=>
 bif r2.1.1 != next_1 then
  some ((r1.1.1,(0,(⟨#[]⟩:ByteArray)),false,()),())
 else
 bif (l_0.length:Int)==0 then
  some ((r1.1.1,(0,(⟨#[]⟩:ByteArray)),false,()),())
 else
 bif decide (1≤(r1.1.1.length:Int))&&decide ((r1.1.1.length:Int)≤(r1.1.1.length:Int)) then
  bif decide (0<(l_0.length:Int)) then
   some ((List.drop 1 (List.take ((r1.1.1.length:Int).toNat) r1.1.1),(List.getD l_0 0 (0,(⟨#[]⟩:ByteArray))),true,()),())
  else none
 else none
noncomputable def Zgp:Ent:=⟨[.val t32,.val t2],[⟨t32,[false],none⟩,⟨t58,[false,false],none⟩,⟨t4,[false],none⟩],fun x=>Z4f x.1 x.2.1⟩
theorem Zhu:GD 195 Zgp:=fnk 1 (fo [[0,1,5,14,15,16],[0,1,4,5,14,15,16],[0,4,5,17],[4,5,6],[4,5,6]]) (Qjy Qma (Qjy Zg1 Qk3)) Tryz.func195
noncomputable def Qr5  : Option (((Int × Int) × Unit) × Unit):=
 some (((0,0),()),())
noncomputable def Z6m:Ent:=⟨[],[⟨t34,[false,false],none⟩],fun x=>Qr5⟩
theorem Z6x:GD 167 Z6m:=fnk 1 (fo [[0],[0]]) Qk3 Tryz.func167
abbrev Qrw:Type:=(Z5r × Qlg × Unit) × Unit
noncomputable def Zew:Ctx:=[(121,Zgy),(122,Zhf),(167,Z6m),(195,Zgp)]
def Z72:Fi:={ keep:=[],vty:=[(4,32)],vals:=[],live:=[(0,[1,2]),(1,[1,2,4]),(2,[1,2,4,5,6,7]),(3,[1,2,4,5,6,18]),(4,[1,2,4,6]),(5,[1,2,4,6]),(6,[1,2,4]),(7,[1,2,4,44]),(8,[1,2,4]),(9,[2,3])] }
abbrev Zcs:Type:=Int→Int→Qlg→Qlg→Qtb→Int→Int→Int→Int→Int→Int→Qlg→Qlg→Qtb→Qlg→Option Qrw
abbrev Z6y:Type:=Int→Int→Qlg→Int→Int→Qlg→Qtb→Int→Int→Int→Int→Qlg→Qlg→Qtb→Qlg→Option Qrw
noncomputable def Zdb (L2:Z6y) (v1 v2:Int) (v3 v4:List Qls) (v5:List Qrc) (v6 v7 v8 v9 v10 v11:Int) (v12 v13:List Qls) (v14:List Qrc) (v15:List Qls):Option Qrw:=
 Option.bind (Z4f v4 v1) fun r16=>
 bif !r16.1.2.2.1 then
  bif decide ((v15.length:Int)>0) then
   Option.bind (Qr5) fun r17=>
   some (((v1,v2,v3,v4,v5,r17.1.1),v15,()),())
  else
   some (((v1,v2,v3,v4,v5,v6,v7),v15,()),())
 else
  Option.bind (Z7n v5 r16.1.2.1.1 r16.1.2.1.2) fun r18=>
  Option.bind (Z7w v3 r16.1.2.1) fun r19=>
  bif Nat.ble (v15.length+1) 1073741824 then
   L2 (IntKind.wrap .i64 (v1+1)) v2 r16.1.1 v6 v7 r19.1.1 r18.1.1 v8 v9 v10 v11 v12 v13 v14 (v15++[r16.1.2.1])
  else none
noncomputable def Qy5 (L2:Z6y) (v20 v21:Int) (v22:List Qls) (v23 v24:Int) (v25:List Qls) (v26:List Qrc) (v27 v28 v29 v30:Int) (v31 v32:List Qls) (v33:List Qrc) (v34:List Qls):Option Qrw:=
 Option.bind (Z4f v22 v20) fun r35=>
 bif !r35.1.2.2.1 then
  bif decide ((v34.length:Int)>0) then
   Option.bind (Qr5) fun r36=>
   some (((v20,v21,v25,v22,v26,r36.1.1),v34,()),())
  else
   some (((v20,v21,v25,v22,v26,v23,v24),v34,()),())
 else
  Option.bind (Z7n v26 r35.1.2.1.1 r35.1.2.1.2) fun r37=>
  Option.bind (Z7w v25 r35.1.2.1) fun r38=>
  bif Nat.ble (v34.length+1) 1073741824 then
   L2 (IntKind.wrap .i64 (v20+1)) v21 r35.1.1 v23 v24 r38.1.1 r37.1.1 v27 v28 v29 v30 v31 v32 v33 (v34++[r35.1.2.1])
  else none
noncomputable def Zfj (L1:Zcs) (f_0:Int × Int × Qlg × Qlg × Qtb × Int × Int):Option Qrw:=
 L1 f_0.1 f_0.2.1 f_0.2.2.1 (g3 f_0) (g4 f_0) (g5 f_0) (h6 f_0) 0 0 0 0 [] [] [] []
noncomputable def Qra (n:Nat):Nat→Z6y:=iter (fun _ _ _ _ _ _ _ _ _ _ _ _ _ _ _=>none) fun L=>Qy5 L
noncomputable def Z1m (n:Nat):Nat→Zcs:=Qjg (fun _ _ _ _ _ _ _ _ _ _ _ _ _ _ _=>none) fun m L=>Zdb (Qra n m)
noncomputable def Z6a (n m:Nat) (v1 v2:Int) (v3 v4:List Qls) (v5:List Qrc) (v6 v7 v8 v9 v10 v11:Int) (v12 v13:List Qls) (v14:List Qrc) (v15:List Qls):Option Qrw:=
 Qjv Zew tab (fiB [.val t36] Z72) n [.val t36] [⟨t36,(nF 7),none⟩,⟨t32,[true],none⟩] Tryz.f166 [1,1,0,0] [] [1,2,4] m
 ⟨[(1,V1 (.ptr (1,0) 0)),(2,V1 (.ptr (2,0) 0)),(4,V1 (.ref (888888,4)))],[((1,0),Ob.box 37 [LV.pure t2 v1,LV.pure t2 v2,LV.pure t32 v3,LV.pure t32 v4,LV.pure t33 v5,LV.pure t2 v6,LV.pure t2 v7]),((2,0),Ob.box 37 [LV.pure t2 v8,LV.pure t2 v9,LV.ref (2,3),LV.ref (2,4),LV.ref (2,5),LV.pure t2 v10,LV.pure t2 v11]),((2,3),Ob.row 59 t58 v12),((2,4),Ob.row 59 t58 v13),((2,5),Ob.row 55 t54 v14),((888888,4),Ob.row 59 t58 v15)]⟩
noncomputable def Z26 (n m:Nat) (v20 v21:Int) (v22:List Qls) (v23 v24:Int) (v25:List Qls) (v26:List Qrc) (v27 v28 v29 v30:Int) (v31 v32:List Qls) (v33:List Qrc) (v34:List Qls):Option Qrw:=
 Qjv Zew tab (fiB [.val t36] Z72) n [.val t36] [⟨t36,(nF 7),none⟩,⟨t32,[true],none⟩] Tryz.f166 [1,1,0,0] [] [1,2,4] m
 ⟨[(1,V1 (.ptr (1,0) 0)),(2,V1 (.ptr (2,0) 0)),(4,V1 (.ref (888888,4)))],[((1,0),Ob.box 37 [LV.pure t2 v20,LV.pure t2 v21,LV.ref (1,3),LV.pure t32 v22,LV.ref (1,5),LV.pure t2 v23,LV.pure t2 v24]),((1,3),Ob.row 59 t58 v25),((1,5),Ob.row 55 t54 v26),((2,0),Ob.box 37 [LV.pure t2 v27,LV.pure t2 v28,LV.ref (2,3),LV.ref (2,4),LV.ref (2,5),LV.pure t2 v29,LV.pure t2 v30]),((2,3),Ob.row 59 t58 v31),((2,4),Ob.row 59 t58 v32),((2,5),Ob.row 55 t54 v33),((888888,4),Ob.row 59 t58 v34)]⟩
theorem Za2 (n:Nat):∀ m,Z26 n m=Qra n m
 | 0=>rfl
 | m+1=>by rw [show Z26 n (m+1)=Qy5 (Z26 n m) from by kernel_rfl,Za2 n m];rfl
theorem Zi4 (n:Nat):∀ m,Z6a n m=Z1m n m
 | 0=>rfl
 | m+1=>by rw [show Z6a n (m+1)=Zdb (Z26 n m) from by kernel_rfl,Za2 n m];rfl
noncomputable def Zfd (n:Nat) (f_0:Int × Int × Qlg × Qlg × Qtb × Int × Int):Option Qrw:=Zfj (Z1m n n) f_0
noncomputable def Z0h (f_0:Int × Int × Qlg × Qlg × Qtb × Int × Int):Option Qrw:=Zfd 1099511627776 f_0
noncomputable def Zex:Ent:=⟨[.val t36],[⟨t36,(nF 7),none⟩,⟨t32,[true],none⟩],fun x=>Z0h x.1⟩
theorem Z8q:GD 166 Zex:=fnl Z72 (fun n x=>Zfd n x.1) (Qjy Zb6 (Qjy Zbo (Qjy Z6x (Qjy Zhu Qk3)))) Tryz.func166 fun n x=>Eq.trans (b:=Zfj (Z6a n n) x.1) (by kernel_rfl) (by rw [Zi4 n n];rfl)
noncomputable def Za3 (f_0:Int × Int × Qlg × Qlg × Qtb × Int × Int):Option ((Z5r × Qlg × Unit) × Unit):=
 Option.bind (Zb8 f_0) fun r1=>
 Option.bind (Z0h r1.1.1) fun r2=>
 some ((r2.1.1,r2.1.2.1,()),())
noncomputable def Zmz:Ent:=⟨[.val t36],[⟨t36,(nF 7),none⟩,⟨t32,[true],none⟩],fun x=>Za3 x.1⟩
theorem Zaa:GD 119 Zmz:=fnk 1 (fo [[1,2],[2,3]]) (Qjy Z9u (Qjy Z8q Qk3)) Tryz.func119
noncomputable def Z7t (f_0:Int × Int × Qlg × Qlg × Qtb × Int × Int) (i_1:Int × ByteArray):Option ((Z5r × Unit) × Unit):=
 bif f_0.1==0 then
  Option.bind (Qq5 f_0) fun r1=>
  some ((r1.1.1,()),())
 else
 bif decide (i_1.1<1) then
  Option.bind (Qq5 f_0) fun r2=>
  some ((r2.1.1,()),())
 else
 bif decide (i_1.1>1000000) then
  Option.bind (Qq5 f_0) fun r3=>
  some ((r3.1.1,()),())
 else
 bif decide ((i_1.2.size:Int)>12) then
  Option.bind (Qq5 f_0) fun r4=>
  some ((r4.1.1,()),())
 else
  Option.bind (Qts f_0 i_1.1) fun r5=>
  Option.bind (Zhm (g3 r5.1.1) r5.1.1.1 i_1) fun r6=>
  Option.bind (Za3 (u3 r5.1.1 r6.1.1)) fun r7=>
  some ((r7.1.1,()),())
noncomputable def Zje:Ent:=⟨[.val t36,.val t58],[⟨t36,(nF 7),none⟩],fun x=>Z7t x.1 x.2.1⟩
theorem Zfu:GD 102 Zje:=fnk 1 (fo [[2,3,4,9,10,11,14,15,16,19,20,21,22],[2,3,4,23],[4],[2,3,4],[2,4],[2,4],[4]]) (Qjy Qwe (Qjy Qu7 (Qjy Zaa (Qjy Zja Qk3)))) Tryz.func102
abbrev Qly:Type:=(Int × Unit) × Unit
noncomputable def Z4d:Ctx:=[]
def Qva:Fi:=fo [[0,1],[0,1,7,8],[0,1,7,8,9],[0,1,5,7,8],[0,1,5,7,8,16],[4],[0,1,7,8],[4]]
abbrev Qr3:Type:=Qlg→(Qls × Unit→Option (Bool × Unit))→Int→Int→Option Qly
noncomputable def Qlm (L1:Qr3) (v1:List Qls) (v2:(Qls × Unit→Option (Bool × Unit))) (v3 v4:Int):Option Qly:=
 bif decide (v4<v3) then
  bif decide (0≤v4)&&decide (v4<(v1.length:Int)) then
   Option.bind (v2 ((List.getD v1 v4.toNat (0,(⟨#[]⟩:ByteArray))),())) fun r5=>
   bif r5.1 then
    some ((v4,()),())
   else
    L1 v1 v2 v3 (IntKind.wrap .i64 (v4+1))
  else none
 else
  some (((-1),()),())
noncomputable def Qw2 (L1:Qr3) (s_0:List Qls) (f_1:(Qls × Unit→Option (Bool × Unit))):Option Qly:=
 L1 s_0 f_1 (s_0.length:Int) 0
noncomputable def Ql3 (n:Nat):Nat→Qr3:=iter (fun _ _ _ _=>none) fun L=>Qlm L
noncomputable def Qod (n m:Nat) (v1:List Qls) (v2:(Qls × Unit→Option (Bool × Unit))) (v3 v4:Int):Option Qly:=
 Qjv Z4d tab (fiB [.val t32,.fn [t58] [t4]] Qva) n [.val t32,.fn [t58] [t4]] [⟨t2,[false],none⟩] Tryz.f193 [1,0,1,0] [] [0,1,7,8] m
 ⟨[(0,Vp t32 v1),(1,V1 (.clo [t58] [t4] v2)),(7,Vp t2 v3),(8,Vp t2 v4)],[]⟩
theorem Qub (n:Nat):∀ m,Qod n m=Ql3 n m
 | 0=>rfl
 | m+1=>by rw [show Qod n (m+1)=Qlm (Qod n m) from by kernel_rfl,Qub n m];rfl
noncomputable def Qwd (n:Nat) (s_0:List Qls) (f_1:(Qls × Unit→Option (Bool × Unit))):Option Qly:=Qw2 (Ql3 n n) s_0 f_1
noncomputable def Qt7 (s_0:List Qls) (f_1:(Qls × Unit→Option (Bool × Unit))):Option Qly:=Qwd 1099511627776 s_0 f_1
noncomputable def Z4o:Ent:=⟨[.val t32,.fn [t58] [t4]],[⟨t2,[false],none⟩],fun x=>Qt7 x.1 x.2.1⟩
theorem Z1b:GD 193 Z4o:=fnl Qva (fun n x=>Qwd n x.1 x.2.1) Qk3 Tryz.func193 fun n x=>Eq.trans (b:=Qw2 (Qod n n) x.1 x.2.1) (by kernel_rfl) (by rw [Qub n n];rfl)
noncomputable def Zbl (i_0:Int × ByteArray) (x_1:Int × Int × Qlg × Qlg × Qtb × Int × Int):Option ((Bool × Unit) × Unit):=
 some ((decide (i_0.1 ≥ x_1.1),()),())
noncomputable def Zey:Ent:=⟨[.val t58,.rbox t36],[⟨t4,[false],none⟩],fun x=>Zbl x.1 x.2.1⟩
theorem Zaw:GD 194 Zey:=fnk 1 (fo [[1,2],[3]]) Qk3 Tryz.func194
noncomputable def Z7k (f_0:Int × Int × Qlg × Qlg × Qtb × Int × Int) (hi_1:Int):Option ((Int × Bool × Unit) × Unit):=
 Option.bind (Qt7 (g3 f_0) (fun x=>(Zbl x.1 f_0).bind fun r=>some (r.1.1,()))) fun r1=>
 bif decide (r1.1.1<0) then
  some ((hi_1,false,()),())
 else
 bif decide (0≤r1.1.1)&&decide (r1.1.1<((g3 f_0).length:Int)) then
  bif decide ((List.getD (g3 f_0) r1.1.1.toNat (0,(⟨#[]⟩:ByteArray))).1>hi_1) then
   some ((hi_1,false,()),())
  else
  bif decide (0≤r1.1.1)&&decide (r1.1.1<((g3 f_0).length:Int)) then
   some ((IntKind.wrap .i64 (((List.getD (g3 f_0) r1.1.1.toNat (0,(⟨#[]⟩:ByteArray))).1) - 1),true,()),())
  else none
 else none
noncomputable def Zeq:Ent:=⟨[.val t36,.val t2],[⟨t2,[false],none⟩,⟨t4,[false],none⟩],fun x=>Z7k x.1 x.2.1⟩
theorem Zgd:GD 164 Zeq:=fnk 1 (fo [[1,2,14,15,16,17,18,19,20,21],[1,2,6,14,15,16,17,18,19,20,21],[1,2,6,22],[4,5],[4,5]]) (Qjy Z1b (Qjy Zaw Qk3)) Tryz.func164
noncomputable def Zba (l_0:List Qrc) (lo_1 hi_2 why_3:Int):Option ((Qtb × Unit) × Unit):=
 Option.bind (Ql5 l_0) fun r1=>
 bif Nat.ble (r1.1.1.length+1) 1073741824 then
  some ((r1.1.1++[(2,lo_1,hi_2,(⟨#[]⟩:ByteArray),why_3)],()),())
 else none
noncomputable def Zgx:Ent:=⟨[.val t33,.val t2,.val t2,.val t2],[⟨t33,[true],none⟩],fun x=>Zba x.1 x.2.1 x.2.2.1 x.2.2.2.1⟩
theorem Zhk:GD 165 Zgx:=fnk 1 (fo [[0,1,2,3],[8]]) (Qjy Qlx Qk3) Tryz.func165
abbrev Qqh:Type:=(Z5r × Zg9 × Unit) × Unit
noncomputable def Zej:Ctx:=[(163,Zh7),(164,Zeq),(165,Zgx),(166,Zex),(167,Z6m)]
def Z77:Fi:={ keep:=[],vty:=[(8,146)],vals:=[],live:=[(0,[1,2,3,6,20,21]),(1,[1,2,3,6,20,21]),(2,[1,2,3,6,22]),(3,[6,7]),(4,[1,2,3,6,8]),(5,[1,2,3,6,8,9]),(6,[1,2,3,6,8,9,29]),(7,[1,2,3,6,8,9,10,11]),(8,[1,2,3,6,8,9,10,11,39]),(9,[1,2,3,6,8,9,10,11]),(10,[1,2,3,6,8,9,10,11]),(11,[1,2,3,6,8,9,11]),(12,[1,2,3,6,8,9,59]),(13,[1,2,3,6,8,9,12,13]),(14,[1,2,3,6,8,9,13]),(15,[1,2,3,6,8,9,68]),(16,[3,6,8,72]),(17,[3,6,8]),(18,[6,7])] }
abbrev Zde:Type:=Int→Int→Int→Int→Int→Int→Int→Qlg→Qlg→Qtb→Int→Int→Int→Int→Qlg→Qlg→Qtb→Zg9→Option Qqh
abbrev Z6l:Type:=Int→Int→Int→Int→Int→Qlg→Qlg→Qtb→Int→Int→Int→Int→Int→Int→Qlg→Qlg→Qtb→Zg9→Option Qqh
noncomputable def Qy7 (v5 v4 v6:Int) (v9 v10:List Qls) (v11:List Qrc) (v19:List (Int × Int)) (v7 v8:Int):Option Qqh:=
 bif v5 != v4 then
  Option.bind (Qr5) fun r52=>
  some (((v5,v6,v9,v10,v11,r52.1.1),v19,()),())
 else
  some (((v5,v6,v9,v10,v11,v7,v8),v19,()),())
noncomputable def Zcz (L2:Z6l) (v2 v3 v4 v5 v6 v7 v8:Int) (v9 v10:List Qls) (v11:List Qrc) (v12 v13 v14 v15:Int) (v16 v17:List Qls) (v18:List Qrc) (v19:List (Int × Int)):Option Qqh:=
 bif decide (v5≤v2) then
  Option.bind (Z7k (v5,v6,v9,v10,v11,v7,v8) v2) fun r20=>
  bif decide (r20.1.1 ≥ v5) then
   Option.bind (Zba v11 v5 r20.1.1 v3) fun r21=>
   bif Nat.ble (v19.length+1) 1073741824 then
    bif !r20.1.2.1 then
     bif (IntKind.wrap .i64 (r20.1.1+1)) != v4 then
      Option.bind (Qr5) fun r22=>
      some (((IntKind.wrap .i64 (r20.1.1+1),v6,v9,v10,r21.1.1,r22.1.1),v19++[(v5,r20.1.1)],()),())
     else
      some (((IntKind.wrap .i64 (r20.1.1+1),v6,v9,v10,r21.1.1,v7,v8),v19++[(v5,r20.1.1)],()),())
    else
     Option.bind (Z0h (IntKind.wrap .i64 (r20.1.1+1),v6,v9,v10,r21.1.1,v7,v8)) fun r23=>
     bif (r23.1.2.1.length:Int)==0 then
      bif r23.1.1.1 != v4 then
       Option.bind (Qr5) fun r24=>
       some (((e5 r23.1.1 r24.1.1),v19++[(v5,r20.1.1)],()),())
      else
       some ((r23.1.1,v19++[(v5,r20.1.1)],()),())
     else
      L2 v2 v3 v4 r23.1.1.1 r23.1.1.2.1 r23.1.1.2.2.1 (g3 r23.1.1) (g4 r23.1.1) (g5 r23.1.1) (h6 r23.1.1) v12 v13 v14 v15 v16 v17 v18 (v19++[(v5,r20.1.1)])
   else none
  else
  bif !r20.1.2.1 then
   Qy7 v5 v4 v6 v9 v10 v11 v19 v7 v8
  else
   Option.bind (Z0h (v5,v6,v9,v10,v11,v7,v8)) fun r53=>
   bif (r53.1.2.1.length:Int)==0 then
    bif r53.1.1.1 != v4 then
     Option.bind (Qr5) fun r54=>
     some (((e5 r53.1.1 r54.1.1),v19,()),())
    else
     some ((r53.1.1,v19,()),())
   else
    L2 v2 v3 v4 r53.1.1.1 r53.1.1.2.1 r53.1.1.2.2.1 (g3 r53.1.1) (g4 r53.1.1) (g5 r53.1.1) (h6 r53.1.1) v12 v13 v14 v15 v16 v17 v18 v19
 else
  Qy7 v5 v4 v6 v9 v10 v11 v19 v7 v8
noncomputable def Qq8 (L2:Z6l) (v25 v26 v27 v28 v29:Int) (v30 v31:List Qls) (v32:List Qrc) (v33 v34 v35 v36 v37 v38:Int) (v39 v40:List Qls) (v41:List Qrc) (v42:List (Int × Int)):Option Qqh:=
 bif decide (v28≤v25) then
  Option.bind (Z7k (v28,v29,v30,v31,v32,v33,v34) v25) fun r43=>
  bif decide (r43.1.1 ≥ v28) then
   Option.bind (Zba v32 v28 r43.1.1 v26) fun r44=>
   bif Nat.ble (v42.length+1) 1073741824 then
    bif !r43.1.2.1 then
     bif (IntKind.wrap .i64 (r43.1.1+1)) != v27 then
      Option.bind (Qr5) fun r45=>
      some (((IntKind.wrap .i64 (r43.1.1+1),v29,v30,v31,r44.1.1,r45.1.1),v42++[(v28,r43.1.1)],()),())
     else
      some (((IntKind.wrap .i64 (r43.1.1+1),v29,v30,v31,r44.1.1,v33,v34),v42++[(v28,r43.1.1)],()),())
    else
     Option.bind (Z0h (IntKind.wrap .i64 (r43.1.1+1),v29,v30,v31,r44.1.1,v33,v34)) fun r46=>
     bif (r46.1.2.1.length:Int)==0 then
      bif r46.1.1.1 != v27 then
       Option.bind (Qr5) fun r47=>
       some (((e5 r46.1.1 r47.1.1),v42++[(v28,r43.1.1)],()),())
      else
       some ((r46.1.1,v42++[(v28,r43.1.1)],()),())
     else
      L2 v25 v26 v27 r46.1.1.1 r46.1.1.2.1 r46.1.1.2.2.1 (g3 r46.1.1) (g4 r46.1.1) (g5 r46.1.1) (h6 r46.1.1) v35 v36 v37 v38 v39 v40 v41 (v42++[(v28,r43.1.1)])
   else none
  else
  bif !r43.1.2.1 then
   Qy7 v28 v27 v29 v30 v31 v32 v42 v33 v34
  else
   Option.bind (Z0h (v28,v29,v30,v31,v32,v33,v34)) fun r49=>
   bif (r49.1.2.1.length:Int)==0 then
    bif r49.1.1.1 != v27 then
     Option.bind (Qr5) fun r50=>
     some (((e5 r49.1.1 r50.1.1),v42,()),())
    else
     some ((r49.1.1,v42,()),())
   else
    L2 v25 v26 v27 r49.1.1.1 r49.1.1.2.1 r49.1.1.2.2.1 (g3 r49.1.1) (g4 r49.1.1) (g5 r49.1.1) (h6 r49.1.1) v35 v36 v37 v38 v39 v40 v41 v42
 else
  Qy7 v28 v27 v29 v30 v31 v32 v42 v33 v34
noncomputable def Z4v (L1:Zde) (f_0:Int × Int × Qlg × Qlg × Qtb × Int × Int) (hi_1 why_2:Int):Option Qqh:=
 Option.bind (Zb8 f_0) fun r1=>
 bif decide (r1.1.1.1<1) then
  some ((r1.1.1,[],()),())
 else
 bif decide (hi_1>1000000) then
  some ((r1.1.1,[],()),())
 else
  L1 hi_1 why_2 r1.1.1.1 r1.1.1.1 r1.1.1.2.1 (g5 r1.1.1) (h6 r1.1.1) r1.1.1.2.2.1 (g3 r1.1.1) (g4 r1.1.1) 0 0 0 0 [] [] [] []
noncomputable def Qv9 (n:Nat):Nat→Z6l:=iter (fun _ _ _ _ _ _ _ _ _ _ _ _ _ _ _ _ _ _=>none) fun L=>Qq8 L
noncomputable def Qy0 (n:Nat):Nat→Zde:=Qjg (fun _ _ _ _ _ _ _ _ _ _ _ _ _ _ _ _ _ _=>none) fun m L=>Zcz (Qv9 n m)
noncomputable def Z65 (n m:Nat) (v2 v3 v4 v5 v6 v7 v8:Int) (v9 v10:List Qls) (v11:List Qrc) (v12 v13 v14 v15:Int) (v16 v17:List Qls) (v18:List Qrc) (v19:List (Int × Int)):Option Qqh:=
 Qjv Zej tab (fiB [.val t36,.val t2,.val t2] Z77) n [.val t36,.val t2,.val t2] [⟨t36,(nF 7),none⟩,⟨Zoz,[true],none⟩] Tryz.f118 [1,1,1,1,1,0,0] [] [1,2,3,6,8,9] m
 ⟨[(1,Vp t2 v2),(2,Vp t2 v3),(3,V1 (.ptr (3,0) 0)),(6,V1 (.ptr (6,0) 0)),(8,V1 (.ref (888888,8))),(9,Vp t2 v4)],[((3,0),Ob.box 37 [LV.pure t2 v5,LV.pure t2 v6,LV.ref (3,3),LV.ref (3,4),LV.ref (3,5),LV.pure t2 v7,LV.pure t2 v8]),((3,3),Ob.row 59 t58 v9),((3,4),Ob.row 59 t58 v10),((3,5),Ob.row 55 t54 v11),((6,0),Ob.box 37 [LV.pure t2 v12,LV.pure t2 v13,LV.ref (6,3),LV.ref (6,4),LV.ref (6,5),LV.pure t2 v14,LV.pure t2 v15]),((6,3),Ob.row 59 t58 v16),((6,4),Ob.row 59 t58 v17),((6,5),Ob.row 55 t54 v18),((888888,8),Ob.row 100 t34 v19)]⟩
noncomputable def Z25 (n m:Nat) (v25 v26 v27 v28 v29:Int) (v30 v31:List Qls) (v32:List Qrc) (v33 v34 v35 v36 v37 v38:Int) (v39 v40:List Qls) (v41:List Qrc) (v42:List (Int × Int)):Option Qqh:=
 Qjv Zej tab (fiB [.val t36,.val t2,.val t2] Z77) n [.val t36,.val t2,.val t2] [⟨t36,(nF 7),none⟩,⟨Zoz,[true],none⟩] Tryz.f118 [1,1,1,1,1,0,0] [] [1,2,3,6,8,9] m
 ⟨[(1,Vp t2 v25),(2,Vp t2 v26),(3,V1 (.ptr (3,0) 0)),(6,V1 (.ptr (6,0) 0)),(8,V1 (.ref (888888,8))),(9,Vp t2 v27)],[((3,0),Ob.box 37 [LV.pure t2 v28,LV.pure t2 v29,LV.pure t32 v30,LV.pure t32 v31,LV.pure t33 v32,LV.pure t2 v33,LV.pure t2 v34]),((6,0),Ob.box 37 [LV.pure t2 v35,LV.pure t2 v36,LV.ref (6,3),LV.ref (6,4),LV.ref (6,5),LV.pure t2 v37,LV.pure t2 v38]),((6,3),Ob.row 59 t58 v39),((6,4),Ob.row 59 t58 v40),((6,5),Ob.row 55 t54 v41),((888888,8),Ob.row 100 t34 v42)]⟩
theorem Z9z (n:Nat):∀ m,Z25 n m=Qv9 n m
 | 0=>rfl
 | m+1=>by rw [show Z25 n (m+1)=Qq8 (Z25 n m) from by kernel_rfl,Z9z n m];rfl
theorem Zhr (n:Nat):∀ m,Z65 n m=Qy0 n m
 | 0=>rfl
 | m+1=>by rw [show Z65 n (m+1)=Zcz (Z25 n m) from by kernel_rfl,Z9z n m];rfl
noncomputable def Zef (n:Nat) (f_0:Int × Int × Qlg × Qlg × Qtb × Int × Int) (hi_1 why_2:Int):Option Qqh:=Z4v (Qy0 n n) f_0 hi_1 why_2
noncomputable def Zfh (f_0:Int × Int × Qlg × Qlg × Qtb × Int × Int) (hi_1 why_2:Int):Option Qqh:=Zef 1099511627776 f_0 hi_1 why_2
noncomputable def Zl2:Ent:=⟨[.val t36,.val t2,.val t2],[⟨t36,(nF 7),none⟩,⟨Zoz,[true],none⟩],fun x=>Zfh x.1 x.2.1 x.2.2.1⟩
theorem Zg7:GD 118 Zl2:=fnl Z77 (fun n x=>Zef n x.1 x.2.1 x.2.2.1) (Qjy Z9u (Qjy Zgd (Qjy Zhk (Qjy Z8q (Qjy Z6x Qk3))))) Tryz.func118 fun n x=>Eq.trans (b:=Z4v (Z65 n n) x.1 x.2.1 x.2.2.1) (by kernel_rfl) (by rw [Zhr n n];rfl)
noncomputable def Z7u (f_0:Int × Int × Qlg × Qlg × Qtb × Int × Int) (lo_1 hi_2:Int):Option ((Z5r × Unit) × Unit):=
 bif f_0.1==0 then
  Option.bind (Qq5 f_0) fun r1=>
  some ((r1.1.1,()),())
 else
 bif decide (lo_1<1) then
  Option.bind (Qq5 f_0) fun r2=>
  some ((r2.1.1,()),())
 else
 bif decide (lo_1>hi_2) then
  Option.bind (Qq5 f_0) fun r3=>
  some ((r3.1.1,()),())
 else
 bif decide (hi_2>1000000) then
  Option.bind (Qq5 f_0) fun r4=>
  some ((r4.1.1,()),())
 else
 bif decide (f_0.1<lo_1) then
  Option.bind (Qts f_0 hi_2) fun r5=>
  some ((r5.1.1,()),())
 else
 bif decide (f_0.1>hi_2) then
  Option.bind (Qts f_0 hi_2) fun r6=>
  some ((r6.1.1,()),())
 else
  Option.bind (Zfh f_0 hi_2 1) fun r7=>
  Option.bind (Za3 (u1 r7.1.1 (if hi_2>r7.1.1.2.1 then hi_2 else r7.1.1.2.1))) fun r8=>
  some ((r8.1.1,()),())
noncomputable def Ziu:Ent:=⟨[.val t36,.val t2,.val t2],[⟨t36,(nF 7),none⟩],fun x=>Z7u x.1 x.2.1 x.2.2.1⟩
theorem Zf2:GD 103 Ziu:=fnk 1 (fo [[1,2,3,6,11,12,15,16,17,20,21,30,31,32,33],[1,2,3,6,22,30,31,32,33],[6],[2,3,6,34],[6],[2,3,6],[3,6],[3,6],[6]]) (Qjy Qwe (Qjy Qu7 (Qjy Zg7 (Qjy Zaa Qk3)))) Tryz.func103
noncomputable def Qzg (m_1:Int × Int × Int × Int × Int × Int × (List Int) × Int × Int × ByteArray) (n_0:Bool × Int × ByteArray × Qwg × Z5r × Int):Option ((Z5r × Unit) × Unit):=
 bif m_1.1==7 then
  Option.bind (Z7t (g4 n_0) ((g7 m_1),(h9 m_1))) fun r4=>
  some ((r4.1.1,()),())
 else
 bif m_1.1==9 then
  Option.bind (Z7u (g4 n_0) (g7 m_1) (g8 m_1)) fun r5=>
  some ((r5.1.1,()),())
 else
  some (((g4 n_0),()),())
noncomputable def Qzo (m_1:Int × Int × Int × Int × Int × Int × (List Int) × Int × Int × ByteArray) (was_2:Int) (n_0:Bool × Int × ByteArray × Qwg × Z5r × Int):Option ((Z5r × Unit) × Unit):=
 bif m_1.1==5 then
  bif was_2==m_1.2.1 then
   Option.bind (Qts (g4 n_0) (g8 m_1)) fun r3=>
   some ((r3.1.1,()),())
  else
   Qzg m_1 n_0
 else
  Qzg m_1 n_0
noncomputable def Qzv (n_0:Bool × Int × ByteArray × Qwg × Z5r × Int) (m_1:Int × Int × Int × Int × Int × Int × (List Int) × Int × Int × ByteArray) (was_2:Int):Option ((Z5r × Unit) × Unit):=
 bif m_1.2.1==(g3 (g3 n_0)) then
  bif !((g3 m_1)==(g4 (g3 n_0))) then
   some (((g4 n_0),()),())
  else
  bif m_1.1==2 then
   bif was_2 != m_1.2.1 then
    Option.bind (Z7q (g4 n_0) (g7 m_1)) fun r1=>
    Option.bind (Qts r1.1.1 (IntKind.wrap .i64 ((g7 m_1) - 1))) fun r2=>
    some ((r2.1.1,()),())
   else
    Qzo m_1 was_2 n_0
  else
   Qzo m_1 was_2 n_0
 else
  some (((g4 n_0),()),())
noncomputable def Zjy:Ent:=⟨[.val t38,.val t45,.val t2],[⟨t36,(nF 7),none⟩],fun x=>Qzv x.1 x.2.1 x.2.2.1⟩
theorem Zfx:GD 48 Zjy:=fnk 1 (fo [[2,3,4,6,15,16,17,18,19,20,32,33,34,35,51,52,53,54],[2,3,4,6,7,32,33,34,35,51,52,53,54],[2,3,4,6,22,32,33,34,35,51,52,53,54],[6],[2,3,4,6,27,51,52,53,54],[6],[3,4,6,46],[6],[3,4,6,61],[6],[3,4,6,73],[6],[6]]) (Qjy Qwe (Qjy Zeb (Qjy Zfu (Qjy Zf2 Qk3)))) Tryz.func48
noncomputable def Qtl (n_0:Bool × Int × ByteArray × Qwg × Z5r × Int) (b_1:List Int):Option ((Zql × Zau × Unit) × Unit):=
 Option.bind (Qr4 n_0) fun r1=>
 bif !n_0.1 then
  some ((r1.1.1,[],()),())
 else
  Option.bind (Zbh b_1) fun r2=>
  bif !r2.1.2.1 then
   some (((e5 r1.1.1 (if 1073741824<IntKind.wrap .i64 ((h5 r1.1.1)+1) then 1073741824 else IntKind.wrap .i64 ((h5 r1.1.1)+1))),[],()),())
  else
  bif r2.1.1.2.2.1 != (g3 n_0).1 then
   some (((e5 r1.1.1 (if 1073741824<IntKind.wrap .i64 ((h5 r1.1.1)+1) then 1073741824 else IntKind.wrap .i64 ((h5 r1.1.1)+1))),[],()),())
  else
   Option.bind (Zag (g3 n_0) r2.1.1 (if 1>(g4 n_0).1 then 1 else (g4 n_0).1)) fun r3=>
   bif r2.1.1.1==8 then
    Option.bind (Z4e (u3 r1.1.1 r3.1.1) r2.1.1) fun r4=>
    bif Nat.ble (r3.1.2.1.length+r4.1.1.length) 1073741824 then
     Option.bind (Qzv (u3 r1.1.1 r3.1.1) r2.1.1 (g3 (g3 n_0))) fun r5=>
     Option.bind (Qr4 (u4 (u3 r1.1.1 r3.1.1) r5.1.1)) fun r6=>
     Option.bind (Z6h (u4 (u3 r1.1.1 r3.1.1) r5.1.1) (g4 n_0)) fun r7=>
     bif Nat.ble ((r3.1.2.1++r4.1.1).length+r7.1.1.length) 1073741824 then
      some ((r6.1.1,(r3.1.2.1++r4.1.1)++r7.1.1,()),())
     else none
    else none
   else
    Option.bind (Qzv (u3 r1.1.1 r3.1.1) r2.1.1 (g3 (g3 n_0))) fun r8=>
    Option.bind (Qr4 (u4 (u3 r1.1.1 r3.1.1) r8.1.1)) fun r9=>
    Option.bind (Z6h (u4 (u3 r1.1.1 r3.1.1) r8.1.1) (g4 n_0)) fun r10=>
    bif Nat.ble (r3.1.2.1.length+r10.1.1.length) 1073741824 then
     some ((r9.1.1,r3.1.2.1++r10.1.1,()),())
    else none
noncomputable def Zd2:Ent:=⟨[.val t38,.val t25],[⟨t38,(nF 24),none⟩,⟨t48,[true],none⟩],fun x=>Qtl x.1 x.2.1⟩
theorem Z7c:GD 18 Zd2:=fnk 1 (fo [[1,2,4,25,26,27,28,29,30],[1,2,4,6,25,26,27,28,29,30],[1,2,4,6,15,25,26,27,28,29,30],[4,5],[2,4,6,7,8,25,26,27,28,29,30],[2,4,6,7,31],[4,6],[4,5],[2,4,6,7,9,10],[2,4,6,7,10],[2,4,6,7,10,53],[2,4,6,7,10],[2,4,6,10],[4,5]]) (Qjy Qxh (Qjy Zi2 (Qjy Zgh (Qjy Ze1 (Qjy Zfx (Qjy Z8x Qk3)))))) Tryz.func18
noncomputable def Zgz (n_0:Bool × Int × ByteArray × Qwg × Z5r × Int):Option ((Zql × Unit) × Unit):=
 bif !n_0.1 then
  Option.bind (Qr4 n_0) fun r1=>
  some ((r1.1.1,()),())
 else
  some (((u4 (u3 (u2 (u0 n_0 false) (⟨#[]⟩:ByteArray)) Zrt) (0,0,[],[],[],0,0)),()),())
noncomputable def Zj5:Ent:=⟨[.val t38],[⟨t38,(nF 24),none⟩],fun x=>Zgz x.1⟩
theorem Zfy:GD 33 Zj5:=fnk 1 (fo [[1,2],[1,2,5],[2],[2]]) (Qjy Qxh Qk3) Tryz.func33
noncomputable def Qxa  : Option ((Bool × Unit) × Unit):=
 Option.bind (Zf5 Zs7 1 (⟨#[97]⟩:ByteArray) 0) fun r1=>
 Option.bind (Zf5 r1.1.1 1 (⟨#[97]⟩:ByteArray) 0) fun r2=>
 Option.bind (Zm5 r1.1.1 (⟨#[120]⟩:ByteArray)) fun r3=>
 Option.bind (Qtl r1.1.1 [121]) fun r4=>
 Option.bind (Zgz r1.1.1) fun r5=>
 bif r1.1.2.1 then
  bif r1.1.1.1 then
   bif r1.1.1.2.1==1 then
    bif !r2.1.2.1 then
     bif r3.1.2.2.1 then
      bif (r3.1.2.1.length:Int)==0 then
       bif ((g4 (g4 r3.1.1)).length:Int)==1 then
        bif (h5 r4.1.1)==1 then
         bif (r4.1.2.1.length:Int)==0 then
          bif !r5.1.1.1 then
           some ((r5.1.1.2.1==1,()),())
          else
           some ((false,()),())
         else
          some ((false,()),())
        else
         some ((false,()),())
       else
        some ((false,()),())
      else
       some ((false,()),())
     else
      some ((false,()),())
    else
     some ((false,()),())
   else
    some ((false,()),())
  else
   some ((false,()),())
 else
  some ((false,()),())
noncomputable def Z13:Ent:=⟨[],[⟨t4,[false],none⟩],fun x=>Qxa⟩
theorem Z5h:GD 10 Z13:=fnk 1 (fo [[38,39,42,43,44,47,48,51,54,55,56,59,60,61,62,63,66,67,68,71,72,73,76,77,78,81,82,83],[1,2,38,39,42,43,44,47,48,51,54,55,56,59,60,61,62,63,66,67,68,71,72,73,76,77,78,81,82,83],[1,2,4,38,39,42,43,44,47,48,51,54,55,56,59,60,61,62,63,66,67,68,71,72,73,76,77,78,81,82,83],[1,2,4,5,6,7,38,39,42,43,44,47,48,51,54,55,56,59,60,61,62,63,66,67,68,71,72,73,76,77,78,81,82,83],[1,2,4,5,6,7,8,9,38,39,42,43,44,47,48,51,54,55,56,59,60,61,62,63,66,67,68,71,72,73,76,77,78,81,82,83],[1,2,4,5,6,7,8,9,10,38,39,42,43,44,47,48,51,54,55,56,59,60,61,62,63,66,67,68,71,72,73,76,77,78,81,82,83],[0]]) (Qjy Zgk (Qjy Z7c (Qjy Zhw (Qjy Zfy Qk3)))) Tryz.func10
noncomputable def Qsw (l_0:List Int):Option ((Zcu × Unit) × Unit):=
 some (((l_0,0),()),())
noncomputable def Z3t:Ent:=⟨[.val t25],[⟨t74,[false,false],some 75⟩],fun x=>Qsw x.1⟩
theorem Qyl:GD 11 Z3t:=fnk 1 (fo [[0],[2]]) Qk3 Tryz.func11
noncomputable def Qk5 (p_0:(List Int) × Int) (m_1:Int):Option ((Int × Unit) × (Zcu × Unit)):=
 bif decide (p_0.2 ≥ (p_0.1.length:Int)) then
  some ((0,()),(p_0,()))
 else
 bif decide (m_1<1) then
  some ((0,()),(p_0,()))
 else
 bif decide (0≤IntKind.wrap .i64 ((IntKind.wrap .i64 (p_0.2+1)) - 1))&&decide (IntKind.wrap .i64 ((IntKind.wrap .i64 (p_0.2+1)) - 1)<(p_0.1.length:Int)) then
  bif !(m_1==0) then
   some ((Int.tmod (IntKind.wrap .i64 (List.getD p_0.1 ((IntKind.wrap .i64 ((IntKind.wrap .i64 (p_0.2+1)) - 1)).toNat) 0)) m_1,()),((p_0.1,IntKind.wrap .i64 (p_0.2+1)),()))
  else none
 else none
noncomputable def Qpt:Ent:=⟨[.box 75 t74 [false,false],.val t2],[⟨t2,[false],none⟩],fun x=>Qk5 x.1 x.2.1⟩
theorem Qlc:GD 26 Qpt:=fnk 1 (fo [[0,1,16,17],[0,1,18],[0,4],[0,1],[0,4]]) Qk3 Tryz.func26
abbrev Qlp:Type:=(Int × Int × Unit) × Unit
noncomputable def Z9g:Ctx:=[]
def Qzc:Fi:=fo [[0,19,20,28,29,37,38,56,57,58,59,73,74,77,78,79,80,81,82],[0,4,19,20,28,29,37,38,56,57,58,59,73,74,77,78,79,80,81,82],[0,4,19,20,28,29,37,38,56,57,58,59,73,74,77,78,79,80,81,82],[2,3],[0,4,11,19,20,28,29,37,38,56,57,58,59,73,74,77,78,79,80,81,82],[2,3],[0,4,15,28,29,37,38,56,57,58,59,73,74,77,78,79,80,81,82],[0,4,5,6,56,57,58,59,73,74,77,78,79,80,81,82],[0,4,24,37,38,56,57,58,59,73,74,77,78,79,80,81,82],[0,4,5,6,56,57,58,59,73,74,77,78,79,80,81,82],[0,4,33,56,57,58,59,73,74,77,78,79,80,81,82],[0,4,5,6,56,57,58,59,73,74,77,78,79,80,81,82],[0,4,5,6,45,56,57,58,59,73,74,77,78,79,80,81,82],[2,3],[0,4,5,6,7,56,57,58,59,73,74,77,78,79,80,81,82],[0,4,5,6,7,48,56,57,58,59,73,74,77,78,79,80,81,82],[0,4,5,6,7,56,57,58,59,73,74,77,78,79,80,81,82],[0,4,5,6,7,56,57,58,59,60,73,74,77,78,79,80,81,82],[2,3],[0,4,5,6,7,56,57,58,59,73,74,77,78,79,80,81,82],[4,5,83],[2,3],[2,3]]
abbrev Qoj:Type:=ByteArray→Int→Int→Int→Int→Option Qlp
noncomputable def Qyz (s_0:ByteArray) (L1:Qoj):Option Qlp:=
 bif decide (IntKind.wrap .i64 ((s_0.data.getD 0 0).toNat:Int) ≥ 240) then
  bif decide (IntKind.wrap .i64 ((s_0.data.getD 0 0).toNat:Int)≤244) then
   bif decide ((s_0.size:Int)<4) then
    some (((-1),1,()),())
   else
    L1 s_0 (IntKind.wrap .i64 ((IntKind.wrap .i64 ((s_0.data.getD 0 0).toNat:Int)) - 240)) 4 65536 1
  else
   some (((-1),1,()),())
 else
  some (((-1),1,()),())
noncomputable def Qzb (s_0:ByteArray) (L1:Qoj):Option Qlp:=
 bif decide (IntKind.wrap .i64 ((s_0.data.getD 0 0).toNat:Int) ≥ 224) then
  bif decide (IntKind.wrap .i64 ((s_0.data.getD 0 0).toNat:Int)≤239) then
   bif decide ((s_0.size:Int)<3) then
    some (((-1),1,()),())
   else
    L1 s_0 (IntKind.wrap .i64 ((IntKind.wrap .i64 ((s_0.data.getD 0 0).toNat:Int)) - 224)) 3 2048 1
  else
   Qyz s_0 L1
 else
  Qyz s_0 L1
noncomputable def Qz1 (L1:Qoj) (v1:ByteArray) (v2 v3 v4 v5:Int):Option Qlp:=
 bif decide (v5<v3) then
  bif decide (0≤v5)&&decide (v5<(v1.size:Int)) then
   bif decide (((v1.data.getD v5.toNat 0).toNat:Int)<128) then
    some (((-1),1,()),())
   else
   bif decide (0≤v5)&&decide (v5<(v1.size:Int)) then
    bif decide (((v1.data.getD v5.toNat 0).toNat:Int)>191) then
     some (((-1),1,()),())
    else
    bif decide (0≤v5)&&decide (v5<(v1.size:Int)) then
     L1 v1 (IntKind.wrap .i64 ((IntKind.wrap .i64 ((IntKind.wrap .i64 (v2*64))+(IntKind.wrap .i64 ((v1.data.getD v5.toNat 0).toNat:Int)))) - 128)) v3 v4 (IntKind.wrap .i64 (v5+1))
    else none
   else none
  else none
 else
 bif decide (v2<v4) then
  some (((-1),1,()),())
 else
 bif decide (v2>1114111) then
  some (((-1),1,()),())
 else
 bif decide (v2 ≥ 55296) then
  bif decide (v2≤57343) then
   some (((-1),1,()),())
  else
   some ((v2,v3,()),())
 else
  some ((v2,v3,()),())
noncomputable def Z04 (L1:Qoj) (s_0:ByteArray):Option Qlp:=
 bif decide (0<(s_0.size:Int)) then
  bif decide (IntKind.wrap .i64 ((s_0.data.getD 0 0).toNat:Int)<128) then
   some ((IntKind.wrap .i64 ((s_0.data.getD 0 0).toNat:Int),1,()),())
  else
  bif decide (IntKind.wrap .i64 ((s_0.data.getD 0 0).toNat:Int) ≥ 194) then
   bif decide (IntKind.wrap .i64 ((s_0.data.getD 0 0).toNat:Int)≤223) then
    bif decide ((s_0.size:Int)<2) then
     some (((-1),1,()),())
    else
     L1 s_0 (IntKind.wrap .i64 ((IntKind.wrap .i64 ((s_0.data.getD 0 0).toNat:Int)) - 192)) 2 128 1
   else
    Qzb s_0 L1
  else
   Qzb s_0 L1
 else none
noncomputable def Qyr (n:Nat):Nat→Qoj:=iter (fun _ _ _ _ _=>none) fun L=>Qz1 L
noncomputable def Qqt (n m:Nat) (v1:ByteArray) (v2 v3 v4 v5:Int):Option Qlp:=
 Qjv Z9g tab (fiB [.val t9] Qzc) n [.val t9] [⟨t2,[false],none⟩,⟨t2,[false],none⟩] Tryz.f145 [1,1,1,1,1,0,1,0] [] [0,4,5,6,7] m
 ⟨[(0,Vp t9 v1),(4,Vp t2 v2),(5,Vp t2 v3),(6,Vp t2 v4),(7,Vp t2 v5)],[]⟩
theorem Qxz (n:Nat):∀ m,Qqt n m=Qyr n m
 | 0=>rfl
 | m+1=>by rw [show Qqt n (m+1)=Qz1 (Qqt n m) from by kernel_rfl,Qxz n m];rfl
noncomputable def Z0b (n:Nat) (s_0:ByteArray):Option Qlp:=Z04 (Qyr n n) s_0
noncomputable def Z3e (s_0:ByteArray):Option Qlp:=Z0b 1099511627776 s_0
noncomputable def Z0p:Ent:=⟨[.val t9],[⟨t2,[false],none⟩,⟨t2,[false],none⟩],fun x=>Z3e x.1⟩
theorem Z5m:GD 145 Z0p:=fnl Qzc (fun n x=>Z0b n x.1) Qk3 Tryz.func145 fun n x=>Eq.trans (b:=Z04 (Qqt n n) x.1) (by kernel_rfl) (by rw [Qxz n n];rfl)
abbrev Qn0:Type:=((List Int) × Unit) × Unit
noncomputable def Z7z:Ctx:=[(145,Z0p)]
def Qxn:Fi:={ keep:=[],vty:=[(3,28)],vals:=[],live:=[(0,[0]),(1,[0,3]),(2,[0,3,8]),(3,[0,3,4,5]),(4,[0,3]),(5,[2])] }
abbrev Qsx:Type:=ByteArray→List Int→Option Qn0
noncomputable def Qy2 (L1:Qsx) (v1:ByteArray) (v2:List Int):Option Qn0:=
 bif decide ((v1.size:Int)>0) then
  Option.bind (Z3e v1) fun r3=>
  bif Nat.ble (v2.length+1) 1073741824 then
   bif (decide (0≤r3.1.2.1)&&decide (r3.1.2.1≤(v1.size:Int)))&&decide ((v1.size:Int)≤(v1.size:Int)) then
    L1 (v1.extract r3.1.2.1.toNat ((v1.size:Int).toNat)) (v2++[r3.1.1])
   else none
  else none
 else
  some ((v2,()),())
noncomputable def Qz5 (L1:Qsx) (s_0:ByteArray):Option Qn0:=
 L1 s_0 []
noncomputable def Qxj (n:Nat):Nat→Qsx:=iter (fun _ _=>none) fun L=>Qy2 L
noncomputable def Qq2 (n m:Nat) (v1:ByteArray) (v2:List Int):Option Qn0:=
 Qjv Z7z tab (fiB [.val t9] Qxn) n [.val t9] [⟨t28,[true],none⟩] Tryz.f80 [1,1,0,0] [] [0,3] m
 ⟨[(0,Vp t9 v1),(3,V1 (.ref (888888,3)))],[((888888,3),Ob.row 3 t2 v2)]⟩
theorem Qwj (n:Nat):∀ m,Qq2 n m=Qxj n m
 | 0=>rfl
 | m+1=>by rw [show Qq2 n (m+1)=Qy2 (Qq2 n m) from by kernel_rfl,Qwj n m];rfl
noncomputable def Qys (n:Nat) (s_0:ByteArray):Option Qn0:=Qz5 (Qxj n n) s_0
noncomputable def Z1r (s_0:ByteArray):Option Qn0:=Qys 1099511627776 s_0
noncomputable def Qyf:Ent:=⟨[.val t9],[⟨t28,[true],none⟩],fun x=>Z1r x.1⟩
theorem Z4z:GD 80 Qyf:=fnl Qxn (fun n x=>Qys n x.1) (Qjy Z5m Qk3) Tryz.func80 fun n x=>Eq.trans (b:=Qz5 (Qq2 n n) x.1) (by kernel_rfl) (by rw [Qwj n n];rfl)
abbrev Qp7:Type:=(Bool × Unit) × Unit
noncomputable def Zcf:Ctx:=[(80,Qyf)]
def Z21:Fi:=fo [[0,19,20,21,22,23,24,25,26,27,28,29,30,36,37,38],[3,19,20,21,22,23,24,25,26,27,28,29,30,36,37,38],[3,4,19,20,21,22,23,24,25,26,27,28,29,30,36,37,38],[3,4,10,19,20,21,22,23,24,25,26,27,28,29,30,36,37,38],[3,4,19,20,21,22,23,24,25,26,27,28,29,30,36,37,38],[3,4,19,20,21,22,23,24,25,26,27,28,29,30,31,36,37,38],[2],[2]]
abbrev Qvy:Type:=Int→List Int→Option Qp7
noncomputable def Z1u (L1:Qvy) (v2:Int) (v3:List Int):Option Qp7:=
 bif decide (v2<(v3.length:Int)) then
  bif decide (0≤v2)&&decide (v2<(v3.length:Int)) then
   bif decide (0≤v2)&&decide (v2<(v3.length:Int)) then
    bif decide (List.getD v3 v2.toNat 0<33) then
     some ((false,()),())
    else
    bif decide (0≤v2)&&decide (v2<(v3.length:Int)) then
     bif decide (0≤v2)&&decide (v2<(v3.length:Int)) then
      bif decide (List.getD v3 v2.toNat 0 ≥ 127) then
       bif decide (0≤v2)&&decide (v2<(v3.length:Int)) then
        bif decide (0≤v2)&&decide (v2<(v3.length:Int)) then
         bif decide (List.getD v3 v2.toNat 0≤159) then
          some ((false,()),())
         else
          L1 (IntKind.wrap .i64 (v2+1)) v3
        else none
       else none
      else
       L1 (IntKind.wrap .i64 (v2+1)) v3
     else none
    else none
   else none
  else none
 else
 bif decide ((v3.length:Int) ≥ 1) then
  some ((decide ((v3.length:Int)≤8),()),())
 else
  some ((false,()),())
noncomputable def Z41 (L1:Qvy) (s_0:ByteArray):Option Qp7:=
 Option.bind (Z1r s_0) fun r1=>
 L1 0 r1.1.1
noncomputable def Z2a (n:Nat):Nat→Qvy:=iter (fun _ _=>none) fun L=>Z1u L
noncomputable def Qsg (n m:Nat) (v2:Int) (v3:List Int):Option Qp7:=
 Qjv Zcf tab (fiB [.val t9] Z21) n [.val t9] [⟨t4,[false],none⟩] Tryz.f37 [1,1,0,1,0] [] [3,4] m
 ⟨[(3,V1 (.ref (888888,3))),(4,Vp t2 v2)],[((888888,3),Ob.row 3 t2 v3)]⟩
theorem Z0j (n:Nat):∀ m,Qsg n m=Z2a n m
 | 0=>rfl
 | m+1=>by rw [show Qsg n (m+1)=Z1u (Qsg n m) from by kernel_rfl,Z0j n m];rfl
noncomputable def Z3n (n:Nat) (s_0:ByteArray):Option Qp7:=Z41 (Z2a n n) s_0
noncomputable def Qzz (s_0:ByteArray):Option Qp7:=Z3n 1099511627776 s_0
noncomputable def Zc0:Ent:=⟨[.val t9],[⟨t4,[false],none⟩],fun x=>Qzz x.1⟩
theorem Z8e:GD 37 Zc0:=fnl Z21 (fun n x=>Z3n n x.1) (Qjy Z4z Qk3) Tryz.func37 fun n x=>Eq.trans (b:=Z41 (Qsg n n) x.1) (by kernel_rfl) (by rw [Z0j n n];rfl)
noncomputable def Qsr (id_0 inc_1 now_2 grand_3:Int):Option ((Qwg × Unit) × Unit):=
 bif id_0==1 then
  some (((id_0,inc_1,now_2,0,0,grand_3,[1],0,now_2,0,0,0,[]),()),())
 else
  some (((id_0,inc_1,now_2,0,0,grand_3,[],0,0,0,0,0,[]),()),())
noncomputable def Z3f:Ent:=⟨[.val t2,.val t2,.val t2,.val t2],[⟨t30,(nF 6++[true,false,false,false,false,false,true]),none⟩],fun x=>Qsr x.1 x.2.1 x.2.2.1 x.2.2.2.1⟩
theorem Qyj:GD 38 Z3f:=fnk 1 (fo [[0,1,2,3,8],[0,2,8,9],[2,8,9,16],[8,9],[8]]) Qk3 Tryz.func38
noncomputable def Quk (n_0:Bool × Int × ByteArray × Qwg × Z5r × Int) (id_1:Int) (name_2:ByteArray) (grand_3:Int):Option ((Zql × Bool × Unit) × Unit):=
 bif n_0.1 then
  some ((n_0,false,()),())
 else
  Option.bind (Qzz name_2) fun r1=>
  bif !r1.1.1 then
   some ((n_0,false,()),())
  else
  bif decide (id_1<1) then
   some ((n_0,false,()),())
  else
  bif decide (id_1>8) then
   some ((n_0,false,()),())
  else
  bif decide (n_0.2.1 ≥ 1073741824) then
   some ((n_0,false,()),())
  else
   Option.bind (Qsr id_1 (IntKind.wrap .i64 (n_0.2.1+1)) 0 grand_3) fun r2=>
   some (((true,IntKind.wrap .i64 (n_0.2.1+1),name_2,r2.1.1,(0,0,[],[],[],0,0),0),true,()),())
noncomputable def Zbi:Ent:=⟨[.val t38,.val t2,.val t9,.val t2],[⟨t38,(nF 24),none⟩,⟨t4,[false],none⟩],fun x=>Quk x.1 x.2.1 x.2.2.1 x.2.2.2.1⟩
theorem Z75:GD 14 Zbi:=fnk 1 (fo [[1,2,3,4,8,13,14,15,18,19,22,23,26,27,28],[1,2,3,4,8,29],[8,9],[8,9]]) (Qjy Z8e (Qjy Qyj Qk3)) Tryz.func14
noncomputable def Qnu (p_0:(List Int) × Int):Option ((Bool × Unit) × (Zcu × Unit)):=
 some ((decide (p_0.2 ≥ (p_0.1.length:Int)),()),(p_0,()))
noncomputable def Qrj:Ent:=⟨[.box 75 t74 [false,false]],[⟨t4,[false],none⟩],fun x=>Qnu x.1⟩
theorem Qtu:GD 25 Qrj:=fnk 1 (fo [[0],[0,2]]) Qk3 Tryz.func25
abbrev Qob:Type:=(Z63 × Unit) × Unit
noncomputable def Zbj:Ctx:=[]
def Z14:Fi:={ keep:=[],vty:=[(5,29)],vals:=[],live:=[(0,[0,1]),(1,[0,1,5]),(2,[0,1,5,6]),(3,[0,1,5,6,10]),(4,[0,1,5,6]),(5,[0,1,5,6,20]),(6,[0,1,5,6]),(7,[4])] }
abbrev Qus:Type:=Z63→Int→Int→Z63→Option Qob
noncomputable def Qnh (L1:Qus) (v1:List Qlf) (v2 v3:Int) (v4:List Qlf):Option Qob:=
 bif decide (v3<(v1.length:Int)) then
  bif decide (0≤v3)&&decide (v3<(v1.length:Int)) then
   bif decide (IntKind.wrap .i64 (v2 - (((List.getD v1 v3.toNat (0,0,0)).2).2))≤20) then
    bif decide (0≤v3)&&decide (v3<(v1.length:Int)) then
     bif Nat.ble (v4.length+1) 1073741824 then
      L1 v1 v2 (IntKind.wrap .i64 (v3+1)) (v4++[(List.getD v1 v3.toNat (0,0,0))])
     else none
    else none
   else
    L1 v1 v2 (IntKind.wrap .i64 (v3+1)) v4
  else none
 else
  some ((v4,()),())
noncomputable def Z1i (L1:Qus) (l_0:List Qlf) (now_1:Int):Option Qob:=
 L1 l_0 now_1 0 []
noncomputable def Qpg (n:Nat):Nat→Qus:=iter (fun _ _ _ _=>none) fun L=>Qnh L
noncomputable def Qrh (n m:Nat) (v1:List Qlf) (v2 v3:Int) (v4:List Qlf):Option Qob:=
 Qjv Zbj tab (fiB [.val t29,.val t2] Z14) n [.val t29,.val t2] [⟨t29,[true],none⟩] Tryz.f123 [1,1,0,1,0] [] [0,1,5,6] m
 ⟨[(0,Vp t29 v1),(1,Vp t2 v2),(5,V1 (.ref (888888,5))),(6,Vp t2 v3)],[((888888,5),Ob.row 53 t52 v4)]⟩
theorem Qyu (n:Nat):∀ m,Qrh n m=Qpg n m
 | 0=>rfl
 | m+1=>by rw [show Qrh n (m+1)=Qnh (Qrh n m) from by kernel_rfl,Qyu n m];rfl
noncomputable def Z29 (n:Nat) (l_0:List Qlf) (now_1:Int):Option Qob:=Z1i (Qpg n n) l_0 now_1
noncomputable def Qy9 (l_0:List Qlf) (now_1:Int):Option Qob:=Z29 1099511627776 l_0 now_1
noncomputable def Z2o:Ent:=⟨[.val t29,.val t2],[⟨t29,[true],none⟩],fun x=>Qy9 x.1 x.2.1⟩
theorem Z7h:GD 123 Z2o:=fnl Z14 (fun n x=>Z29 n x.1 x.2.1) Qk3 Tryz.func123 fun n x=>Eq.trans (b:=Z1i (Qrh n n) x.1 x.2.1) (by kernel_rfl) (by rw [Qyu n n];rfl)
end Go.PE
