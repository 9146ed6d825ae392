/-
  Functions of the program, each as the evaluator answers it, and its contract.
  Conditions: none.
-/
import Derived.Test.YtmfiijdlhjajcaaGreatDoorNodeDeafT
import Derived.WalkKit
import Derived.BigCall
import Derived.Lib.OthersKept
set_option linter.unusedVariables false
set_option maxRecDepth 100000
namespace Go.PE
open Go.Proofs
noncomputable def Qua (r_0:Int):Option ((Int × Unit) × Unit):=
 bif decide (r_0<0) then
  some (((-1),()),())
 else
 bif decide (r_0≤127) then
  some ((1,()),())
 else
 bif decide (r_0≤2047) then
  some ((2,()),())
 else
 bif decide (55296≤r_0) then
  bif decide (r_0≤57343) then
   some (((-1),()),())
  else
  bif decide (r_0≤65535) then
   some ((3,()),())
  else
  bif decide (r_0≤1114111) then
   some ((4,()),())
  else
   some (((-1),()),())
 else
 bif decide (r_0≤65535) then
  some ((3,()),())
 else
 bif decide (r_0≤1114111) then
  some ((4,()),())
 else
  some (((-1),()),())
noncomputable def Qxa:Ent:=⟨[.val t21],[⟨t2,[false],none⟩],fun x=>Qua x.1⟩
theorem Z46:GD 174 Qxa:=fnk 1 (fo [[0,16,17],[0,3,16,17],[2],[0,6,16,17],[2],[0,9,16,17],[2],[0,12],[2],[0,19],[2],[22],[2],[2]]) Qk3 Tryz.func174
noncomputable def Qnb (s_0:ByteArray):Option ((Int × Int × Unit) × Unit):=
 bif !(Qeq s_0 (⟨#[]⟩:ByteArray)) then
  bif decide (0<(s_0.size:Int)) then
   bif decide (((s_0.data.getD 0 0).toNat:Int)<128) then
    bif decide (0<(s_0.size:Int)) then
     some ((IntKind.wrap .i32 ((s_0.data.getD 0 0).toNat:Int),1,()),())
    else none
   else none
  else none
 else none
noncomputable def Qqe:Ent:=⟨[.val t9],[⟨t21,[false],none⟩,⟨t2,[false],none⟩],fun x=>Qnb x.1⟩
theorem Quk:GD 175 Qqe:=fnk 1 (fo [[0,7,8,9],[0,10],[2,3],[2,3]]) Qk3 Tryz.func175
noncomputable def Qyz (letter_0 x_1 x_2:Int) (x_3:List Int):Option ((Bool × Unit) × ((List Int) × Unit)):=
 bif Nat.ble (x_3.length+1) 1073741824 then
  some ((true,()),(x_3++[letter_0],()))
 else none
noncomputable def Z2h:Ent:=⟨[.val t2,.val t2,.val t2,.box 28 t28 [true]],[⟨t4,[false],none⟩],fun x=>Qyz x.1 x.2.1 x.2.2.1 x.2.2.2.1⟩
theorem Z8h:GD 144 Z2h:=fnk 1 (fo [[3,0],[3],[3,7]]) Qk3 Tryz.func144
section
open Go.RowKit
def Zkh (s:ByteArray):Bool:=s.data.toList.all fun b=>Nat.blt b.toNat 128
def Qrt (s:ByteArray):List Int:=s.data.toList.map fun b=>(b.toNat:Int)
theorem Zll {s:ByteArray} (h:Zkh s=true) {i:Nat} (hi:i<s.size):(s[i]'hi).toNat<128:=by
  have:=List.all_eq_true.1 h (s.data.toList[i]'(by simpa using hi)) (List.getElem_mem _)
  exact Nat.le_of_ble_eq_true this
theorem Zl1 {s:ByteArray} {i:Nat} (hi:i<s.size):(Qrt s).take (i+1)=(Qrt s).take i++[((s[i]'hi).toNat:Int)]:=by
  have hl:i<(Qrt s).length:=by simpa [Qrt] using hi
  rw [List.take_succ_eq_append_getElem hl]
  simp [Qrt]
  rfl
theorem Zf9 (s:ByteArray):(Qrt s).length=s.size:=by simp [Qrt]
abbrev Zt0:Ty:=.sl 3 (.int .i64)
def Zfz (w:World) (B:Nat) (xs:List Int) (Bl:List Nat):Prop:=
  Q1v tab.ty (fun _=>False) w Zt0 [true] xs (.pointer (some ⟨B,0,none⟩)) Bl
theorem Zdt {S:Nat→Prop} {w w':World}:∀ {xs:List Int} {cs:List Value},Q1 tab.ty S w (.int .i64) xs cs→Q1 tab.ty (fun _=>False) w' (.int .i64) xs cs
  | [],cs,h=>h
  | x::r,cs,h=>by
    obtain ⟨c,cr,hc,h1,h2⟩:=h
    exact ⟨c,cr,hc,h1,Zdt h2⟩
theorem Zfz.mv {S:Nat→Prop} {w w':World} {B:Nat} {xs:List Int} {Bl:List Nat} (h:Q1v tab.ty S w Zt0 [true] xs (.pointer (some ⟨B,0,none⟩)) Bl) (hk:∀ j∈Bl,w'.heap[j]?=w.heap[j]?):Zfz w' B xs Bl:=by
  obtain ⟨b,T,cs,B',hv,hh,hB,hown⟩:=h
  obtain ⟨c,cr,B1,B2,e1,e2,h1,h2⟩:=hown
  obtain ⟨h0,⟨cells,hr,hc⟩,hb⟩:=h1
  subst hB;subst e2;subst hb
  refine ⟨b,T,cs,_,hv,(hk b (by simp)).trans hh,rfl,c,cr,_,B2,e1,rfl,⟨h0,⟨cells,⟨hr.1,?_⟩,Zdt hc⟩,rfl⟩,h2⟩
  rcases hr.2 with hn | ⟨g,cap,cur,rfl,hg,hh',rest⟩
  · exact .inl hn
  · exact .inr ⟨g,cap,cur,rfl,hg,(hk g (by simp [blk])).trans hh',rest⟩
theorem Zph (c:Nat) (hc:c<128) (W:World):Calls Tryz.prog 174 #[.int .i32 (c:Int)] W fun e W'=>e=.returned (.int .i64 1)∧Fr (fun _=>False) W W':=by
  have hG:Qxa.G ((c:Int),())=some (((1:Int),()),()):=by
    show Qua (c:Int)=_
    unfold Qua
    rw [show decide ((c:Int)<0)=false from decide_eq_false (by omega),show decide ((c:Int)≤127)=true from decide_eq_true (by omega)]
    rfl
  refine (Z46.2 W (fun _=>False) ((c:Int),()) [.int .i32 (c:Int)] [] (((1:Int),()),()) (fun _ h=>h.elim) ⟨_,_,[],[],rfl,rfl,⟨.inr ⟨rfl,rfl⟩,rfl⟩,rfl,rfl⟩ List.nodup_nil (by simp) hG).mono ?_
  rintro e W' ⟨vs,S',B1,B2,rfl,hr,_,_,_,_,_,hf⟩
  obtain ⟨v,vr,b1,b2,rfl,_,h1,rfl,_⟩:=hr
  obtain ⟨cs,_,hcs,hcs2⟩:=h1
  have:=hcs rfl;subst this
  obtain ⟨c1,cr,_,_,e1,_,h3,_⟩:=hcs2
  have h3:Rep tab.ty S' W' (.int .i64) (1:Int) [c1]∧_=[]:=h3
  obtain ⟨rfl,_⟩:=List.cons.inj e1
  have h4:[v]=[Value.int .i64 1]:=h3.1
  obtain ⟨rfl,_⟩:=List.cons.inj h4
  exact ⟨rfl,hf.mono (fun k hk=>by cases hk)⟩
theorem Zqj (s:ByteArray) (c:Nat) (h0:s.size≠0) (hs:(s.data.getD 0 0).toNat=c) (hc:c<128) (W:World):Calls Tryz.prog 175 #[.string s] W fun e W'=>e=.returned (.tuple #[.int .i32 (c:Int),.int .i64 1])∧Fr (fun _=>False) W W':=by
  have hG:Qqe.G (s,())=some (((c:Int),(1:Int),()),()):=by
    show Qnb s=_
    unfold Qnb
    have e1:Qeq s (⟨#[]⟩:ByteArray)=false:=by
      rw [← Bool.not_eq_true]
      intro h
      have:s.data.toList=[]:=by simpa [Qeq] using h
      exact h0 (by have:=congrArg List.length this;rw [Array.length_toList] at this;exact this)
    rw [e1,show decide (0<(s.size:Int))=true from decide_eq_true (by omega),hs,show decide ((c:Int)<128)=true from decide_eq_true (by omega)]
    have:IntKind.wrap .i32 (c:Int)=(c:Int):=by
      have h1:(c:Int) % 4294967296=c:=by omega
      rw [IntKind.wrap_i32];omega
    rw [this]
    rfl
  refine (Quk.2 W (fun _=>False) (s,()) [.string s] [] (((c:Int),(1:Int),()),()) (fun _ h=>h.elim) ⟨_,_,[],[],rfl,rfl,⟨.inr ⟨rfl,rfl⟩,rfl⟩,rfl,rfl⟩ List.nodup_nil (by simp) hG).mono ?_
  rintro e W' ⟨vs,S',B1,B2,rfl,hr,_,_,_,_,_,hf⟩
  obtain ⟨v,vr,b1,b2,rfl,_,h1,v2,vr2,_,_,rfl,_,h2,rfl,_⟩:=hr
  obtain ⟨cs,_,hcs,hcs2⟩:=h1
  have:=hcs rfl;subst this
  obtain ⟨c1,cr,_,_,e1,_,h3,_⟩:=hcs2
  have h3:Rep tab.ty S' W' (.int .i32) (c:Int) [c1]∧_=[]:=h3
  obtain ⟨rfl,_⟩:=List.cons.inj e1
  have h4:[v]=[Value.int .i32 (c:Int)]:=h3.1
  obtain ⟨rfl,_⟩:=List.cons.inj h4
  obtain ⟨cs,_,hcs,hcs2⟩:=h2
  have:=hcs rfl;subst this
  obtain ⟨c1,cr,_,_,e1,_,h3,_⟩:=hcs2
  have h3:Rep tab.ty S' W' (.int .i64) (1:Int) [c1]∧_=[]:=h3
  obtain ⟨rfl,_⟩:=List.cons.inj e1
  have h4:[v2]=[Value.int .i64 1]:=h3.1
  obtain ⟨rfl,_⟩:=List.cons.inj h4
  exact ⟨rfl,hf.mono (fun k hk=>by cases hk)⟩
theorem Zt2 (x a b:Int) (B:Nat) (xs:List Int) (Bl:List Nat) (W:World) (hB:Zfz W B xs Bl) (hn:Bl.Nodup) (hlt:∀ j∈Bl,j<W.heap.size) (hx:xs.length+1≤1073741824) :
    Calls Tryz.prog 144 #[.int .i64 x,.int .i64 a,.int .i64 b,.pointer (some ⟨B,0,none⟩)] W fun e W'=>e=.returned (.bool true)∧∃ Bl',Zfz W' B (xs++[x]) Bl'∧Bl'.Nodup∧(∀ j∈Bl',j<W'.heap.size∧(W.heap.size≤j∨j∈Bl))∧Fr (fun j=>j∈Bl) W W':=by
  have hG:Z2h.G (x,a,b,xs,())=some ((true,()),(xs++[x],())):=by
    show Qyz x a b xs=_
    unfold Qyz
    rw [show Nat.ble (xs.length+1) 1073741824=true from Q2.2 hx]
    rfl
  refine (Z8h.2 W (fun _=>False) (x,a,b,xs,()) [.int .i64 x,.int .i64 a,.int .i64 b,.pointer (some ⟨B,0,none⟩)] Bl ((true,()),(xs++[x],())) (fun _ h=>h.elim)
    ⟨_,_,[],Bl,rfl,rfl,⟨.inr ⟨rfl,rfl⟩,rfl⟩,_,_,[],Bl,rfl,rfl,⟨.inr ⟨rfl,rfl⟩,rfl⟩,_,_,[],Bl,rfl,rfl,⟨.inr ⟨rfl,rfl⟩,rfl⟩,_,_,Bl,[],rfl,(List.append_nil _).symm,hB,rfl,rfl⟩ hn (fun k hk=>⟨fun h=>h,hlt k hk⟩) hG).mono ?_
  rintro e W' ⟨vs,S',B1,B2,rfl,hr,ho,hnd,hbl,_,_,hf⟩
  obtain ⟨v,vr,b1,b2,rfl,_,h1,rfl,_⟩:=hr
  obtain ⟨cs,_,hcs,hcs2⟩:=h1
  have:=hcs rfl;subst this
  obtain ⟨c1,cr,_,_,e1,_,h3,_⟩:=hcs2
  have h3:Rep tab.ty S' W' .bool true [c1]∧_=[]:=h3
  obtain ⟨rfl,_⟩:=List.cons.inj e1
  have h4:[v]=[Value.bool true]:=h3.1
  obtain ⟨rfl,_⟩:=List.cons.inj h4
  obtain ⟨v3,vr3,c1,c2,e3,rfl,hv3,hc2⟩:=ho
  have hc2:c2=[]:=hc2
  subst hc2
  obtain ⟨rfl,_⟩:=List.cons.inj (show [Value.pointer (some ⟨B,0,none⟩)]=v3::vr3 from e3)
  refine ⟨rfl,c1,Zfz.mv hv3 (fun _ _=>rfl),?_,fun j hj=>?_,hf⟩
  · have:=(List.nodup_append.1 hnd).2.1
    simpa using this
  · have:=hbl j (List.mem_append.2 (.inr (List.mem_append.2 (.inl hj))))
    exact this.2
set_option maxHeartbeats 4000000 in
set_option maxRecDepth 1000000 in
theorem Zsh (s:ByteArray) (ha:Zkh s=true) (hs:s.size≤1073741824) (w:World) (B:Nat) (Bl:List Nat) (hB:Zfz w B [] Bl) (hn:Bl.Nodup) (hlt:∀ j∈Bl,j<w.heap.size) :
    Calls Tryz.prog 143 #[.string s,.func (.func 144) #[] #[.pointer (some ⟨B,0,none⟩)]] w fun e w'=>e=.returned (.tuple #[])∧∃ Bl',Zfz w' B (Qrt s) Bl'∧Bl'.Nodup∧(∀ j∈Bl',j<w'.heap.size∧(w.heap.size≤j∨j∈Bl))∧Fr (fun j=>j∈Bl) w w':=by
  go_enter Tryz.func143,Tryz.ntmps143
  go_wp2
  go_loopw [] (fun wr=>∃ (pos:Nat) (Bl':List Nat),wr.heap[w.heap.size]?=some (.stringIter s pos)∧pos≤s.size∧Zfz wr B ((Qrt s).take pos) Bl'∧Bl'.Nodup∧(∀ j∈Bl',j<wr.heap.size∧(w.heap.size<j∨j∈Bl))∧Fr (fun j=>j∈Bl) w wr) (fun wr=>s.size - wr.iterPos (w.heap.size))
  case atStart=>
    refine ⟨0,Bl,World.iter_heap w s 0,Nat.zero_le _,?_,hn,fun j hj=>⟨?_,.inr hj⟩,?_⟩
    · rw [List.take_zero];exact Zfz.mv hB (fun j hj=>RowKit.Below.heap_alloc w _ j (hlt j hj))
    · have:=hlt j hj;simp [World.iter];omega
    · exact (Fr.alloc _ w _)
  case round=>
    obtain ⟨pos,Bl',hit,hpl,hb,hn',hbl,hf⟩:=hrel
    have hk:w.heap.size<wr.heap.size:=(Array.getElem?_eq_some_iff.1 hit).1
    have hkB:w.heap.size ∉ Bl':=fun h=>by
      rcases (hbl _ h).2 with h | h
      · omega
      · exact absurd (hlt _ h) (by omega)
    by_cases hp:pos<s.size
    · have hnx:∀ ty,(Instr.next (.pointer (some ⟨w.heap.size,0,none⟩)) true ty).run Tryz.prog wr=_:=fun ty=>Lib.run_next_ascii_at wr w.heap.size s pos ty hit hp (Zll ha hp)
      generalize hc:(s[pos]'hp).toNat=c at hnx
      have hc128:c<128:=by rw [← hc];exact Zll ha hp
      have hit2:=Lib.iterAt_heap wr w.heap.size s pos (pos+1) hit
      go_wp2_with (go_at_call 174;refine (Zph c hc128 _).mono ?_)
      rintro e W1 ⟨rfl,f1⟩
      have hsz:(s.extract pos s.size).size=s.size - pos:=by simp
      have hd0:((s.extract pos s.size).data.getD 0 0).toNat=c:=by
        rw [← hc]
        have e1:(s.extract pos s.size).data[0]?=some (s[pos]'hp):=by
          rw [ByteArray.data_extract,Array.getElem?_extract]
          rw [if_pos (by simp;omega)]
          simp only [Nat.add_zero]
          exact Array.getElem?_eq_getElem hp
        rw [Array.getD_eq_getD_getElem?,e1]
        rfl
      have f0:Fr (fun j=>j∈Bl) w (wr.iterAt w.heap.size s (pos+1)):=hf.trans' (Y:=fun j=>j=w.heap.size) ⟨rfl,rfl,rfl,by rw [Lib.iterAt_size];exact Nat.le_refl _,fun j _ hj=>Lib.iterAt_other _ _ _ _ _ hj⟩ (fun j h1 h2=>absurd h2 (by omega))
      go_wp2_with (go_at_call 175;refine (Zqj _ c (by rw [hsz];omega) hd0 hc128 _).mono ?_)
      rintro e W2 ⟨rfl,f2⟩
      have hb2:Zfz W2 B ((Qrt s).take pos) Bl':=Zfz.mv hb (fun j hj=>by
        have h1:j<wr.heap.size:=(hbl j hj).1
        have h2:j<(wr.iterAt w.heap.size s (pos+1)).heap.size:=by rw [Lib.iterAt_size];exact h1
        rw [f2.block (Nat.lt_of_lt_of_le h2 f1.size) (fun x=>x),f1.block h2 (fun x=>x)]
        exact Lib.iterAt_other _ _ _ _ _ (fun e=>hkB (by rw [← e];exact hj)))
      have hw2:wr.heap.size≤W2.heap.size:=by
        have:=f1.size;have:=f2.size;rw [Lib.iterAt_size] at *;omega
      have hit3:W2.heap[w.heap.size]?=some (.stringIter s (pos+1)):=by
        have h2:w.heap.size<(wr.iterAt w.heap.size s (pos+1)).heap.size:=by rw [Lib.iterAt_size];exact hk
        rw [f2.block (Nat.lt_of_lt_of_le h2 f1.size) (fun x=>x),f1.block h2 (fun x=>x)]
        exact hit2
      have c65:¬ ((c:Int)=65533):=by omega
      have fn1h:=fun (a b:Int)=>Zt2 (c:Int) a b B ((Qrt s).take pos) Bl' W2 hb2 hn' (fun j hj=>Nat.lt_of_lt_of_le (hbl j hj).1 hw2) (by rw [List.length_take,Zf9];omega)
      go_wp2_with (go_at_call 144;refine (fn1h _ _).mono ?_)
      rintro e W3 ⟨rfl,Bl3,hb3,hn3,hbl3,f3⟩
      go_wp2
      go_roundw
      case rel=>
        have hk3:W3.heap[w.heap.size]?=some (.stringIter s (pos+1)):=by
          rw [f3.block (by omega) hkB];exact hit3
        refine ⟨pos+1,Bl3,hk3,hp,by rw [Zl1 hp,hc];exact hb3,hn3,fun j hj=>⟨(hbl3 j hj).1,?_⟩,?_⟩
        · rcases (hbl3 j hj).2 with h | h
          · exact .inl (by omega)
          · exact (hbl j h).2
        · refine ((f0.trans' f1 (fun _ _ x=>x.elim)).trans' f2 (fun _ _ x=>x.elim)).trans' f3 (fun j h1 h2=>?_)
          rcases (hbl j h2).2 with h | h
          · omega
          · exact h
      case measure=>
        have hk3:W3.heap[w.heap.size]?=some (.stringIter s (pos+1)):=by
          rw [f3.block (by omega) hkB];exact hit3
        simp only [World.iterPos,hk3,hit]
        omega
    · have hnx:∀ ty,(Instr.next (.pointer (some ⟨w.heap.size,0,none⟩)) true ty).run Tryz.prog wr=_:=fun ty=>Lib.run_next_end_at wr w.heap.size s pos ty hit hp
      go_wp2
      go_end0
      have:pos=s.size:=by omega
      subst this
      rw [List.take_of_length_le (by rw [Zf9];exact Nat.le_refl _)] at hb
      exact ⟨rfl,Bl',hb,hn',fun j hj=>⟨(hbl j hj).1,(hbl j hj).2.imp Nat.le_of_lt id⟩,hf⟩
set_option maxHeartbeats 4000000 in
set_option maxRecDepth 1000000 in
theorem Zpz (s:ByteArray) (ha:Zkh s=true) (hs:s.size≤1073741824) (w:World) :
    Calls Tryz.prog 75 #[.string s] w fun e w'=>∃ v Bl,e=.returned v∧Q13 tab.ty (fun _=>False) w' 3 (.int .i64) (Qrt s) v Bl∧(∀ j∈Bl,j<w'.heap.size∧w.heap.size≤j)∧Fr (fun _=>False) w w':=by
  have hE:=fun W B Bl h1 h2 h3=>Zsh s ha hs W B Bl h1 h2 h3
  go_enter Tryz.func75,Tryz.ntmps75
  have hB0:Zfz (w.alloc (.cells #[.slice none 0 0] 28)) w.heap.size [] [w.heap.size]:=
    ⟨w.heap.size,28,#[.slice none 0 0],[],rfl,(by show (w.heap.push _)[w.heap.size]?=_;simp),rfl,.slice none 0 0,[],[],[],rfl,rfl,⟨Nat.zero_lt_one,⟨[],World.ownsRow_nil _ 0 3 1,rfl⟩,rfl⟩,rfl,rfl⟩
  go_wp2_with (go_at_call 143;refine (hE _ _ _ hB0 (by simp) (by simp)).mono ?_)
  rintro e W1 ⟨rfl,Bl1,hb1,hn1,hbl1,f1⟩
  obtain ⟨b,T,cs,B',hv,hh,hB,hown⟩:=hb1
  obtain ⟨c,cr,B1,B2,e1,e2,h1,h2⟩:=hown
  obtain ⟨rfl,rfl⟩:cr=[]∧B2=[]:=h2
  obtain ⟨h0,⟨cells,hr,hc⟩,hb⟩:Q13 tab.ty (fun _=>False) W1 3 (.int .i64) (Qrt s) c B1:=h1
  have hcs:cs=#[c]:=by apply Array.ext';exact e1
  subst hcs
  obtain ⟨rfl⟩:w.heap.size=b:=by injection hv with e;injection e with e;injection e
  have hcell:W1.cell? ⟨w.heap.size,0,none⟩=some c:=by simp [World.cell?,hh]
  have hfro:W1.frozen? ⟨w.heap.size,0,none⟩=false:=by simp [World.frozen?,hh]
  obtain ⟨A,n,cp,rfl⟩:=X1 hr
  subst hB;subst e2;subst hb
  have hne:∀ j∈(blk (Value.slice A n cp)).toList,j≠w.heap.size:=fun j hj e=>by
    have:=(List.nodup_cons.1 hn1).1
    exact this (by rw [← e];simpa using hj)
  have hh2:(W1.setCell ⟨w.heap.size,0,none⟩ (.slice A n cp)).heap[w.heap.size]?=some (.cells #[.slice A n cp] T (0,0)):=by
    obtain ⟨hlt2,hk2⟩:=Array.getElem?_eq_some_iff.1 hh
    show (W1.heap.modify w.heap.size _)[w.heap.size]?=_
    rw [Array.getElem?_eq_getElem (by rw [Array.size_modify];exact hlt2),Array.getElem_modify_self,hk2]
    rfl
  have hcell2:(W1.setCell ⟨w.heap.size,0,none⟩ (.slice A n cp)).cell? ⟨w.heap.size,0,none⟩=some (.slice A n cp):=by simp [World.cell?,hh2]
  go_wp2
  (try simp only [Exit.inBlock,Exit.then])
  refine bodyPost_ret (v:=.slice A n cp) (by simp only [results,show Tryz.f75.results=#[.cell 2 28] from rfl];go_simp) rfl ?_
  refine ⟨_,_,rfl,⟨h0,⟨cells,⟨hr.1,?_⟩,Zdt hc⟩,rfl⟩,fun j hj=>⟨?_,?_⟩,?_⟩
  · rcases hr.2 with hn | ⟨g,cap,cur,e,hg,hh',rest⟩
    · exact .inl hn
    · refine .inr ⟨g,cap,cur,e,hg,?_,rest⟩
      injection e with e _ _
      subst e
      exact (RowKit.Below.heap_setCell W1 _ _ g (hne g (by simp [blk]))).trans hh'
  · have:=(hbl1 j (by simp only [List.mem_cons];exact .inr (by simpa using hj))).1
    simpa using this
  · rcases (hbl1 j (by simp only [List.mem_cons];exact .inr (by simpa using hj))).2 with h | h
    · simp at h;omega
    · simp at h;omega
  · exact ((Fr.alloc (fun _=>False) w _).trans' f1 (fun j h1 h2=>by simp at h2;omega)).trans' (Fr.setCell W1 _ _) (fun j h1 h2=>by simp at h2;omega)
noncomputable def Zf4 (s_0:ByteArray):Option (((List Int) × Unit) × Unit):=bif Zkh s_0&&Nat.ble s_0.size 1073741824 then some ((Qrt s_0,()),()) else none
noncomputable def Za5:Ent:=⟨[.val t9],[⟨t28,[true],none⟩],fun x=>Zf4 x.1⟩
theorem Zeb:Q4u tab.ty Tryz.prog 75 Za5:=by
  refine ⟨⟨_,Tryz.func75,by kernel_rfl,by kernel_rfl⟩,fun w S x vals B r hS ha hn hB hG=>?_⟩
  obtain ⟨s,u⟩:=x
  obtain ⟨v,vr,b1,b2,rfl,rfl,⟨hv,rfl⟩,rfl,rfl⟩:=ha
  have hG:(bif Zkh s&&Nat.ble s.size 1073741824 then some ((Qrt s,()),()) else none)=some r:=hG
  cases hq:(Zkh s&&Nat.ble s.size 1073741824) with
  | false=>rw [hq] at hG;cases hG
  | true=>
  rw [hq] at hG
  have hG:=Option.some.inj hG
  subst hG
  simp only [Bool.and_eq_true] at hq
  obtain ⟨hq1,hq2⟩:=hq
  have hv2:v=.string s:=by
    rcases hv with ⟨h,_⟩ | ⟨_,h⟩
    · cases h
    · have h:[v]=[Value.string s]:=h
      injection h
  subst hv2
  refine (Zpz s hq1 (Q2.1 hq2) w).mono ?_
  rintro e w' ⟨v,Bl,rfl,hr,hbl,hf⟩
  obtain ⟨h0,⟨cells,hr,hc⟩,rfl⟩:=hr
  refine ⟨[v],S,(blk v).toList,[],rfl,⟨v,[],(blk v).toList,[],rfl,by simp,⟨[v],(fun h=>by cases h),(fun _=>rfl),v,[],(blk v).toList,[],rfl,by simp,⟨h0,⟨cells,hr,?_⟩,rfl⟩,rfl,rfl⟩,rfl,rfl⟩,rfl,?_,fun k hk=>?_,fun _ h=>h,fun k hk=>⟨Nat.lt_of_lt_of_le (hS k hk) hf.size,.inl hk⟩,hf.mono (fun _ h=>h.elim)⟩
  · exact hc.frame (fun _ h=>h.elim) (Nat.le_refl _) (fun _ _ _=>rfl)
  · cases blk v<;>simp
  · have h1:=hbl k (by simpa using hk)
    exact ⟨fun h=>by have:=hS k h;omega,h1.1,.inl h1.2⟩
end
abbrev Qxs:Type:=(Bool × Unit) × Unit
noncomputable def Znw:Ctx:=[(75,Za5)]
def Zey:Fi:=fo [[0,17,18,19,20,21,22,29,30,31],[3,17,18,19,20,21,22,29,30,31],[3,8,9,10,17,18,19,20,21,22,29,30,31],[3,8,9,10,11,17,18,19,20,21,22,29,30,31],[3,5,8,9,10,17,18,19,20,21,22,29,30,31],[3,8,9,10,17,18,19,20,21,22,23,29,30,31],[2],[3,8,9,10,17,18,19,20,21,22,29,30,31],[2]]
abbrev Z8v:Type:=Int→Int→List Int→Option Qxs
noncomputable def Zfa (L1:Z8v) (v2 v3:Int) (v4:List Int):Option Qxs:=
 bif decide (v3<v2) then
  bif decide (0≤v3)&&decide (v3<(v4.length:Int)) then
   bif decide (0≤v3)&&decide (v3<(v4.length:Int)) then
    bif decide (List.getD v4 v3.toNat 0≤32) then
     some ((false,()),())
    else
    bif decide (List.getD v4 v3.toNat 0 ≥ 127) then
     bif decide (List.getD v4 v3.toNat 0≤159) then
      some ((false,()),())
     else
      L1 v2 (IntKind.wrap .i64 (v3+1)) v4
    else
     L1 v2 (IntKind.wrap .i64 (v3+1)) v4
   else none
  else none
 else
 bif decide ((v4.length:Int) ≥ 1) then
  some ((decide ((v4.length:Int)≤8),()),())
 else
  some ((false,()),())
noncomputable def Zgh (L1:Z8v) (s_0:ByteArray):Option Qxs:=
 Option.bind (Zf4 s_0) fun r1=>
 L1 (r1.1.1.length:Int) 0 r1.1.1
noncomputable def Zei (n:Nat):Nat→Z8v:=iter (fun _ _ _=>none) fun L=>Zfa L
noncomputable def Z36 (n m:Nat) (v2 v3:Int) (v4:List Int):Option Qxs:=
 Qjv Znw tab (fiB [.val t9] Zey) n [.val t9] [⟨t4,[false],none⟩] Tryz.f34 [1,1,0,1,0] [] [3,8,9,10] m
 ⟨[(3,V1 (.ref (888888,8))),(8,V1 (.ref (888888,8))),(9,Vp t2 v2),(10,Vp t2 v3)],[((888888,8),Ob.row 3 t2 v4)]⟩
theorem Zcu (n:Nat):∀ m,Z36 n m=Zei n m
 | 0=>rfl
 | m+1=>by rw [show Z36 n (m+1)=Zfa (Z36 n m) from by kernel_rfl,Zcu n m];rfl
noncomputable def Zgn (n:Nat) (s_0:ByteArray):Option Qxs:=Zgh (Zei n n) s_0
noncomputable def Zn2 (s_0:ByteArray):Option Qxs:=Zgn 1099511627776 s_0
noncomputable def Zoi:Ent:=⟨[.val t9],[⟨t4,[false],none⟩],fun x=>Zn2 x.1⟩
theorem Ziw:GD 34 Zoi:=fnl Zey (fun n x=>Zgn n x.1) (Qjy Zeb Qk3) Tryz.func34 fun n x=>Eq.trans (b:=Zgh (Z36 n n) x.1) (by kernel_rfl) (by rw [Zcu n n];rfl)
noncomputable def Qn6 (s:List Int):Option (((List Int) × Unit) × Unit):=bif Nat.ble s.length 1073741824 then some ((s,()),()) else none
theorem Z9m (s:List Int):Qde [] tab (Qk4 Tryz.f76 []) 1 [.val t28] [⟨t28,[true],none⟩] Tryz.f76 (s,())=bif !(List.isEmpty s) then bif Nat.ble (0+s.length) 1073741824 then some (([]++s,()),()) else none
 else Q3f (some (([],()),())) (bif Nat.ble (0+s.length) 1073741824 then some (([]++s,()),()) else none):=by kernel_rfl
theorem Zb7 (s:List Int):Qde [] tab (Qk4 Tryz.f76 []) 1 [.val t28] [⟨t28,[true],none⟩] Tryz.f76 (s,())=Qn6 s:=by
  rw [Z9m]
  cases s with
  | nil=>exact Qcu _
  | cons x q=>rw [Nat.zero_add];rfl
noncomputable def Zbr:Ent:=⟨[.val t28],[⟨t28,[true],none⟩],fun x=>Qn6 x.1⟩
theorem Qqh:Q4u tab.ty Tryz.prog 76 Zbr:=by
  refine Qjk (Γ:=[]) (fi:=Qk4 Tryz.f76 []) (n:=1) follows Qk3 Zik Tryz.func76 (by kernel_rfl) (by kernel_rfl) (fun x r h=>?_)
  obtain ⟨s,_u⟩:=x
  exact (Zb7 s).trans h
noncomputable def Qme (s:List Qky):Option ((Z22 × Unit) × Unit):=bif Nat.ble s.length 1073741824 then some ((s,()),()) else none
theorem Z9s (s:List Qky):Qde [] tab (Qk4 Tryz.f77 []) 1 [.val t29] [⟨t29,[true],none⟩] Tryz.f77 (s,())=bif !(List.isEmpty s) then bif Nat.ble (0+s.length) 1073741824 then some (([]++s,()),()) else none
 else Q3f (some (([],()),())) (bif Nat.ble (0+s.length) 1073741824 then some (([]++s,()),()) else none):=by kernel_rfl
theorem Zb1 (s:List Qky):Qde [] tab (Qk4 Tryz.f77 []) 1 [.val t29] [⟨t29,[true],none⟩] Tryz.f77 (s,())=Qme s:=by
  rw [Z9s]
  cases s with
  | nil=>exact Qcu _
  | cons x q=>rw [Nat.zero_add];rfl
noncomputable def Zc2:Ent:=⟨[.val t29],[⟨t29,[true],none⟩],fun x=>Qme x.1⟩
theorem Qnz:Q4u tab.ty Tryz.prog 77 Zc2:=by
  refine Qjk (Γ:=[]) (fi:=Qk4 Tryz.f77 []) (n:=1) follows Qk3 Zik Tryz.func77 (by kernel_rfl) (by kernel_rfl) (fun x r h=>?_)
  obtain ⟨s,_u⟩:=x
  exact (Zb1 s).trans h
noncomputable def Qkh (s:List Qla):Option ((Qkz × Unit) × Unit):=bif Nat.ble s.length 1073741824 then some ((s,()),()) else none
theorem Z8i (s:List Qla):Qde [] tab (Qk4 Tryz.f78 []) 1 [.val t32] [⟨t32,[true],none⟩] Tryz.f78 (s,())=bif !(List.isEmpty s) then bif Nat.ble (0+s.length) 1073741824 then some (([]++s,()),()) else none
 else Q3f (some (([],()),())) (bif Nat.ble (0+s.length) 1073741824 then some (([]++s,()),()) else none):=by kernel_rfl
theorem Za4 (s:List Qla):Qde [] tab (Qk4 Tryz.f78 []) 1 [.val t32] [⟨t32,[true],none⟩] Tryz.f78 (s,())=Qkh s:=by
  rw [Z8i]
  cases s with
  | nil=>exact Qcu _
  | cons x q=>rw [Nat.zero_add];rfl
noncomputable def Zbb:Ent:=⟨[.val t32],[⟨t32,[true],none⟩],fun x=>Qkh x.1⟩
theorem Qm4:Q4u tab.ty Tryz.prog 78 Zbb:=by
  refine Qjk (Γ:=[]) (fi:=Qk4 Tryz.f78 []) (n:=1) follows Qk3 Zik Tryz.func78 (by kernel_rfl) (by kernel_rfl) (fun x r h=>?_)
  obtain ⟨s,_u⟩:=x
  exact (Za4 s).trans h
noncomputable def Qkx (s:List Qrq):Option ((Qso × Unit) × Unit):=bif Nat.ble s.length 1073741824 then some ((s,()),()) else none
theorem Z7e (s:List Qrq):Qde [] tab (Qk4 Tryz.f79 []) 1 [.val t33] [⟨t33,[true],none⟩] Tryz.f79 (s,())=bif !(List.isEmpty s) then bif Nat.ble (0+s.length) 1073741824 then some (([]++s,()),()) else none
 else Q3f (some (([],()),())) (bif Nat.ble (0+s.length) 1073741824 then some (([]++s,()),()) else none):=by kernel_rfl
theorem Z8w (s:List Qrq):Qde [] tab (Qk4 Tryz.f79 []) 1 [.val t33] [⟨t33,[true],none⟩] Tryz.f79 (s,())=Qkx s:=by
  rw [Z7e]
  cases s with
  | nil=>exact Qcu _
  | cons x q=>rw [Nat.zero_add];rfl
noncomputable def Za3:Ent:=⟨[.val t33],[⟨t33,[true],none⟩],fun x=>Qkx x.1⟩
theorem Qlw:Q4u tab.ty Tryz.prog 79 Za3:=by
  refine Qjk (Γ:=[]) (fi:=Qk4 Tryz.f79 []) (n:=1) follows Qk3 Zik Tryz.func79 (by kernel_rfl) (by kernel_rfl) (fun x r h=>?_)
  obtain ⟨s,_u⟩:=x
  exact (Z8w s).trans h
noncomputable def Qqp (n_0:Bool × Int × ByteArray × Qt7 × Z2k × Int):Option ((Zrn × Unit) × Unit):=
 Option.bind (Qn6 (g6 (g3 n_0))) fun r1=>
 Option.bind (Qme (h12 (g3 n_0))) fun r2=>
 Option.bind (Qkh (g4 n_0).2.2.1) fun r3=>
 Option.bind (Qkh (g3 (g4 n_0))) fun r4=>
 Option.bind (Qkx (g4 (g4 n_0))) fun r5=>
 some (((u4 (u3 n_0 (e12 (u6 (g3 n_0) r1.1.1) r2.1.1)) (u4 (u3 (u2 (g4 n_0) r3.1.1) r4.1.1) r5.1.1)),()),())
noncomputable def Zgk:Ent:=⟨[.val t38],[⟨t38,(nF 24),none⟩],fun x=>Qqp x.1⟩
theorem Quq:GD 35 Zgk:=fnk 1 (fo [[1,2],[1,2],[1,2],[2]]) (Qjy Qqh (Qjy Qnz (Qjy Qm4 (Qjy Qlw Qk3)))) Tryz.func35
noncomputable def Zqw (id_0 inc_1 now_2 grand_3:Int):Option ((Qt7 × Unit) × Unit):=
 bif id_0==1 then
  some (((id_0,inc_1,now_2,0,0,grand_3,[1],0,now_2,0,0,0,[]),()),())
 else
  some (((id_0,inc_1,now_2,0,0,grand_3,[],0,0,0,0,0,[]),()),())
noncomputable def Zr0:Ent:=⟨[.val t2,.val t2,.val t2,.val t2],[⟨t30,(nF 6++[true,false,false,false,false,false,true]),none⟩],fun x=>Zqw x.1 x.2.1 x.2.2.1 x.2.2.2.1⟩
theorem Zm0:GD 36 Zr0:=fnk 1 (fo [[0,1,2,3,8],[0,2,8,9],[2,8,9,16],[8,9],[8]]) Qk3 Tryz.func36
noncomputable def Zi7 (n_0:Bool × Int × ByteArray × Qt7 × Z2k × Int) (id_1:Int) (name_2:ByteArray) (grand_3:Int):Option ((Zrn × Bool × Unit) × Unit):=
 bif n_0.1 then
  Option.bind (Qqp n_0) fun r1=>
  some ((r1.1.1,false,()),())
 else
  Option.bind (Zn2 name_2) fun r2=>
  bif !r2.1.1 then
   Option.bind (Qqp n_0) fun r3=>
   some ((r3.1.1,false,()),())
  else
  bif decide (id_1<1) then
   Option.bind (Qqp n_0) fun r4=>
   some ((r4.1.1,false,()),())
  else
  bif decide (id_1>8) then
   Option.bind (Qqp n_0) fun r5=>
   some ((r5.1.1,false,()),())
  else
  bif decide (n_0.2.1 ≥ 1073741824) then
   Option.bind (Qqp n_0) fun r6=>
   some ((r6.1.1,false,()),())
  else
   Option.bind (Zqw id_1 (IntKind.wrap .i64 (n_0.2.1+1)) 0 grand_3) fun r7=>
   some (((true,IntKind.wrap .i64 (n_0.2.1+1),name_2,r7.1.1,(0,0,[],[],[],0,0),0),true,()),())
noncomputable def Zny:Ent:=⟨[.val t38,.val t2,.val t9,.val t2],[⟨t38,(nF 24),none⟩,⟨t4,[false],none⟩],fun x=>Zi7 x.1 x.2.1 x.2.2.1 x.2.2.2.1⟩
theorem Zit:GD 13 Zny:=fnk 1 (fo [[1,2,3,4,8,14,15,16,19,20,23,24,27,28,29],[1,2,3,4,8,30],[8,9],[1,2,3,8,10],[8,9]]) (Qjy Ziw (Qjy Quq (Qjy Zm0 Qk3))) Tryz.func13
noncomputable def Qpl (f_0:Int × Int × Qkz × Qkz × Qso × Int × Int):Option ((Z2k × Unit) × Unit):=
 Option.bind (Qkh f_0.2.2.1) fun r1=>
 Option.bind (Qkh (g3 f_0)) fun r2=>
 Option.bind (Qkx (g4 f_0)) fun r3=>
 some (((u4 (u3 (u2 f_0 r1.1.1) r2.1.1) r3.1.1),()),())
noncomputable def Zok:Ent:=⟨[.val t36],[⟨t36,[false,false,true,true,true,false,false],none⟩],fun x=>Qpl x.1⟩
theorem Qsn:GD 116 Zok:=fnk 1 (fo [[1,2],[1,2],[2]]) (Qjy Qm4 (Qjy Qlw Qk3)) Tryz.func116
noncomputable def Zg8 (l_0:List Qrq) (seq_1:Int) (text_2:ByteArray):Option ((Qso × Unit) × Unit):=
 Option.bind (Qkx l_0) fun r1=>
 bif Nat.ble (r1.1.1.length+1) 1073741824 then
  some ((r1.1.1++[(1,seq_1,seq_1,text_2,0)],()),())
 else none
noncomputable def Zjy:Ent:=⟨[.val t33,.val t2,.val t9],[⟨t33,[true],none⟩],fun x=>Zg8 x.1 x.2.1 x.2.2.1⟩
theorem Zbk:GD 121 Zjy:=fnk 1 (fo [[0,1,2],[6]]) (Qjy Qlw Qk3) Tryz.func121
noncomputable def Zh2 (r1:(Qkz × Unit) × Unit) (i_1:Int × ByteArray):Option ((Qkz × Unit) × Unit):=
 bif Nat.ble (r1.1.1.length+1) 1073741824 then
  bif (decide (0≤(if 0>IntKind.wrap .i64 (((r1.1.1++[i_1]).length:Int) - 6) then 0 else IntKind.wrap .i64 (((r1.1.1++[i_1]).length:Int) - 6)))&&decide ((if 0>IntKind.wrap .i64 (((r1.1.1++[i_1]).length:Int) - 6) then 0 else IntKind.wrap .i64 (((r1.1.1++[i_1]).length:Int) - 6))≤((r1.1.1++[i_1]).length:Int)))&&decide (((r1.1.1++[i_1]).length:Int)≤((r1.1.1++[i_1]).length:Int)) then
   Option.bind (Qkh (List.drop ((if 0>IntKind.wrap .i64 (((r1.1.1++[i_1]).length:Int) - 6) then 0 else IntKind.wrap .i64 (((r1.1.1++[i_1]).length:Int) - 6)).toNat) (List.take (((r1.1.1++[i_1]).length:Int).toNat) (r1.1.1++[i_1])))) fun r2=>
   some ((r2.1.1,()),())
  else none
 else none
noncomputable def Zgd (l_0:List Qla) (i_1:Int × ByteArray):Option ((Qkz × Unit) × Unit):=
 Option.bind (Qkh l_0) fun r1=>
 bif decide ((l_0.length:Int)>0) then
  bif decide (0≤IntKind.wrap .i64 ((l_0.length:Int) - 1))&&decide (IntKind.wrap .i64 ((l_0.length:Int) - 1)<(l_0.length:Int)) then
   bif decide (i_1.1≤(List.getD l_0 ((IntKind.wrap .i64 ((l_0.length:Int) - 1)).toNat) (0,(⟨#[]⟩:ByteArray))).1) then
    some ((r1.1.1,()),())
   else
    Zh2 r1 i_1
  else none
 else
  Zh2 r1 i_1
noncomputable def Zk4:Ent:=⟨[.val t32,.val t58],[⟨t32,[true],none⟩],fun x=>Zgd x.1 x.2.1⟩
theorem Zc4:GD 122 Zk4:=fnk 1 (fo [[0,3,12,13,14,15,16,17,18,19,20,21],[0,3,5,12,13,14,15,16,17,18,19,20,21],[3,5,22],[4],[5],[4]]) (Qjy Qm4 Qk3) Tryz.func122
noncomputable def Zp6 (f_0:Int × Int × Qkz × Qkz × Qso × Int × Int) (text_1:ByteArray):Option ((Z2k × Bool × Unit) × Unit):=
 Option.bind (Qpl f_0) fun r1=>
 bif decide ((text_1.size:Int)>12) then
  some ((r1.1.1,false,()),())
 else
 bif decide ((if 1>r1.1.1.1 then 1 else r1.1.1.1)>1000000) then
  some ((r1.1.1,false,()),())
 else
  Option.bind (Zg8 (g4 r1.1.1) (if 1>r1.1.1.1 then 1 else r1.1.1.1) text_1) fun r2=>
  Option.bind (Zgd r1.1.1.2.2.1 (if 1>r1.1.1.1 then 1 else r1.1.1.1,text_1)) fun r3=>
  some (((u4 (u2 (u1 (u0 r1.1.1 (IntKind.wrap .i64 ((if 1>r1.1.1.1 then 1 else r1.1.1.1)+1))) (if 1>r1.1.1.1 then 1 else r1.1.1.1)) r3.1.1) r2.1.1),true,()),())
noncomputable def Zpi:Ent:=⟨[.val t36,.val t9],[⟨t36,(nF 7),none⟩,⟨t4,[false],none⟩],fun x=>Zp6 x.1 x.2.1⟩
theorem Zky:GD 59 Zpi:=fnk 1 (fo [[1,2,4,16,17],[1,2,4,16,17],[1,2,4,6,16,17],[1,2,4,6,18],[4,5],[2,4,6],[2,4],[4,5]]) (Qjy Qsn (Qjy Zbk (Qjy Zc4 Qk3))) Tryz.func59
noncomputable def Zk0 (f_0 old_1:Int × Int × Qkz × Qkz × Qso × Int × Int):Option ((Qso × Unit) × Unit):=
 bif (decide (0≤(if ((g4 f_0).length:Int)<((g4 old_1).length:Int) then ((g4 f_0).length:Int) else ((g4 old_1).length:Int)))&&decide ((if ((g4 f_0).length:Int)<((g4 old_1).length:Int) then ((g4 f_0).length:Int) else ((g4 old_1).length:Int))≤((g4 f_0).length:Int)))&&decide (((g4 f_0).length:Int)≤((g4 f_0).length:Int)) then
  Option.bind (Qkx (List.drop ((if ((g4 f_0).length:Int)<((g4 old_1).length:Int) then ((g4 f_0).length:Int) else ((g4 old_1).length:Int)).toNat) (List.take (((g4 f_0).length:Int).toNat) (g4 f_0)))) fun r1=>
  some ((r1.1.1,()),())
 else none
noncomputable def Zer:Ent:=⟨[.val t36,.val t36],[⟨t33,[true],none⟩],fun x=>Zk0 x.1 x.2.1⟩
theorem Zi6:GD 104 Zer:=fnk 1 (fo [[2,3],[4]]) (Qjy Qlw Qk3) Tryz.func104
noncomputable def Z0i (n_0:Bool × Int × ByteArray × Qt7 × Z2k × Int) (kind_1 to_2 lo_3 hi_4:Int) (s_5:ByteArray):Option ((Qyy × Unit) × Unit):=
 some (((kind_1,(g3 n_0).1,to_2,(g3 n_0).2.1,0,0,[],lo_3,hi_4,s_5),()),())
noncomputable def Z3o:Ent:=⟨[.val t38,.val t2,.val t2,.val t2,.val t2,.val t9],[⟨t45,(nF 6++[true,false,false,false]),none⟩],fun x=>Z0i x.1 x.2.1 x.2.2.1 x.2.2.2.1 x.2.2.2.2.1 x.2.2.2.2.2.1⟩
theorem Z1r:GD 58 Z3o:=fnk 1 (fo [[1,2,3,4,5,6,12],[12]]) Qk3 Tryz.func58
abbrev Qr0:Type:=(Z9c × Unit) × Unit
noncomputable def Zhl:Ctx:=[(58,Z3o),(104,Zer)]
def Z90:Fi:={ keep:=[],vty:=[(4,48)],vals:=[],live:=[(0,[2,3,4]),(1,[2,4,12,13,14]),(2,[2,4,12,13,14,15]),(3,[2,4,6,12,13,14]),(4,[2,4,6,12,13,14,20,21,22]),(5,[2,4,6,12,13,14,20,21,22,23]),(6,[2,4,6,8,12,13,14,20,21,22]),(7,[2,4,6,8,12,13,14,20,21,22,28]),(8,[2,4,6,12,13,14,20,21,22]),(9,[2,4,6,12,13,14,20,21,22]),(10,[2,4,6,12,13,14,20,21,22]),(11,[2,4,12,13,14]),(12,[4])] }
abbrev Z2e:Type:=Int→Int→Bool→Int→ByteArray→Int→Int→Int→Int→Int→Int→List Int→Int→Int→Int→Int→Int→Z22→Int→Int→Qkz→Qkz→Qso→Int→Int→Int→Z9c→Qso→Option Qr0
abbrev Z3i:Type:=Int→Int→Z22→Int→Int→Bool→Int→ByteArray→Int→Int→Int→Int→Int→Int→List Int→Int→Int→Int→Int→Int→Z22→Int→Int→Qkz→Qkz→Qso→Int→Int→Int→Z9c→Int→Int→Int→ByteArray→Int→Qso→Option Qr0
noncomputable def Zf3 (v59:List Qyy) (L2:Z3i) (v30 v31:Int) (v32:List Qky) (v33 v34:Int) (v35:Bool) (v36:Int) (v37:ByteArray) (v38 v39 v40 v41 v42 v43:Int) (v44:List Int) (v45 v46 v47 v48 v49:Int) (v50:List Qky) (v51 v52:Int) (v53 v54:List Qla) (v55:List Qrq) (v56 v57 v58:Int) (r66:(Qyy × Unit) × Unit) (v60 v61 v62:Int) (v63:ByteArray) (v64:Int) (v65:List Qrq):Option Qr0:=
 bif Nat.ble (v59.length+1) 1073741824 then
  L2 v30 v31 v32 v33 (IntKind.wrap .i64 (v34+1)) v35 v36 v37 v38 v39 v40 v41 v42 v43 v44 v45 v46 v47 v48 v49 v50 v51 v52 v53 v54 v55 v56 v57 v58 (v59++[r66.1.1]) v60 v61 v62 v63 v64 v65
 else none
noncomputable def Zev (L2:Z3i) (v2 v3:Int) (v4:Bool) (v5:Int) (v6:ByteArray) (v7 v8 v9 v10 v11 v12:Int) (v13:List Int) (v14 v15 v16 v17 v18:Int) (v19:List Qky) (v20 v21:Int) (v22 v23:List Qla) (v24:List Qrq) (v25 v26 v27:Int) (v28:List Qyy) (v29:List Qrq):Option Qr0:=
 bif decide (v3<v2) then
  bif decide (0≤v3)&&decide (v3<(v29.length:Int)) then
   bif decide (0≤v3)&&decide (v3<(v29.length:Int)) then
    L2 v2 v3 v19 (v19.length:Int) 0 v4 v5 v6 v7 v8 v9 v10 v11 v12 v13 v14 v15 v16 v17 v18 v19 v20 v21 v22 v23 v24 v25 v26 v27 v28 ((List.getD v29 v3.toNat Zns).1) (((List.getD v29 v3.toNat Zns).2).1) ((((List.getD v29 v3.toNat Zns).2).2).1) (((((List.getD v29 v3.toNat Zns).2).2).2).1) (((((List.getD v29 v3.toNat Zns).2).2).2).2) v29
   else none
  else none
 else
  some ((v28,()),())
noncomputable def Zf1 (L2:Z3i) (L1:Z2e) (v30 v31:Int) (v32:List Qky) (v33 v34:Int) (v35:Bool) (v36:Int) (v37:ByteArray) (v38 v39 v40 v41 v42 v43:Int) (v44:List Int) (v45 v46 v47 v48 v49:Int) (v50:List Qky) (v51 v52:Int) (v53 v54:List Qla) (v55:List Qrq) (v56 v57 v58:Int) (v59:List Qyy) (v60 v61 v62:Int) (v63:ByteArray) (v64:Int) (v65:List Qrq):Option Qr0:=
 bif decide (v34<v33) then
  bif decide (0≤v34)&&decide (v34<(v32.length:Int)) then
   bif v60==1 then
    Option.bind (Z0i (v35,v36,v37,(v38,v39,v40,v41,v42,v43,v44,v45,v46,v47,v48,v49,v50),(v51,v52,v53,v54,v55,v56,v57),v58) 7 ((List.getD v32 v34.toNat (0,0,0)).1) v61 0 v63) fun r66=>
    Zf3 v59 L2 v30 v31 v32 v33 v34 v35 v36 v37 v38 v39 v40 v41 v42 v43 v44 v45 v46 v47 v48 v49 v50 v51 v52 v53 v54 v55 v56 v57 v58 r66 v60 v61 v62 v63 v64 v65
   else
    Option.bind (Z0i (v35,v36,v37,(v38,v39,v40,v41,v42,v43,v44,v45,v46,v47,v48,v49,v50),(v51,v52,v53,v54,v55,v56,v57),v58) 9 ((List.getD v32 v34.toNat (0,0,0)).1) v61 v62 (⟨#[]⟩:ByteArray)) fun r67=>
    Zf3 v59 L2 v30 v31 v32 v33 v34 v35 v36 v37 v38 v39 v40 v41 v42 v43 v44 v45 v46 v47 v48 v49 v50 v51 v52 v53 v54 v55 v56 v57 v58 r67 v60 v61 v62 v63 v64 v65
  else none
 else
  L1 v30 (IntKind.wrap .i64 (v31+1)) v35 v36 v37 v38 v39 v40 v41 v42 v43 v44 v45 v46 v47 v48 v49 v50 v51 v52 v53 v54 v55 v56 v57 v58 v59 v65
noncomputable def Zhi (L1:Z2e) (n_0:Bool × Int × ByteArray × Qt7 × Z2k × Int) (old_1:Int × Int × Qkz × Qkz × Qso × Int × Int):Option Qr0:=
 Option.bind (Zk0 (g4 n_0) old_1) fun r1=>
 L1 (r1.1.1.length:Int) 0 n_0.1 n_0.2.1 n_0.2.2.1 (g3 n_0).1 (g3 n_0).2.1 (g3 n_0).2.2.1 (g3 (g3 n_0)) (g4 (g3 n_0)) (g5 (g3 n_0)) (g6 (g3 n_0)) (g7 (g3 n_0)) (g8 (g3 n_0)) (g9 (g3 n_0)) (g10 (g3 n_0)) (g11 (g3 n_0)) (h12 (g3 n_0)) (g4 n_0).1 (g4 n_0).2.1 (g4 n_0).2.2.1 (g3 (g4 n_0)) (g4 (g4 n_0)) (g5 (g4 n_0)) (h6 (g4 n_0)) (h5 n_0) [] r1.1.1
noncomputable def Zfc (n:Nat) (m1:Nat) (r1:Z2e):Nat→Z3i:=iter (fun _ _ _ _ _ _ _ _ _ _ _ _ _ _ _ _ _ _ _ _ _ _ _ _ _ _ _ _ _ _ _ _ _ _ _ _=>none) fun L=>Zf1 L r1
noncomputable def Zeu (n:Nat):Nat→Z2e:=Qjg (fun _ _ _ _ _ _ _ _ _ _ _ _ _ _ _ _ _ _ _ _ _ _ _ _ _ _ _ _=>none) fun m L=>Zev (Zfc n m L n)
noncomputable def Qyu (n m:Nat) (v2 v3:Int) (v4:Bool) (v5:Int) (v6:ByteArray) (v7 v8 v9 v10 v11 v12:Int) (v13:List Int) (v14 v15 v16 v17 v18:Int) (v19:List Qky) (v20 v21:Int) (v22 v23:List Qla) (v24:List Qrq) (v25 v26 v27:Int) (v28:List Qyy) (v29:List Qrq):Option Qr0:=
 Qjv Zhl tab (fiB [.val t38,.val t36] Z90) n [.val t38,.val t36] [⟨t48,[true],none⟩] Tryz.f49 [1,0,1,0] [] [2,4,12,13,14] m
 ⟨[(2,V1 (.ptr (2,0) 0)),(4,V1 (.ref (888888,4))),(12,V1 (.ref (888888,12))),(13,Vp t2 v2),(14,Vp t2 v3)],[((2,0),Ob.box 39 [LV.pure t4 v4,LV.pure t2 v5,LV.pure t9 v6,LV.pure t2 v7,LV.pure t2 v8,LV.pure t2 v9,LV.pure t2 v10,LV.pure t2 v11,LV.pure t2 v12,LV.pure t28 v13,LV.pure t2 v14,LV.pure t2 v15,LV.pure t2 v16,LV.pure t2 v17,LV.pure t2 v18,LV.pure t29 v19,LV.pure t2 v20,LV.pure t2 v21,LV.pure t32 v22,LV.pure t32 v23,LV.pure t33 v24,LV.pure t2 v25,LV.pure t2 v26,LV.pure t2 v27]),((888888,4),Ob.row 46 t45 v28),((888888,12),Ob.row 55 t54 v29)]⟩
noncomputable def Z3d (n m1 m:Nat) (v30 v31:Int) (v32:List Qky) (v33 v34:Int) (v35:Bool) (v36:Int) (v37:ByteArray) (v38 v39 v40 v41 v42 v43:Int) (v44:List Int) (v45 v46 v47 v48 v49:Int) (v50:List Qky) (v51 v52:Int) (v53 v54:List Qla) (v55:List Qrq) (v56 v57 v58:Int) (v59:List Qyy) (v60 v61 v62:Int) (v63:ByteArray) (v64:Int) (v65:List Qrq):Option Qr0:=
 Qjv Zhl tab (fiB [.val t38,.val t36] Z90) n [.val t38,.val t36] [⟨t48,[true],none⟩] Tryz.f49 [1,0,1,0,0,1,1,0,0,1,1,0] [(m1,[2,4,12,13,14])] [2,4,6,12,13,14,20,21,22] m
 ⟨[(2,V1 (.ptr (2,0) 0)),(4,V1 (.ref (888888,4))),(6,V1 (.ptr (6,0) 0)),(12,V1 (.ref (888888,12))),(13,Vp t2 v30),(14,Vp t2 v31),(20,Vp t29 v32),(21,Vp t2 v33),(22,Vp t2 v34)],[((2,0),Ob.box 39 [LV.pure t4 v35,LV.pure t2 v36,LV.pure t9 v37,LV.pure t2 v38,LV.pure t2 v39,LV.pure t2 v40,LV.pure t2 v41,LV.pure t2 v42,LV.pure t2 v43,LV.pure t28 v44,LV.pure t2 v45,LV.pure t2 v46,LV.pure t2 v47,LV.pure t2 v48,LV.pure t2 v49,LV.pure t29 v50,LV.pure t2 v51,LV.pure t2 v52,LV.pure t32 v53,LV.pure t32 v54,LV.pure t33 v55,LV.pure t2 v56,LV.pure t2 v57,LV.pure t2 v58]),((888888,4),Ob.row 46 t45 v59),((6,0),Ob.box 55 [LV.pure t2 v60,LV.pure t2 v61,LV.pure t2 v62,LV.pure t9 v63,LV.pure t2 v64]),((888888,12),Ob.row 55 t54 v65)]⟩
theorem Zd8 (n m1:Nat):∀ m,Z3d n m1 m=Zfc n m1 (Qyu n m1) m
 | 0=>rfl
 | m+1=>by rw [show Z3d n m1 (m+1)=Zf1 (Z3d n m1 m) (Qyu n m1) from by kernel_rfl,Zd8 n m1 m];rfl
theorem Zd6 (n:Nat):∀ m,Qyu n m=Zeu n m
 | 0=>rfl
 | m+1=>by rw [show Qyu n (m+1)=Zev (Z3d n m n) from by kernel_rfl,Zd8 n m n,Zd6 n m];rfl
noncomputable def Zha (n:Nat) (n_0:Bool × Int × ByteArray × Qt7 × Z2k × Int) (old_1:Int × Int × Qkz × Qkz × Qso × Int × Int):Option Qr0:=Zhi (Zeu n n) n_0 old_1
noncomputable def Z5g (n_0:Bool × Int × ByteArray × Qt7 × Z2k × Int) (old_1:Int × Int × Qkz × Qkz × Qso × Int × Int):Option Qr0:=Zha 1099511627776 n_0 old_1
noncomputable def Zig:Ent:=⟨[.val t38,.val t36],[⟨t48,[true],none⟩],fun x=>Z5g x.1 x.2.1⟩
theorem Z47:GD 49 Zig:=fnl Z90 (fun n x=>Zha n x.1 x.2.1) (Qjy Z1r (Qjy Zi6 Qk3)) Tryz.func49 fun n x=>Eq.trans (b:=Zhi (Qyu n n) x.1 x.2.1) (by kernel_rfl) (by rw [Zd6 n n];rfl)
noncomputable def Zox (n_0:Bool × Int × ByteArray × Qt7 × Z2k × Int) (s_1:ByteArray):Option ((Zrn × Z9c × Bool × Unit) × Unit):=
 Option.bind (Qqp n_0) fun r1=>
 bif !n_0.1 then
  some ((r1.1.1,[],false,()),())
 else
 bif (g3 n_0).1 != 1 then
  some ((r1.1.1,[],false,()),())
 else
  Option.bind (Zp6 (g4 n_0) s_1) fun r2=>
  bif !r2.1.2.1 then
   some ((r1.1.1,[],false,()),())
  else
   Option.bind (Z5g (u4 r1.1.1 r2.1.1) (g4 n_0)) fun r3=>
   some (((u4 r1.1.1 r2.1.1),r3.1.1,true,()),())
noncomputable def Zpb:Ent:=⟨[.val t38,.val t9],[⟨t38,(nF 24),none⟩,⟨t48,[true],none⟩,⟨t4,[false],none⟩],fun x=>Zox x.1 x.2.1⟩
theorem Zkv:GD 23 Zpb:=fnk 1 (fo [[1,2,4,16,17,18,19],[1,2,4,7,16,17,18,19],[1,2,4,7,20],[4,5,6],[2,4,7,8,9],[2,4,7,8,30],[4,5,6],[2,4,7],[4,5,6]]) (Qjy Quq (Qjy Z47 (Qjy Zky Qk3))) Tryz.func23
abbrev Qxr:Type:=(Int × Int × IV × Unit) × Unit
noncomputable def Zo7:Ctx:=[]
def Zeo:Fi:=fo [[0,2,3,11,12,33,34,37,38],[0,2,3,11,12,13,33,34,37,38],[0,2,3,5,11,12,33,34,37,38],[0,2,3,5,11,12,33,34,37,38],[0,2,3,5,11,12,33,34,37,38],[0,2,3,5,11,12,29,33,34,37,38],[2,3,39],[2,3,4],[2,3,4]]
abbrev Z81:Type:=List Int→Int→Int→Option Qxr
noncomputable def Z2w (L1:Z81) (v1:List Int) (v2 v3:Int):Option Qxr:=
 bif decide (v3<(v1.length:Int)) then
  bif decide (v3<5) then
   bif decide (0≤v3)&&decide (v3<(v1.length:Int)) then
    bif decide (0≤IntKind.wrap .i64 (7*v3)) then
     bif decide (List.getD v1 v3.toNat 0 ≥ 128) then
      L1 v1 (IntKind.wrap .i64 ((BitVec.ofInt 64 v2 ||| BitVec.ofInt 64 (IntKind.wrap .i64 ((IntKind.wrap .i64 (IntKind.wrap .u8 ((BitVec.ofInt 8 (List.getD v1 v3.toNat 0) &&& BitVec.ofInt 8 127).toNat)))*2 ^ (min ((IntKind.wrap .i64 (7*v3)).toNat) 64)))).toNat)) (IntKind.wrap .i64 (v3+1))
     else
     bif decide (IntKind.wrap .i64 (v3+1)>1) then
      bif (List.getD v1 v3.toNat 0)==0 then
       some ((0,0,IV.mk 216 [],()),())
      else
      bif decide (IntKind.wrap .i64 ((BitVec.ofInt 64 v2 ||| BitVec.ofInt 64 (IntKind.wrap .i64 ((IntKind.wrap .i64 (IntKind.wrap .u8 ((BitVec.ofInt 8 (List.getD v1 v3.toNat 0) &&& BitVec.ofInt 8 127).toNat)))*2 ^ (min ((IntKind.wrap .i64 (7*v3)).toNat) 64)))).toNat)>1073741824) then
       some ((0,0,IV.mk 216 [],()),())
      else
       some ((IntKind.wrap .i64 ((BitVec.ofInt 64 v2 ||| BitVec.ofInt 64 (IntKind.wrap .i64 ((IntKind.wrap .i64 (IntKind.wrap .u8 ((BitVec.ofInt 8 (List.getD v1 v3.toNat 0) &&& BitVec.ofInt 8 127).toNat)))*2 ^ (min ((IntKind.wrap .i64 (7*v3)).toNat) 64)))).toNat),IntKind.wrap .i64 (v3+1),IV.nil,()),())
     else
     bif decide (IntKind.wrap .i64 ((BitVec.ofInt 64 v2 ||| BitVec.ofInt 64 (IntKind.wrap .i64 ((IntKind.wrap .i64 (IntKind.wrap .u8 ((BitVec.ofInt 8 (List.getD v1 v3.toNat 0) &&& BitVec.ofInt 8 127).toNat)))*2 ^ (min ((IntKind.wrap .i64 (7*v3)).toNat) 64)))).toNat)>1073741824) then
      some ((0,0,IV.mk 216 [],()),())
     else
      some ((IntKind.wrap .i64 ((BitVec.ofInt 64 v2 ||| BitVec.ofInt 64 (IntKind.wrap .i64 ((IntKind.wrap .i64 (IntKind.wrap .u8 ((BitVec.ofInt 8 (List.getD v1 v3.toNat 0) &&& BitVec.ofInt 8 127).toNat)))*2 ^ (min ((IntKind.wrap .i64 (7*v3)).toNat) 64)))).toNat),IntKind.wrap .i64 (v3+1),IV.nil,()),())
    else none
   else none
  else
   some ((0,0,IV.mk 216 [],()),())
 else
  some ((0,0,IV.mk 216 [],()),())
noncomputable def Zib (L1:Z81) (b_0:List Int):Option Qxr:=
 L1 b_0 0 0
noncomputable def Z3j (n:Nat):Nat→Z81:=iter (fun _ _ _=>none) fun L=>Z2w L
noncomputable def Z2i (n m:Nat) (v1:List Int) (v2 v3:Int):Option Qxr:=
 Qjv Zo7 tab (fiB [.val t25] Zeo) n [.val t25] [⟨t2,[false],none⟩,⟨t2,[false],none⟩,⟨t20,[false],none⟩] Tryz.f197 [1,0,0] [] [0,2,3] m
 ⟨[(0,Vp t25 v1),(2,Vp t2 v2),(3,Vp t2 v3)],[]⟩
theorem Zd7 (n:Nat):∀ m,Z2i n m=Z3j n m
 | 0=>rfl
 | m+1=>by rw [show Z2i n (m+1)=Z2w (Z2i n m) from by kernel_rfl,Zd7 n m];rfl
noncomputable def Zhq (n:Nat) (b_0:List Int):Option Qxr:=Zib (Z3j n n) b_0
noncomputable def Zhm (b_0:List Int):Option Qxr:=Zhq 1099511627776 b_0
noncomputable def Zo2:Ent:=⟨[.val t25],[⟨t2,[false],none⟩,⟨t2,[false],none⟩,⟨t20,[false],none⟩],fun x=>Zhm x.1⟩
theorem Zja:GD 197 Zo2:=fnl Zeo (fun n x=>Zhq n x.1) Qk3 Tryz.func197 fun n x=>Eq.trans (b:=Zib (Z2i n n) x.1) (by kernel_rfl) (by rw [Zd7 n n];rfl)
noncomputable def Z8k (b_0:List Int):Option ((Int × Int × Bool × Unit) × Unit):=
 Option.bind (Zhm b_0) fun r1=>
 some ((r1.1.1,r1.1.2.1,!(IV.is r1.1.2.2.1 216),()),())
noncomputable def Znr:Ent:=⟨[.val t25],[⟨t2,[false],none⟩,⟨t2,[false],none⟩,⟨t4,[false],none⟩],fun x=>Z8k x.1⟩
theorem Zab:GD 176 Znr:=fnk 1 (fo [[0],[2,3,5],[2,3,7],[2,3,4]]) (Qjy Zja Qk3) Tryz.func176
noncomputable def Qka (r_0:(List Int) × IV) (what_1:ByteArray):Option ((Int × Unit) × (Zoa × Unit)):=
 bif !(IV.isNil r_0.2) then
  some ((0,()),(r_0,()))
 else
  Option.bind (Z8k r_0.1) fun r1=>
  bif !r1.1.2.2.1 then
   bif (decide (0≤r1.1.2.1)&&decide (r1.1.2.1≤(r_0.1.length:Int)))&&decide ((r_0.1.length:Int)≤(r_0.1.length:Int)) then
    some ((r1.1.1,()),((List.drop r1.1.2.1.toNat (List.take ((r_0.1.length:Int).toNat) r_0.1),IV.mk 134 [.str what_1]),()))
   else none
  else
  bif (decide (0≤r1.1.2.1)&&decide (r1.1.2.1≤(r_0.1.length:Int)))&&decide ((r_0.1.length:Int)≤(r_0.1.length:Int)) then
   some ((r1.1.1,()),((List.drop r1.1.2.1.toNat (List.take ((r_0.1.length:Int).toNat) r_0.1),r_0.2),()))
  else none
noncomputable def Z6i:Ent:=⟨[.box 131 Zr5 [false,false],.val t9],[⟨t2,[false],none⟩],fun x=>Qka x.1 x.2.1⟩
theorem Zb5:GD 146 Z6i:=fnk 1 (fo [[0,1],[0,1,12],[0,4],[0,1,5,6,7],[0,1,5,6,23],[0,5,6],[0,5],[0,4]]) (Qjy Zab Qk3) Tryz.func146
noncomputable def Z63 (b_0:List Int):Option ((ByteArray × Int × Bool × Unit) × Unit):=
 Option.bind (Z8k b_0) fun r1=>
 bif !r1.1.2.2.1 then
  some (((⟨#[]⟩:ByteArray),0,false,()),())
 else
 bif decide (r1.1.1>IntKind.wrap .i64 ((b_0.length:Int) - r1.1.2.1)) then
  some (((⟨#[]⟩:ByteArray),0,false,()),())
 else
 bif (decide (0≤r1.1.2.1)&&decide (r1.1.2.1≤IntKind.wrap .i64 (r1.1.2.1+r1.1.1)))&&decide (IntKind.wrap .i64 (r1.1.2.1+r1.1.1)≤(b_0.length:Int)) then
  some ((Q5g (List.drop r1.1.2.1.toNat (List.take ((IntKind.wrap .i64 (r1.1.2.1+r1.1.1)).toNat) b_0)),IntKind.wrap .i64 (r1.1.2.1+r1.1.1),true,()),())
 else none
noncomputable def Zi8:Ent:=⟨[.val t25],[⟨t9,[false],none⟩,⟨t2,[false],none⟩,⟨t4,[false],none⟩],fun x=>Z63 x.1⟩
theorem Zd4:GD 177 Zi8:=fnk 1 (fo [[0,15,16,17,18,19,20],[0,3,4,5,15,16,17,18,19,20],[0,3,5,21],[2,3,4],[2,3,4]]) (Qjy Zab Qk3) Tryz.func177
noncomputable def Qmd (r_0:(List Int) × IV) (what_1:ByteArray):Option (Zpd × (Zoa × Unit)):=
 bif !(IV.isNil r_0.2) then
  some (((⟨#[]⟩:ByteArray),()),(r_0,()))
 else
  Option.bind (Z63 r_0.1) fun r1=>
  bif !r1.1.2.2.1 then
   bif (decide (0≤r1.1.2.1)&&decide (r1.1.2.1≤(r_0.1.length:Int)))&&decide ((r_0.1.length:Int)≤(r_0.1.length:Int)) then
    some ((r1.1.1,()),((List.drop r1.1.2.1.toNat (List.take ((r_0.1.length:Int).toNat) r_0.1),IV.mk 134 [.str what_1]),()))
   else none
  else
  bif (decide (0≤r1.1.2.1)&&decide (r1.1.2.1≤(r_0.1.length:Int)))&&decide ((r_0.1.length:Int)≤(r_0.1.length:Int)) then
   some ((r1.1.1,()),((List.drop r1.1.2.1.toNat (List.take ((r_0.1.length:Int).toNat) r_0.1),r_0.2),()))
  else none
noncomputable def Z5j:Ent:=⟨[.box 131 Zr5 [false,false],.val t9],[⟨t9,[false],none⟩],fun x=>Qmd x.1 x.2.1⟩
theorem Z9w:GD 147 Z5j:=fnk 1 (fo [[0,1],[0,1,12],[0,4],[0,1,5,6,7],[0,1,5,6,23],[0,5,6],[0,5],[0,4]]) (Qjy Zd4 Qk3) Tryz.func147
abbrev Ql2:Type:=(Qyy × Unit) × (Zoa × Unit)
noncomputable def Qz2:Ctx:=[(146,Z6i),(147,Z5j)]
def Qtm:Fi:=fo [[0,2,34,35,36,37,38],[0,2,34,35,36,37,38],[0,2,34,35,36,37,38],[0,2,3,34,35,36,37,38],[0,2,3,25,34,35,36,37,38],[0,2,3,34,35,36,37,38],[0,2,3,34,35,36,37,38,39],[0,2,3,34,35,36,37,38],[0,2,3,34,35,36,37,38],[0,2],[0,2],[0,2]]
abbrev Qpi:Type:=Int→List Int→IV→Int→Int→Int→Int→Int→Int→Int→Int→ByteArray→List Int→Option Ql2
abbrev Z5n:Type:=Int→Bool→List Int→IV→Int→Int→Int→Int→Int→Int→Int→Int→ByteArray→List Int→Option Ql2
noncomputable def Qpj (L1:Qpi) (v8:Int) (v9:List Int) (v10:IV) (v11 v12 v13 v14 v15 v16 v17 v18:Int) (v19:ByteArray) (v20:List Int):Option Ql2:=
 bif decide (v8>0) then
  bif IV.isNil v10 then
   Option.bind (Qka (v9,v10) (⟨#[115,116,101,112]⟩:ByteArray)) fun r21=>
   bif Nat.ble (v20.length+1) 1073741824 then
    L1 (IntKind.wrap .i64 (v8 - 1)) r21.2.1.1 r21.2.1.2 v11 v12 v13 v14 v15 v16 v17 v18 v19 (v20++[r21.1.1])
   else none
  else
   Option.bind (Qka (v9,v10) (⟨#[108,111]⟩:ByteArray)) fun r22=>
   Option.bind (Qka r22.2.1 (⟨#[104,105]⟩:ByteArray)) fun r23=>
   Option.bind (Qmd r23.2.1 (⟨#[116,101,120,116]⟩:ByteArray)) fun r24=>
   some (((v11,v12,v13,v14,v15,v16,v20,r22.1.1,r23.1.1,r24.1.1),()),(r24.2.1,()))
 else
  Option.bind (Qka (v9,v10) (⟨#[108,111]⟩:ByteArray)) fun r25=>
  Option.bind (Qka r25.2.1 (⟨#[104,105]⟩:ByteArray)) fun r26=>
  Option.bind (Qmd r26.2.1 (⟨#[116,101,120,116]⟩:ByteArray)) fun r27=>
  some (((v11,v12,v13,v14,v15,v16,v20,r25.1.1,r26.1.1,r27.1.1),()),(r27.2.1,()))
noncomputable def Z4w (L3:Qpi) (v28:Int) (v29:Bool) (v30:List Int) (v31:IV) (v32 v33 v34 v35 v36 v37 v38 v39:Int) (v40:ByteArray) (v41:List Int):Option Ql2:=
 bif decide (v28>0) then
  bif IV.isNil v31 then
   Option.bind (Qka (v30,v31) (⟨#[115,116,101,112]⟩:ByteArray)) fun r42=>
   bif Nat.ble (v41.length+1) 1073741824 then
    L3 (IntKind.wrap .i64 (v28 - 1)) r42.2.1.1 r42.2.1.2 v32 v33 v34 v35 v36 v37 v38 v39 v40 (v41++[r42.1.1])
   else none
  else
   Option.bind (Qka (v30,v31) (⟨#[108,111]⟩:ByteArray)) fun r63=>
   Option.bind (Qka r63.2.1 (⟨#[104,105]⟩:ByteArray)) fun r64=>
   Option.bind (Qmd r64.2.1 (⟨#[116,101,120,116]⟩:ByteArray)) fun r65=>
   some (((v32,v33,v34,v35,v36,v37,v41,r63.1.1,r64.1.1,r65.1.1),()),(r65.2.1,()))
 else
  Option.bind (Qka (v30,v31) (⟨#[108,111]⟩:ByteArray)) fun r66=>
  Option.bind (Qka r66.2.1 (⟨#[104,105]⟩:ByteArray)) fun r67=>
  Option.bind (Qmd r67.2.1 (⟨#[116,101,120,116]⟩:ByteArray)) fun r68=>
  some (((v32,v33,v34,v35,v36,v37,v41,r66.1.1,r67.1.1,r68.1.1),()),(r68.2.1,()))
noncomputable def Z5h (L3:Qpi) (v43:Int) (v44:List Int) (v45:IV) (v46 v47 v48 v49 v50 v51 v52 v53:Int) (v54:ByteArray) (v55:List Int):Option Ql2:=
 bif decide (v43>0) then
  bif IV.isNil v45 then
   Option.bind (Qka (v44,v45) (⟨#[115,116,101,112]⟩:ByteArray)) fun r56=>
   bif Nat.ble (v55.length+1) 1073741824 then
    L3 (IntKind.wrap .i64 (v43 - 1)) r56.2.1.1 r56.2.1.2 v46 v47 v48 v49 v50 v51 v52 v53 v54 (v55++[r56.1.1])
   else none
  else
   Option.bind (Qka (v44,v45) (⟨#[108,111]⟩:ByteArray)) fun r57=>
   Option.bind (Qka r57.2.1 (⟨#[104,105]⟩:ByteArray)) fun r58=>
   Option.bind (Qmd r58.2.1 (⟨#[116,101,120,116]⟩:ByteArray)) fun r59=>
   some (((v46,v47,v48,v49,v50,v51,v55,r57.1.1,r58.1.1,r59.1.1),()),(r59.2.1,()))
 else
  Option.bind (Qka (v44,v45) (⟨#[108,111]⟩:ByteArray)) fun r60=>
  Option.bind (Qka r60.2.1 (⟨#[104,105]⟩:ByteArray)) fun r61=>
  Option.bind (Qmd r61.2.1 (⟨#[116,101,120,116]⟩:ByteArray)) fun r62=>
  some (((v46,v47,v48,v49,v50,v51,v55,r60.1.1,r61.1.1,r62.1.1),()),(r62.2.1,()))
noncomputable def Qux (L1:Qpi) (L2:Z5n) (r_0:(List Int) × IV):Option Ql2:=
 Option.bind (Qka r_0 (⟨#[107,105,110,100]⟩:ByteArray)) fun r1=>
 Option.bind (Qka r1.2.1 (⟨#[102,114,111,109]⟩:ByteArray)) fun r2=>
 Option.bind (Qka r2.2.1 (⟨#[116,111]⟩:ByteArray)) fun r3=>
 Option.bind (Qka r3.2.1 (⟨#[105,110,99]⟩:ByteArray)) fun r4=>
 Option.bind (Qka r4.2.1 (⟨#[101,112,111,99,104]⟩:ByteArray)) fun r5=>
 Option.bind (Qka r5.2.1 (⟨#[97,103,101]⟩:ByteArray)) fun r6=>
 Option.bind (Qka r6.2.1 (⟨#[119,97,121]⟩:ByteArray)) fun r7=>
 bif decide (r7.1.1>64) then
  L1 r7.1.1 r7.2.1.1 (IV.mk 134 [.str (⟨#[119,97,121]⟩:ByteArray)]) r1.1.1 r2.1.1 r3.1.1 r4.1.1 r5.1.1 r6.1.1 0 0 (⟨#[]⟩:ByteArray) []
 else
  L2 r7.1.1 (decide (r7.1.1>64)) r7.2.1.1 r7.2.1.2 r1.1.1 r2.1.1 r3.1.1 r4.1.1 r5.1.1 r6.1.1 0 0 (⟨#[]⟩:ByteArray) []
noncomputable def Qnh (n:Nat):Nat→Qpi:=iter (fun _ _ _ _ _ _ _ _ _ _ _ _ _=>none) fun L=>Qpj L
noncomputable def Z51 (n:Nat):Nat→Qpi:=iter (fun _ _ _ _ _ _ _ _ _ _ _ _ _=>none) fun L=>Z5h L
noncomputable def Qtp (n:Nat):Nat→Z5n:=Qjg (fun _ _ _ _ _ _ _ _ _ _ _ _ _ _=>none) fun m L=>Z4w (Z51 n m)
noncomputable def Qtr (n m:Nat) (v8:Int) (v9:List Int) (v10:IV) (v11 v12 v13 v14 v15 v16 v17 v18:Int) (v19:ByteArray) (v20:List Int):Option Ql2:=
 Qjv Qz2 tab (fiB [.box 131 Zr5 [false,false]] Qtm) n [.box 131 Zr5 [false,false]] [⟨t45,(nF 6++[true,false,false,false]),none⟩] Tryz.f86 [1,1,1,1,1,0,0] [] [0,2,3] m
 ⟨[(0,V1 (.ptr (0,0) 0)),(2,V1 (.ptr (2,0) 0)),(3,Vp t2 v8)],[((0,0),Ob.box 131 [LV.pure t25 v9,LV.pure t20 v10]),((2,0),Ob.box 46 [LV.pure t2 v11,LV.pure t2 v12,LV.pure t2 v13,LV.pure t2 v14,LV.pure t2 v15,LV.pure t2 v16,LV.ref (2,7),LV.pure t2 v17,LV.pure t2 v18,LV.pure t9 v19]),((2,7),Ob.row 3 t2 v20)]⟩
noncomputable def Qy0 (n m:Nat) (v28:Int) (v29:Bool) (v30:List Int) (v31:IV) (v32 v33 v34 v35 v36 v37 v38 v39:Int) (v40:ByteArray) (v41:List Int):Option Ql2:=
 Qjv Qz2 tab (fiB [.box 131 Zr5 [false,false]] Qtm) n [.box 131 Zr5 [false,false]] [⟨t45,(nF 6++[true,false,false,false]),none⟩] Tryz.f86 [1,1,1,1,1,0,0] [] [0,2,3,25] m
 ⟨[(0,V1 (.ptr (0,0) 0)),(2,V1 (.ptr (2,0) 0)),(3,Vp t2 v28),(25,Vp t4 v29)],[((0,0),Ob.box 131 [LV.pure t25 v30,LV.pure t20 v31]),((2,0),Ob.box 46 [LV.pure t2 v32,LV.pure t2 v33,LV.pure t2 v34,LV.pure t2 v35,LV.pure t2 v36,LV.pure t2 v37,LV.ref (2,7),LV.pure t2 v38,LV.pure t2 v39,LV.pure t9 v40]),((2,7),Ob.row 3 t2 v41)]⟩
noncomputable def Qtn (n m:Nat) (v43:Int) (v44:List Int) (v45:IV) (v46 v47 v48 v49 v50 v51 v52 v53:Int) (v54:ByteArray) (v55:List Int):Option Ql2:=
 Qjv Qz2 tab (fiB [.box 131 Zr5 [false,false]] Qtm) n [.box 131 Zr5 [false,false]] [⟨t45,(nF 6++[true,false,false,false]),none⟩] Tryz.f86 [1,1,1,1,1,0,0] [] [0,2,3,25] m
 ⟨[(0,V1 (.ptr (0,0) 0)),(2,V1 (.ptr (2,0) 0)),(3,Vp t2 v43)],[((0,0),Ob.box 131 [LV.pure t25 v44,LV.pure t20 v45]),((2,0),Ob.box 46 [LV.pure t2 v46,LV.pure t2 v47,LV.pure t2 v48,LV.pure t2 v49,LV.pure t2 v50,LV.pure t2 v51,LV.ref (2,7),LV.pure t2 v52,LV.pure t2 v53,LV.pure t9 v54]),((2,7),Ob.row 3 t2 v55)]⟩
theorem Z2d (n:Nat):∀ m,Qtr n m=Qnh n m
 | 0=>rfl
 | m+1=>by rw [show Qtr n (m+1)=Qpj (Qtr n m) from by kernel_rfl,Z2d n m];rfl
theorem Z3n (n:Nat):∀ m,Qtn n m=Z51 n m
 | 0=>rfl
 | m+1=>by rw [show Qtn n (m+1)=Z5h (Qtn n m) from by kernel_rfl,Z3n n m];rfl
theorem Zc1 (n:Nat):∀ m,Qy0 n m=Qtp n m
 | 0=>rfl
 | m+1=>by rw [show Qy0 n (m+1)=Z4w (Qtn n m) from by kernel_rfl,Z3n n m];rfl
noncomputable def Z6t (n:Nat) (r_0:(List Int) × IV):Option Ql2:=Qux (Qnh n n) (Qtp n n) r_0
noncomputable def Z3q (r_0:(List Int) × IV):Option Ql2:=Z6t 1099511627776 r_0
noncomputable def Z6q:Ent:=⟨[.box 131 Zr5 [false,false]],[⟨t45,(nF 6++[true,false,false,false]),none⟩],fun x=>Z3q x.1⟩
theorem Zat:GD 86 Z6q:=fnl Qtm (fun n x=>Z6t n x.1) (Qjy Zb5 (Qjy Z9w Qk3)) Tryz.func86 fun n x=>Eq.trans (b:=Qux (Qtr n n) (Qy0 n n) x.1) (by kernel_rfl) (by rw [Z2d n n,Zc1 n n];rfl)
abbrev Qm8:Type:=(Int × Unit) × Unit
noncomputable def Z70:Ctx:=[]
def Qx1:Fi:=fo [[0,1],[0,1,7,8],[0,1,7,8,9],[0,1,5,7,8],[0,1,5,7,8,16],[4],[0,1,7,8],[4]]
abbrev Qru:Type:=List Int→(Int × Unit→Option (Bool × Unit))→Int→Int→Option Qm8
noncomputable def Qlt (L1:Qru) (v1:List Int) (v2:(Int × Unit→Option (Bool × Unit))) (v3 v4:Int):Option Qm8:=
 bif decide (v4<v3) then
  bif decide (0≤v4)&&decide (v4<(v1.length:Int)) then
   Option.bind (v2 (List.getD v1 v4.toNat 0,())) fun r5=>
   bif r5.1 then
    some ((v4,()),())
   else
    L1 v1 v2 v3 (IntKind.wrap .i64 (v4+1))
  else none
 else
  some (((-1),()),())
noncomputable def Qxo (L1:Qru) (s_0:List Int) (f_1:(Int × Unit→Option (Bool × Unit))):Option Qm8:=
 L1 s_0 f_1 (s_0.length:Int) 0
noncomputable def Ql1 (n:Nat):Nat→Qru:=iter (fun _ _ _ _=>none) fun L=>Qlt L
noncomputable def Qp7 (n m:Nat) (v1:List Int) (v2:(Int × Unit→Option (Bool × Unit))) (v3 v4:Int):Option Qm8:=
 Qjv Z70 tab (fiB [.val t28,.fn [t2] [t4]] Qx1) n [.val t28,.fn [t2] [t4]] [⟨t2,[false],none⟩] Tryz.f208 [1,0,1,0] [] [0,1,7,8] m
 ⟨[(0,Vp t28 v1),(1,V1 (.clo [t2] [t4] v2)),(7,Vp t2 v3),(8,Vp t2 v4)],[]⟩
theorem Qvh (n:Nat):∀ m,Qp7 n m=Ql1 n m
 | 0=>rfl
 | m+1=>by rw [show Qp7 n (m+1)=Qlt (Qp7 n m) from by kernel_rfl,Qvh n m];rfl
noncomputable def Qx8 (n:Nat) (s_0:List Int) (f_1:(Int × Unit→Option (Bool × Unit))):Option Qm8:=Qxo (Ql1 n n) s_0 f_1
noncomputable def Qu7 (s_0:List Int) (f_1:(Int × Unit→Option (Bool × Unit))):Option Qm8:=Qx8 1099511627776 s_0 f_1
noncomputable def Z7a:Ent:=⟨[.val t28,.fn [t2] [t4]],[⟨t2,[false],none⟩],fun x=>Qu7 x.1 x.2.1⟩
theorem Z48:GD 208 Z7a:=fnl Qx1 (fun n x=>Qx8 n x.1 x.2.1) Qk3 Tryz.func208 fun n x=>Eq.trans (b:=Qxo (Qp7 n n) x.1 x.2.1) (by kernel_rfl) (by rw [Qvh n n];rfl)
noncomputable def Qp9 (s_0:List Int) (f_1:(Int × Unit→Option (Bool × Unit))):Option ((Bool × Unit) × Unit):=
 Option.bind (Qu7 s_0 f_1) fun r1=>
 some ((decide (r1.1.1 ≥ 0),()),())
noncomputable def Z45:Ent:=⟨[.val t28,.fn [t2] [t4]],[⟨t4,[false],none⟩],fun x=>Qp9 x.1 x.2.1⟩
theorem Z07:GD 198 Z45:=fnk 1 (fo [[0,1],[4]]) (Qjy Z48 Qk3) Tryz.func198
noncomputable def Z7z (v_0 x_1 x_2:Int):Option ((Bool × Unit) × Unit):=
 bif decide (v_0<x_1) then
  some ((true,()),())
 else
  some ((decide (v_0>x_2),()),())
noncomputable def Ziq:Ent:=⟨[.val t2,.rbox t2,.rbox t2],[⟨t4,[false],none⟩],fun x=>Z7z x.1 x.2.1 x.2.2.1⟩
theorem Zdg:GD 199 Ziq:=fnk 1 (fo [[0,1,2,9,10,11],[4]]) Qk3 Tryz.func199
noncomputable def Qo7 (lo_0 hi_1:Int) (l_2:List Int):Option ((Bool × Unit) × Unit):=
 Option.bind (Qp9 l_2 (fun x=>(Z7z x.1 lo_0 hi_1).bind fun r=>some (r.1.1,()))) fun r1=>
 some ((!r1.1.1,()),())
noncomputable def Zpn:Ent:=⟨[.val t2,.val t2,.val t28],[⟨t4,[false],none⟩],fun x=>Qo7 x.1 x.2.1 x.2.2.1⟩
theorem Zdb:GD 178 Zpn:=fnk 1 (fo [[2,3,4],[6]]) (Qjy Z07 (Qjy Zdg Qk3)) Tryz.func178
noncomputable def Zkn (m_0:Int × Int × Int × Int × Int × Int × (List Int) × Int × Int × ByteArray):Option ((Qyy × Unit) × Unit):=
 some (((m_0.1,m_0.2.1,m_0.2.2.1,m_0.2.2.2.1,0,0,[],0,0,(⟨#[]⟩:ByteArray)),()),())
noncomputable def Zpp:Ent:=⟨[.val t45],[⟨t45,(nF 6++[true,false,false,false]),none⟩],fun x=>Zkn x.1⟩
theorem Zlh:GD 200 Zpp:=fnk 1 (fo [[1,2],[2]]) Qk3 Tryz.func200
abbrev Qof:Type:=(Int × Unit) × Unit
noncomputable def Zct:Ctx:=[]
def Z1g:Fi:=fo [[0,1],[0,1,7,8],[0,1,7,8,9],[0,1,5,7,8],[0,1,5,7,8,16],[4],[0,1,7,8],[4]]
abbrev Qv2:Type:=List Int→Int→Int→Int→Option Qof
noncomputable def Qnk (L1:Qv2) (v1:List Int) (v2 v3 v4:Int):Option Qof:=
 bif decide (v4<v3) then
  bif decide (0≤v4)&&decide (v4<(v1.length:Int)) then
   bif v2==(List.getD v1 v4.toNat 0) then
    some ((v4,()),())
   else
    L1 v1 v2 v3 (IntKind.wrap .i64 (v4+1))
  else none
 else
  some (((-1),()),())
noncomputable def Z25 (L1:Qv2) (s_0:List Int) (v_1:Int):Option Qof:=
 L1 s_0 v_1 (s_0.length:Int) 0
noncomputable def Qmf (n:Nat):Nat→Qv2:=iter (fun _ _ _ _=>none) fun L=>Qnk L
noncomputable def Qsj (n m:Nat) (v1:List Int) (v2 v3 v4:Int):Option Qof:=
 Qjv Zct tab (fiB [.val t28,.val t2] Z1g) n [.val t28,.val t2] [⟨t2,[false],none⟩] Tryz.f210 [1,0,1,0] [] [0,1,7,8] m
 ⟨[(0,Vp t28 v1),(1,Vp t2 v2),(7,Vp t2 v3),(8,Vp t2 v4)],[]⟩
theorem Qzm (n:Nat):∀ m,Qsj n m=Qmf n m
 | 0=>rfl
 | m+1=>by rw [show Qsj n (m+1)=Qnk (Qsj n m) from by kernel_rfl,Qzm n m];rfl
noncomputable def Z38 (n:Nat) (s_0:List Int) (v_1:Int):Option Qof:=Z25 (Qmf n n) s_0 v_1
noncomputable def Qz4 (s_0:List Int) (v_1:Int):Option Qof:=Z38 1099511627776 s_0 v_1
noncomputable def Zc0:Ent:=⟨[.val t28,.val t2],[⟨t2,[false],none⟩],fun x=>Qz4 x.1 x.2.1⟩
theorem Z7v:GD 210 Zc0:=fnl Z1g (fun n x=>Z38 n x.1 x.2.1) Qk3 Tryz.func210 fun n x=>Eq.trans (b:=Z25 (Qsj n n) x.1 x.2.1) (by kernel_rfl) (by rw [Qzm n n];rfl)
noncomputable def Qpp (s_0:List Int) (v_1:Int):Option ((Bool × Unit) × Unit):=
 Option.bind (Qz4 s_0 v_1) fun r1=>
 some ((decide (r1.1.1 ≥ 0),()),())
noncomputable def Qyr:Ent:=⟨[.val t28,.val t2],[⟨t4,[false],none⟩],fun x=>Qpp x.1 x.2.1⟩
theorem Qvk:GD 202 Qyr:=fnk 1 (fo [[0,1],[4]]) (Qjy Z7v Qk3) Tryz.func202
abbrev Qxw:Type:=(IV × Unit) × Unit
noncomputable def Znn:Ctx:=[(202,Qyr)]
def Zel:Fi:=fo [[0,9,10,11,14,15,16,17,31,32,35,36,37,38,39],[0,18,31,32,35,36,37,38,39],[2],[0,21,22,23,31,32,35,36,37,38,39],[0,21,22,23,24,31,32,35,36,37,38,39],[0,3,4,21,22,23,31,32,35,36,37,38,39],[0,3,21,22,23,31,32,35,36,37,38,39,40],[2],[0,21,22,23,31,32,35,36,37,38,39],[2]]
abbrev Z7i:Type:=List Int→List Int→Int→Int→Option Qxw
noncomputable def Qvf (L1:Z7i) (v1 v2:List Int) (v3 v4:Int):Option Qxw:=
 bif decide (v4<v3) then
  bif decide (0≤v4)&&decide (v4<(v2.length:Int)) then
   bif decide (List.getD v2 v4.toNat 0<1) then
    some ((IV.mk 222 [.int .i64 v4],()),())
   else
   bif decide (List.getD v2 v4.toNat 0>8) then
    some ((IV.mk 222 [.int .i64 v4],()),())
   else
   bif decide (0≤v4)&&decide (v4≤(v1.length:Int)) then
    Option.bind (Qpp (List.drop 0 (List.take v4.toNat v1)) (List.getD v2 v4.toNat 0)) fun r5=>
    bif r5.1.1 then
     some ((IV.mk 222 [.int .i64 v4],()),())
    else
     L1 v1 v2 v3 (IntKind.wrap .i64 (v4+1))
   else none
  else none
 else
  some ((IV.nil,()),())
noncomputable def Z62 (L1:Z7i) (p_0:List Int):Option Qxw:=
 bif decide ((p_0.length:Int)<1) then
  some ((IV.mk 222 [.int .i64 0],()),())
 else
 bif decide ((p_0.length:Int)>10) then
  some ((IV.mk 222 [.int .i64 0],()),())
 else
 bif decide (0<(p_0.length:Int)) then
  bif (List.getD p_0 0 0) != 1 then
   some ((IV.mk 222 [.int .i64 0],()),())
  else
   L1 p_0 p_0 (p_0.length:Int) 0
 else none
noncomputable def Qrs (n:Nat):Nat→Z7i:=iter (fun _ _ _ _=>none) fun L=>Qvf L
noncomputable def Z3h (n m:Nat) (v1 v2:List Int) (v3 v4:Int):Option Qxw:=
 Qjv Znn tab (fiB [.val t28] Zel) n [.val t28] [⟨t20,[false],none⟩] Tryz.f204 [1,1,0,1,0] [] [0,21,22,23] m
 ⟨[(0,Vp t28 v1),(21,Vp t28 v2),(22,Vp t2 v3),(23,Vp t2 v4)],[]⟩
theorem Zcc (n:Nat):∀ m,Z3h n m=Qrs n m
 | 0=>rfl
 | m+1=>by rw [show Z3h n (m+1)=Qvf (Z3h n m) from by kernel_rfl,Zcc n m];rfl
noncomputable def Zgv (n:Nat) (p_0:List Int):Option Qxw:=Z62 (Qrs n n) p_0
noncomputable def Zgg (p_0:List Int):Option Qxw:=Zgv 1099511627776 p_0
noncomputable def Znu:Ent:=⟨[.val t28],[⟨t20,[false],none⟩],fun x=>Zgg x.1⟩
theorem Ziv:GD 204 Znu:=fnl Zel (fun n x=>Zgv n x.1) (Qjy Qvk Qk3) Tryz.func204 fun n x=>Eq.trans (b:=Z62 (Z3h n n) x.1) (by kernel_rfl) (by rw [Zcc n n];rfl)
noncomputable def Z0a (p_0:List Int):Option ((Bool × Unit) × Unit):=
 Option.bind (Zgg p_0) fun r1=>
 some ((!(IV.is r1.1.1 222),()),())
noncomputable def Zpm:Ent:=⟨[.val t28],[⟨t4,[false],none⟩],fun x=>Z0a x.1⟩
theorem Zce:GD 183 Zpm:=fnk 1 (fo [[0],[4],[2]]) (Qjy Ziv Qk3) Tryz.func183
abbrev Qoe:Type:=(Bool × Unit) × Unit
noncomputable def Zcb:Ctx:=[]
def Z17:Fi:=fo [[0,1],[0,1,10],[4],[0,1,12,13],[0,1,12,13,14],[0,1,5,12,13],[0,1,12,13,24],[4],[0,1,12,13],[4]]
abbrev Qv4:Type:=List Int→List Int→Int→Int→Option Qoe
noncomputable def Qnm (L1:Qv4) (v1 v2:List Int) (v3 v4:Int):Option Qoe:=
 bif decide (v4<v3) then
  bif decide (0≤v4)&&decide (v4<(v1.length:Int)) then
   bif decide (0≤v4)&&decide (v4<(v2.length:Int)) then
    bif (List.getD v1 v4.toNat 0) != (List.getD v2 v4.toNat 0) then
     some ((false,()),())
    else
     L1 v1 v2 v3 (IntKind.wrap .i64 (v4+1))
   else none
  else none
 else
  some ((true,()),())
noncomputable def Qt1 (L1:Qv4) (s1_0 s2_1:List Int):Option Qoe:=
 bif (s1_0.length:Int) != (s2_1.length:Int) then
  some ((false,()),())
 else
  L1 s1_0 s2_1 (s1_0.length:Int) 0
noncomputable def Qnp (n:Nat):Nat→Qv4:=iter (fun _ _ _ _=>none) fun L=>Qnm L
noncomputable def Qrx (n m:Nat) (v1 v2:List Int) (v3 v4:Int):Option Qoe:=
 Qjv Zcb tab (fiB [.val t28,.val t28] Z17) n [.val t28,.val t28] [⟨t4,[false],none⟩] Tryz.f209 [1,1,0,1,0] [] [0,1,12,13] m
 ⟨[(0,Vp t28 v1),(1,Vp t28 v2),(12,Vp t2 v3),(13,Vp t2 v4)],[]⟩
theorem Qzk (n:Nat):∀ m,Qrx n m=Qnp n m
 | 0=>rfl
 | m+1=>by rw [show Qrx n (m+1)=Qnm (Qrx n m) from by kernel_rfl,Qzk n m];rfl
noncomputable def Z26 (n:Nat) (s1_0 s2_1:List Int):Option Qoe:=Qt1 (Qnp n n) s1_0 s2_1
noncomputable def Qz3 (s1_0 s2_1:List Int):Option Qoe:=Z26 1099511627776 s1_0 s2_1
noncomputable def Zcq:Ent:=⟨[.val t28,.val t28],[⟨t4,[false],none⟩],fun x=>Qz3 x.1 x.2.1⟩
theorem Z7y:GD 209 Zcq:=fnl Z17 (fun n x=>Z26 n x.1 x.2.1) Qk3 Tryz.func209 fun n x=>Eq.trans (b:=Qt1 (Qrx n n) x.1 x.2.1) (by kernel_rfl) (by rw [Qzk n n];rfl)
noncomputable def Qpz (a_0 b_1:Int × Int × Int × Int × Int × Int × (List Int) × Int × Int × ByteArray):Option ((Bool × Unit) × Unit):=
 bif a_0.1==b_1.1 then
  bif a_0.2.1==b_1.2.1 then
   bif a_0.2.2.1==b_1.2.2.1 then
    bif a_0.2.2.2.1==b_1.2.2.2.1 then
     bif a_0.2.2.2.2.1==b_1.2.2.2.2.1 then
      bif a_0.2.2.2.2.2.1==b_1.2.2.2.2.2.1 then
       Option.bind (Qz3 a_0.2.2.2.2.2.2.1 b_1.2.2.2.2.2.2.1) fun r1=>
       bif r1.1.1 then
        bif a_0.2.2.2.2.2.2.2.1==b_1.2.2.2.2.2.2.2.1 then
         bif a_0.2.2.2.2.2.2.2.2.1==b_1.2.2.2.2.2.2.2.2.1 then
          some ((Qeq a_0.2.2.2.2.2.2.2.2.2 b_1.2.2.2.2.2.2.2.2.2,()),())
         else
          some ((false,()),())
        else
         some ((false,()),())
       else
        some ((false,()),())
      else
       some ((false,()),())
     else
      some ((false,()),())
    else
     some ((false,()),())
   else
    some ((false,()),())
  else
   some ((false,()),())
 else
  some ((false,()),())
noncomputable def Zp9:Ent:=⟨[.val t45,.val t45],[⟨t4,[false],none⟩],fun x=>Qpz x.1 x.2.1⟩
theorem Zlb:GD 201 Zp9:=fnk 1 (fo [[2,3,11,12,13,14,15,18,19,20,21,22,25,26,27,28,29,32,33,34,35,36,39,40,41,42,43,46,47,48,49,50,53,54,55,56,57,60,61,62,63,64,67,68,69,70,71],[4]]) (Qjy Z7y Qk3) Tryz.func201
noncomputable def Z99 (m_0:Int × Int × Int × Int × Int × Int × (List Int) × Int × Int × ByteArray):Option ((Bool × Unit) × Unit):=
 Option.bind (Zkn m_0) fun r1=>
 bif m_0.1==2 then
  bif m_0.1==2 then
   bif m_0.1==2 then
    Option.bind (Qo7 0 1073741824 [m_0.2.2.2.2.1,m_0.2.2.2.2.2.1]) fun r2=>
    bif r2.1.1 then
     Option.bind (Z0a m_0.2.2.2.2.2.2.1) fun r3=>
     bif r3.1.1 then
      Option.bind (Qo7 0 1000000 [m_0.2.2.2.2.2.2.2.1,r1.1.1.2.2.2.2.2.2.2.2.1]) fun r4=>
      bif r4.1.1 then
       Option.bind (Qpz m_0 (r1.1.1.1,r1.1.1.2.1,r1.1.1.2.2.1,r1.1.1.2.2.2.1,m_0.2.2.2.2.1,m_0.2.2.2.2.2.1,m_0.2.2.2.2.2.2.1,m_0.2.2.2.2.2.2.2.1,r1.1.1.2.2.2.2.2.2.2.2)) fun r5=>
       some ((r5.1.1,()),())
      else
       some ((false,()),())
     else
      some ((false,()),())
    else
     some ((false,()),())
   else
    Option.bind (Qo7 0 1073741824 [m_0.2.2.2.2.1,m_0.2.2.2.2.2.1]) fun r6=>
    bif r6.1.1 then
     Option.bind (Z0a m_0.2.2.2.2.2.2.1) fun r7=>
     bif r7.1.1 then
      Option.bind (Qo7 0 1000000 [r1.1.1.2.2.2.2.2.2.2.1,m_0.2.2.2.2.2.2.2.2.1]) fun r8=>
      bif r8.1.1 then
       Option.bind (Qpz m_0 (r1.1.1.1,r1.1.1.2.1,r1.1.1.2.2.1,r1.1.1.2.2.2.1,m_0.2.2.2.2.1,m_0.2.2.2.2.2.1,m_0.2.2.2.2.2.2.1,r1.1.1.2.2.2.2.2.2.2.1,m_0.2.2.2.2.2.2.2.2.1,r1.1.1.2.2.2.2.2.2.2.2.2)) fun r9=>
       some ((r9.1.1,()),())
      else
       some ((false,()),())
     else
      some ((false,()),())
    else
     some ((false,()),())
  else
  bif m_0.1==7 then
   Option.bind (Qo7 1 1000000 [m_0.2.2.2.2.2.2.2.1]) fun r10=>
   bif r10.1.1 then
    bif decide ((m_0.2.2.2.2.2.2.2.2.2.size:Int)≤12) then
     Option.bind (Qpz m_0 (r1.1.1.1,r1.1.1.2.1,r1.1.1.2.2.1,r1.1.1.2.2.2.1,r1.1.1.2.2.2.2.1,r1.1.1.2.2.2.2.2.1,r1.1.1.2.2.2.2.2.2.1,m_0.2.2.2.2.2.2.2.1,r1.1.1.2.2.2.2.2.2.2.2.1,m_0.2.2.2.2.2.2.2.2.2)) fun r11=>
     some ((r11.1.1,()),())
    else
     some ((false,()),())
   else
    some ((false,()),())
  else
  bif m_0.1==8 then
   bif m_0.1==8 then
    bif decide (m_0.2.2.2.2.2.2.2.1≤m_0.2.2.2.2.2.2.2.2.1) then
     Option.bind (Qo7 1 1000000 [m_0.2.2.2.2.2.2.2.1,m_0.2.2.2.2.2.2.2.2.1]) fun r12=>
     bif r12.1.1 then
      Option.bind (Qpz m_0 (r1.1.1.1,r1.1.1.2.1,r1.1.1.2.2.1,r1.1.1.2.2.2.1,r1.1.1.2.2.2.2.1,r1.1.1.2.2.2.2.2.1,r1.1.1.2.2.2.2.2.2.1,m_0.2.2.2.2.2.2.2.1,m_0.2.2.2.2.2.2.2.2.1,r1.1.1.2.2.2.2.2.2.2.2.2)) fun r13=>
      some ((r13.1.1,()),())
     else
      some ((false,()),())
    else
     some ((false,()),())
   else
    Option.bind (Qpz m_0 r1.1.1) fun r14=>
    some ((r14.1.1,()),())
  else
  bif m_0.1==9 then
   bif decide (m_0.2.2.2.2.2.2.2.1≤m_0.2.2.2.2.2.2.2.2.1) then
    Option.bind (Qo7 1 1000000 [m_0.2.2.2.2.2.2.2.1,m_0.2.2.2.2.2.2.2.2.1]) fun r15=>
    bif r15.1.1 then
     Option.bind (Qpz m_0 (r1.1.1.1,r1.1.1.2.1,r1.1.1.2.2.1,r1.1.1.2.2.2.1,r1.1.1.2.2.2.2.1,r1.1.1.2.2.2.2.2.1,r1.1.1.2.2.2.2.2.2.1,m_0.2.2.2.2.2.2.2.1,m_0.2.2.2.2.2.2.2.2.1,r1.1.1.2.2.2.2.2.2.2.2.2)) fun r16=>
     some ((r16.1.1,()),())
    else
     some ((false,()),())
   else
    some ((false,()),())
  else
   Option.bind (Qpz m_0 r1.1.1) fun r17=>
   some ((r17.1.1,()),())
 else
 bif m_0.1==5 then
  bif m_0.1==2 then
   Option.bind (Qo7 0 1073741824 [m_0.2.2.2.2.1,m_0.2.2.2.2.2.1]) fun r18=>
   bif r18.1.1 then
    Option.bind (Z0a m_0.2.2.2.2.2.2.1) fun r19=>
    bif r19.1.1 then
     Option.bind (Qo7 0 1000000 [m_0.2.2.2.2.2.2.2.1,r1.1.1.2.2.2.2.2.2.2.2.1]) fun r20=>
     bif r20.1.1 then
      Option.bind (Qpz m_0 (r1.1.1.1,r1.1.1.2.1,r1.1.1.2.2.1,r1.1.1.2.2.2.1,m_0.2.2.2.2.1,m_0.2.2.2.2.2.1,m_0.2.2.2.2.2.2.1,m_0.2.2.2.2.2.2.2.1,r1.1.1.2.2.2.2.2.2.2.2)) fun r21=>
      some ((r21.1.1,()),())
     else
      some ((false,()),())
    else
     some ((false,()),())
   else
    some ((false,()),())
  else
   Option.bind (Qo7 0 1073741824 [m_0.2.2.2.2.1,m_0.2.2.2.2.2.1]) fun r22=>
   bif r22.1.1 then
    Option.bind (Z0a m_0.2.2.2.2.2.2.1) fun r23=>
    bif r23.1.1 then
     Option.bind (Qo7 0 1000000 [r1.1.1.2.2.2.2.2.2.2.1,m_0.2.2.2.2.2.2.2.2.1]) fun r24=>
     bif r24.1.1 then
      Option.bind (Qpz m_0 (r1.1.1.1,r1.1.1.2.1,r1.1.1.2.2.1,r1.1.1.2.2.2.1,m_0.2.2.2.2.1,m_0.2.2.2.2.2.1,m_0.2.2.2.2.2.2.1,r1.1.1.2.2.2.2.2.2.2.1,m_0.2.2.2.2.2.2.2.2.1,r1.1.1.2.2.2.2.2.2.2.2.2)) fun r25=>
      some ((r25.1.1,()),())
     else
      some ((false,()),())
    else
     some ((false,()),())
   else
    some ((false,()),())
 else
 bif m_0.1==7 then
  Option.bind (Qo7 1 1000000 [m_0.2.2.2.2.2.2.2.1]) fun r26=>
  bif r26.1.1 then
   bif decide ((m_0.2.2.2.2.2.2.2.2.2.size:Int)≤12) then
    Option.bind (Qpz m_0 (r1.1.1.1,r1.1.1.2.1,r1.1.1.2.2.1,r1.1.1.2.2.2.1,r1.1.1.2.2.2.2.1,r1.1.1.2.2.2.2.2.1,r1.1.1.2.2.2.2.2.2.1,m_0.2.2.2.2.2.2.2.1,r1.1.1.2.2.2.2.2.2.2.2.1,m_0.2.2.2.2.2.2.2.2.2)) fun r27=>
    some ((r27.1.1,()),())
   else
    some ((false,()),())
  else
   some ((false,()),())
 else
 bif m_0.1==8 then
  bif m_0.1==8 then
   bif decide (m_0.2.2.2.2.2.2.2.1≤m_0.2.2.2.2.2.2.2.2.1) then
    Option.bind (Qo7 1 1000000 [m_0.2.2.2.2.2.2.2.1,m_0.2.2.2.2.2.2.2.2.1]) fun r28=>
    bif r28.1.1 then
     Option.bind (Qpz m_0 (r1.1.1.1,r1.1.1.2.1,r1.1.1.2.2.1,r1.1.1.2.2.2.1,r1.1.1.2.2.2.2.1,r1.1.1.2.2.2.2.2.1,r1.1.1.2.2.2.2.2.2.1,m_0.2.2.2.2.2.2.2.1,m_0.2.2.2.2.2.2.2.2.1,r1.1.1.2.2.2.2.2.2.2.2.2)) fun r29=>
     some ((r29.1.1,()),())
    else
     some ((false,()),())
   else
    some ((false,()),())
  else
   Option.bind (Qpz m_0 r1.1.1) fun r30=>
   some ((r30.1.1,()),())
 else
 bif m_0.1==9 then
  bif decide (m_0.2.2.2.2.2.2.2.1≤m_0.2.2.2.2.2.2.2.2.1) then
   Option.bind (Qo7 1 1000000 [m_0.2.2.2.2.2.2.2.1,m_0.2.2.2.2.2.2.2.2.1]) fun r31=>
   bif r31.1.1 then
    Option.bind (Qpz m_0 (r1.1.1.1,r1.1.1.2.1,r1.1.1.2.2.1,r1.1.1.2.2.2.1,r1.1.1.2.2.2.2.1,r1.1.1.2.2.2.2.2.1,r1.1.1.2.2.2.2.2.2.1,m_0.2.2.2.2.2.2.2.1,m_0.2.2.2.2.2.2.2.2.1,r1.1.1.2.2.2.2.2.2.2.2.2)) fun r32=>
    some ((r32.1.1,()),())
   else
    some ((false,()),())
  else
   some ((false,()),())
 else
  Option.bind (Qpz m_0 r1.1.1) fun r33=>
  some ((r33.1.1,()),())
noncomputable def Zlv:Ent:=⟨[.val t45],[⟨t4,[false],none⟩],fun x=>Z99 x.1⟩
theorem Zij:GD 179 Zlv:=fnk 1 (fo [[1,36,37,38,41,42,43,44,45,46,49,50,51,66,67,68,69,72,73,74,91,92,93,94,95,96,99,100,101],[1,3,36,37,38,41,42,43,44,45,46,49,50,51,66,67,68,69,72,73,74,91,92,93,94,95,96,99,100,101],[1,3,7,36,37,38,41,42,43,44,45,46,49,50,51,66,67,68,69,72,73,74,91,92,93,94,95,96,99,100,101],[1,3,7,8,36,37,38,41,42,43,44,45,46,49,50,51,66,67,68,69,72,73,74,91,92,93,94,95,96,99,100,101],[1,3,7,8,36,37,38,41,42,43,44,45,46,49,50,51,66,67,68,69,72,73,74,91,92,93,94,95,96,99,100,101],[1,3,36,37,38,41,42,43,44,45,46,49,50,51],[1,3,22,36,37,38,41,42,43,44,45,46,49,50,51],[1,3,36,37,38,41,42,43,44,45,46,49,50,51],[1,3,36,37,38,41,42,43,44,45,46,49,50,51],[2],[1,3,7,53,66,67,68,69,72,73,74,91,92,93,94,95,96,99,100,101],[1,3,66,67,68,69,72,73,74],[2],[1,3,7,76,91,92,93,94,95,96,99,100,101],[1,3,76,91,92,93,94,95,96,99,100,101],[1,3,91,92,93,94,95,96,99,100,101],[2],[2]]) (Qjy Zdb (Qjy Zce (Qjy Zlh (Qjy Zlb Qk3)))) Tryz.func179
noncomputable def Zl0 (m_0:Int × Int × Int × Int × Int × Int × (List Int) × Int × Int × ByteArray):Option ((Bool × Unit) × Unit):=
 Option.bind (Qo7 1 9 [m_0.1]) fun r1=>
 bif r1.1.1 then
  Option.bind (Qo7 1 8 [m_0.2.1,m_0.2.2.1]) fun r2=>
  bif r2.1.1 then
   bif m_0.2.1 != m_0.2.2.1 then
    Option.bind (Qo7 1 1073741824 [m_0.2.2.2.1]) fun r3=>
    bif r3.1.1 then
     Option.bind (Z99 m_0) fun r4=>
     some ((r4.1.1,()),())
    else
     some ((false,()),())
   else
    some ((false,()),())
  else
   some ((false,()),())
 else
  some ((false,()),())
noncomputable def Zmy:Ent:=⟨[.val t45],[⟨t4,[false],none⟩],fun x=>Zl0 x.1⟩
theorem Zma:GD 148 Zmy:=fnk 1 (fo [[1,8,9,10,11,12,13,16,17,18,19,20,23,24,25,26,29,30],[2]]) (Qjy Zdb (Qjy Zij Qk3)) Tryz.func148
noncomputable def Qtw (s:List Int):Option (((List Int) × Unit) × Unit):=bif Nat.ble s.length 1073741824 then some ((s,()),()) else none
theorem Z7w (s:List Int):Qde [] tab (Qk4 Tryz.f180 []) 1 [.val t25] [⟨t25,[true],none⟩] Tryz.f180 (s,())=bif !(List.isEmpty s) then bif Nat.ble (0+s.length) 1073741824 then some (([]++s,()),()) else none
 else Q3f (some (([],()),())) (bif Nat.ble (0+s.length) 1073741824 then some (([]++s,()),()) else none):=by kernel_rfl
theorem Za1 (s:List Int):Qde [] tab (Qk4 Tryz.f180 []) 1 [.val t25] [⟨t25,[true],none⟩] Tryz.f180 (s,())=Qtw s:=by
  rw [Z7w]
  cases s with
  | nil=>exact Qcu _
  | cons x q=>rw [Nat.zero_add];rfl
noncomputable def Z1u:Ent:=⟨[.val t25],[⟨t25,[true],none⟩],fun x=>Qtw x.1⟩
theorem Z79:Q4u tab.ty Tryz.prog 180 Z1u:=by
  refine Qjk (Γ:=[]) (fi:=Qk4 Tryz.f180 []) (n:=1) follows Qk3 Zik Tryz.func180 (by kernel_rfl) (by kernel_rfl) (fun x r h=>?_)
  obtain ⟨s,_u⟩:=x
  exact (Za1 s).trans h
abbrev Z0f:Type:=((List Int) × Unit) × Unit
noncomputable def Zpc:Ctx:=[(180,Z1u)]
def Zh5:Fi:=fo [[0,1],[0,1],[0,5],[0,5,11],[0,5],[0,5],[4]]
abbrev Zaz:Type:=Int→List Int→Option Z0f
noncomputable def Z5o (L1:Zaz) (v2:Int) (v3:List Int):Option Z0f:=
 bif decide (v2 ≥ 128) then
  bif Nat.ble (v3.length+1) 1073741824 then
   L1 (Int.fdiv v2 (2 ^ 7)) (v3++[IntKind.wrap .u8 ((BitVec.ofInt 8 (IntKind.wrap .u8 v2) ||| BitVec.ofInt 8 128).toNat)])
  else none
 else
 bif Nat.ble (v3.length+1) 1073741824 then
  some ((v3++[IntKind.wrap .u8 v2],()),())
 else none
noncomputable def Z93 (L1:Zaz) (b_0:List Int) (v_1:Int):Option Z0f:=
 Option.bind (Qtw b_0) fun r1=>
 L1 (IntKind.wrap .u64 v_1) r1.1.1
noncomputable def Z1d (n:Nat):Nat→Zaz:=iter (fun _ _=>none) fun L=>Z5o L
noncomputable def Z68 (n m:Nat) (v2:Int) (v3:List Int):Option Z0f:=
 Qjv Zpc tab (fiB [.val t25,.val t2] Zh5) n [.val t25,.val t2] [⟨t25,[true],none⟩] Tryz.f149 [1,1,1,0,0] [] [0,5] m
 ⟨[(0,V1 (.ref (888888,0))),(5,Vp t12 v2)],[((888888,0),Ob.row 5 t5 v3)]⟩
theorem Zfd (n:Nat):∀ m,Z68 n m=Z1d n m
 | 0=>rfl
 | m+1=>by rw [show Z68 n (m+1)=Z5o (Z68 n m) from by kernel_rfl,Zfd n m];rfl
noncomputable def Zk2 (n:Nat) (b_0:List Int) (v_1:Int):Option Z0f:=Z93 (Z1d n n) b_0 v_1
noncomputable def Zga (b_0:List Int) (v_1:Int):Option Z0f:=Zk2 1099511627776 b_0 v_1
noncomputable def Zk1:Ent:=⟨[.val t25,.val t2],[⟨t25,[true],none⟩],fun x=>Zga x.1 x.2.1⟩
theorem Zbz:GD 149 Zk1:=fnl Zh5 (fun n x=>Zk2 n x.1 x.2.1) (Qjy Z79 Qk3) Tryz.func149 fun n x=>Eq.trans (b:=Z93 (Z68 n n) x.1 x.2.1) (by kernel_rfl) (by rw [Zfd n n];rfl)
noncomputable def Z3m (b_0:List Int) (s_1:ByteArray):Option (((List Int) × Unit) × Unit):=
 Option.bind (Zga b_0 (s_1.size:Int)) fun r1=>
 bif Nat.ble (r1.1.1.length+(s_1.data.toList.map fun b=>(b.toNat:Int)).length) 1073741824 then
  some ((r1.1.1++(s_1.data.toList.map fun b=>(b.toNat:Int)),()),())
 else none
noncomputable def Zai:Ent:=⟨[.val t25,.val t9],[⟨t25,[true],none⟩],fun x=>Z3m x.1 x.2.1⟩
theorem Ze7:GD 150 Zai:=fnk 1 (fo [[0,1],[4]]) (Qjy Zbz Qk3) Tryz.func150
abbrev Qwq:Type:=(Int × Unit) × Unit
noncomputable def Zmz:Ctx:=[]
def Zdx:Fi:=fo [[0],[0,3],[3,7,8,9],[3,7,8,9,10],[3,5,7,8,9],[3,7,8,9],[3,7,8,9,17],[3,7,8,9,17,18],[3,6,7,8,9,17],[3,6,7,8,9,17],[3,7,8,9,17,24],[3,7,8,9,17],[3,7,8,9,17],[3,7,8,9],[2]]
abbrev Z95:Type:=Int→List Int→Int→Int→Option Qwq
abbrev Zdr:Type:=Int→List Int→Int→Int→Int→Option Qwq
noncomputable def Z0h (L2:Zdr) (v1:Int) (v2:List Int) (v3 v4:Int):Option Qwq:=
 bif decide (v4<v3) then
  bif decide (0≤v4)&&decide (v4<(v2.length:Int)) then
   L2 (IntKind.wrap .u32 ((BitVec.ofInt 32 v1 ^^^ BitVec.ofInt 32 (IntKind.wrap .u32 (List.getD v2 v4.toNat 0))).toNat)) v2 v3 v4 0
  else none
 else
  some ((IntKind.wrap .u32 ((BitVec.ofInt 32 v1 ^^^ BitVec.ofInt 32 4294967295).toNat),()),())
noncomputable def Z0e (L2:Zdr) (L1:Z95) (v5:Int) (v6:List Int) (v7 v8 v9:Int):Option Qwq:=
 bif decide (v9<8) then
  bif (IntKind.wrap .u32 ((BitVec.ofInt 32 v5 &&& BitVec.ofInt 32 1).toNat))==1 then
   L2 (IntKind.wrap .u32 ((BitVec.ofInt 32 (Int.fdiv v5 (2 ^ 1)) ^^^ BitVec.ofInt 32 3988292384).toNat)) v6 v7 v8 (IntKind.wrap .i64 (v9+1))
  else
   L2 (Int.fdiv v5 (2 ^ 1)) v6 v7 v8 (IntKind.wrap .i64 (v9+1))
 else
  L1 v5 v6 v7 (IntKind.wrap .i64 (v8+1))
noncomputable def Zme (L1:Z95) (b_0:List Int):Option Qwq:=
 L1 4294967295 b_0 (b_0.length:Int) 0
noncomputable def Qxt (n:Nat) (m1:Nat) (r1:Z95):Nat→Zdr:=iter (fun _ _ _ _ _=>none) fun L=>Z0e L r1
noncomputable def Z0d (n:Nat):Nat→Z95:=Qjg (fun _ _ _ _=>none) fun m L=>Z0h (Qxt n m L n)
noncomputable def Z4z (n m:Nat) (v1:Int) (v2:List Int) (v3 v4:Int):Option Qwq:=
 Qjv Zmz tab (fiB [.val t25] Zdx) n [.val t25] [⟨t91,[false],none⟩] Tryz.f151 [1,1,0,1,0] [] [3,7,8,9] m
 ⟨[(3,Vp t91 v1),(7,Vp t25 v2),(8,Vp t2 v3),(9,Vp t2 v4)],[]⟩
noncomputable def Z94 (n m1 m:Nat) (v5:Int) (v6:List Int) (v7 v8 v9:Int):Option Qwq:=
 Qjv Zmz tab (fiB [.val t25] Zdx) n [.val t25] [⟨t91,[false],none⟩] Tryz.f151 [1,1,0,1,0,0,1,1,0,0,1,1,1,0] [(m1,[3,7,8,9])] [3,7,8,9,17] m
 ⟨[(3,Vp t91 v5),(7,Vp t25 v6),(8,Vp t2 v7),(9,Vp t2 v8),(17,Vp t2 v9)],[]⟩
theorem Zho (n m1:Nat):∀ m,Z94 n m1 m=Qxt n m1 (Z4z n m1) m
 | 0=>rfl
 | m+1=>by rw [show Z94 n m1 (m+1)=Z0e (Z94 n m1 m) (Z4z n m1) from by kernel_rfl,Zho n m1 m];rfl
theorem Zi1 (n:Nat):∀ m,Z4z n m=Z0d n m
 | 0=>rfl
 | m+1=>by rw [show Z4z n (m+1)=Z0h (Z94 n m n) from by kernel_rfl,Zho n m n,Zi1 n m];rfl
noncomputable def Zmo (n:Nat) (b_0:List Int):Option Qwq:=Zme (Z0d n n) b_0
noncomputable def Zol (b_0:List Int):Option Qwq:=Zmo 1099511627776 b_0
noncomputable def Zmi:Ent:=⟨[.val t25],[⟨t91,[false],none⟩],fun x=>Zol x.1⟩
theorem Zn8:GD 151 Zmi:=fnl Zdx (fun n x=>Zmo n x.1) Qk3 Tryz.func151 fun n x=>Eq.trans (b:=Zme (Z4z n n) x.1) (by kernel_rfl) (by rw [Zi1 n n];rfl)
abbrev Z4n:Type:=((List Int) × Unit) × Unit
noncomputable def Zq5:Ctx:=[(148,Zmy),(149,Zk1),(150,Zai),(151,Zmi)]
def Zk6:Fi:={ keep:=[],vty:=[(4,25)],vals:=[],live:=[(0,[1]),(1,[1,10]),(2,[2]),(3,[1,3]),(4,[1,3]),(5,[1,3,4]),(6,[1,4,37,38,39]),(7,[1,4,37,38,39,40]),(8,[1,4,6,37,38,39]),(9,[1,4,37,38,39]),(10,[1,4,37,38,39]),(11,[4]),(12,[4,7]),(13,[2])] }
abbrev Ze5:Type:=Int→Int→Int→Int→Int→Int→Int→Int→List Int→Int→Int→ByteArray→List Int→List Int→Option Z4n
noncomputable def Z0g (L1:Ze5) (v2 v3 v4 v5 v6 v7 v8 v9:Int) (v10:List Int) (v11 v12:Int) (v13:ByteArray) (v14 v15:List Int):Option Z4n:=
 bif decide (v3<v2) then
  bif decide (0≤v3)&&decide (v3<(v15.length:Int)) then
   bif decide (0≤v3)&&decide (v3<(v15.length:Int)) then
    Option.bind (Zga v14 (List.getD v15 v3.toNat 0)) fun r16=>
    L1 v2 (IntKind.wrap .i64 (v3+1)) v4 v5 v6 v7 v8 v9 v10 v11 v12 v13 r16.1.1 v15
   else none
  else none
 else
  Option.bind (Z3m v14 v13) fun r17=>
  Option.bind (Zol r17.1.1) fun r18=>
  bif Nat.ble (r17.1.1.length+4) 1073741824 then
   some ((r17.1.1++[IntKind.wrap .u8 (Int.fdiv r18.1.1 (2 ^ 24)),IntKind.wrap .u8 (Int.fdiv r18.1.1 (2 ^ 16)),IntKind.wrap .u8 (Int.fdiv r18.1.1 (2 ^ 8)),IntKind.wrap .u8 r18.1.1],()),())
  else none
noncomputable def Zdc (L1:Ze5) (m_0:Int × Int × Int × Int × Int × Int × (List Int) × Int × Int × ByteArray):Option Z4n:=
 Option.bind (Zl0 m_0) fun r1=>
 bif !r1.1.1 then
  some (([],()),())
 else
 bif Nat.ble (7+m_0.2.2.2.2.2.2.1.length) 1073741824 then
  bif Nat.ble (([m_0.1,m_0.2.1,m_0.2.2.1,m_0.2.2.2.1,m_0.2.2.2.2.1,m_0.2.2.2.2.2.1,(m_0.2.2.2.2.2.2.1.length:Int)]++m_0.2.2.2.2.2.2.1).length+2) 1073741824 then
   L1 ((([m_0.1,m_0.2.1,m_0.2.2.1,m_0.2.2.2.1,m_0.2.2.2.2.1,m_0.2.2.2.2.2.1,(m_0.2.2.2.2.2.2.1.length:Int)]++m_0.2.2.2.2.2.2.1)++[m_0.2.2.2.2.2.2.2.1,m_0.2.2.2.2.2.2.2.2.1]).length:Int) 0 m_0.1 m_0.2.1 m_0.2.2.1 m_0.2.2.2.1 m_0.2.2.2.2.1 m_0.2.2.2.2.2.1 m_0.2.2.2.2.2.2.1 m_0.2.2.2.2.2.2.2.1 m_0.2.2.2.2.2.2.2.2.1 m_0.2.2.2.2.2.2.2.2.2 [] (([m_0.1,m_0.2.1,m_0.2.2.1,m_0.2.2.2.1,m_0.2.2.2.2.1,m_0.2.2.2.2.2.1,(m_0.2.2.2.2.2.2.1.length:Int)]++m_0.2.2.2.2.2.2.1)++[m_0.2.2.2.2.2.2.2.1,m_0.2.2.2.2.2.2.2.2.1])
  else none
 else none
noncomputable def Z0j (n:Nat):Nat→Ze5:=iter (fun _ _ _ _ _ _ _ _ _ _ _ _ _ _=>none) fun L=>Z0g L
noncomputable def Z97 (n m:Nat) (v2 v3 v4 v5 v6 v7 v8 v9:Int) (v10:List Int) (v11 v12:Int) (v13:ByteArray) (v14 v15:List Int):Option Z4n:=
 Qjv Zq5 tab (fiB [.val t45] Zk6) n [.val t45] [⟨t25,[true],none⟩] Tryz.f87 [1,1,1,1,1,0,1,0] [] [1,4,37,38,39] m
 ⟨[(1,V1 (.ptr (1,0) 0)),(4,V1 (.ref (888888,4))),(37,V1 (.ref (888888,37))),(38,Vp t2 v2),(39,Vp t2 v3)],[((1,0),Ob.box 46 [LV.pure t2 v4,LV.pure t2 v5,LV.pure t2 v6,LV.pure t2 v7,LV.pure t2 v8,LV.pure t2 v9,LV.pure t28 v10,LV.pure t2 v11,LV.pure t2 v12,LV.pure t9 v13]),((888888,4),Ob.row 5 t5 v14),((888888,37),Ob.row 3 t2 v15)]⟩
theorem Zhk (n:Nat):∀ m,Z97 n m=Z0j n m
 | 0=>rfl
 | m+1=>by rw [show Z97 n (m+1)=Z0g (Z97 n m) from by kernel_rfl,Zhk n m];rfl
noncomputable def Zmt (n:Nat) (m_0:Int × Int × Int × Int × Int × Int × (List Int) × Int × Int × ByteArray):Option Z4n:=Zdc (Z0j n n) m_0
noncomputable def Znt (m_0:Int × Int × Int × Int × Int × Int × (List Int) × Int × Int × ByteArray):Option Z4n:=Zmt 1099511627776 m_0
noncomputable def Zms:Ent:=⟨[.val t45],[⟨t25,[true],none⟩],fun x=>Znt x.1⟩
theorem Zmh:GD 87 Zms:=fnl Zk6 (fun n x=>Zmt n x.1) (Qjy Zma (Qjy Zbz (Qjy Ze7 (Qjy Zn8 Qk3)))) Tryz.func87 fun n x=>Eq.trans (b:=Zdc (Z97 n n) x.1) (by kernel_rfl) (by rw [Zhk n n];rfl)
abbrev Qnn:Type:=(Bool × Unit) × Unit
noncomputable def Zb6:Ctx:=[]
def Qzs:Fi:=fo [[0,1],[0,1,10],[4],[0,1,12,13],[0,1,12,13,14],[0,1,5,12,13],[0,1,12,13,24],[4],[0,1,12,13],[4]]
abbrev Qu9:Type:=List Int→List Int→Int→Int→Option Qnn
noncomputable def Qmz (L1:Qu9) (v1 v2:List Int) (v3 v4:Int):Option Qnn:=
 bif decide (v4<v3) then
  bif decide (0≤v4)&&decide (v4<(v1.length:Int)) then
   bif decide (0≤v4)&&decide (v4<(v2.length:Int)) then
    bif (List.getD v1 v4.toNat 0) != (List.getD v2 v4.toNat 0) then
     some ((false,()),())
    else
     L1 v1 v2 v3 (IntKind.wrap .i64 (v4+1))
   else none
  else none
 else
  some ((true,()),())
noncomputable def Qsc (L1:Qu9) (s1_0 s2_1:List Int):Option Qnn:=
 bif (s1_0.length:Int) != (s2_1.length:Int) then
  some ((false,()),())
 else
  L1 s1_0 s2_1 (s1_0.length:Int) 0
noncomputable def Qn5 (n:Nat):Nat→Qu9:=iter (fun _ _ _ _=>none) fun L=>Qmz L
noncomputable def Qra (n m:Nat) (v1 v2:List Int) (v3 v4:Int):Option Qnn:=
 Qjv Zb6 tab (fiB [.val t25,.val t25] Qzs) n [.val t25,.val t25] [⟨t4,[false],none⟩] Tryz.f88 [1,1,0,1,0] [] [0,1,12,13] m
 ⟨[(0,Vp t25 v1),(1,Vp t25 v2),(12,Vp t2 v3),(13,Vp t2 v4)],[]⟩
theorem Qyc (n:Nat):∀ m,Qra n m=Qn5 n m
 | 0=>rfl
 | m+1=>by rw [show Qra n (m+1)=Qmz (Qra n m) from by kernel_rfl,Qyc n m];rfl
noncomputable def Z1v (n:Nat) (s1_0 s2_1:List Int):Option Qnn:=Qsc (Qn5 n n) s1_0 s2_1
noncomputable def Qu0 (s1_0 s2_1:List Int):Option Qnn:=Z1v 1099511627776 s1_0 s2_1
noncomputable def Z0p:Ent:=⟨[.val t25,.val t25],[⟨t4,[false],none⟩],fun x=>Qu0 x.1 x.2.1⟩
theorem Z77:GD 88 Z0p:=fnl Qzs (fun n x=>Z1v n x.1 x.2.1) Qk3 Tryz.func88 fun n x=>Eq.trans (b:=Qsc (Qra n n) x.1 x.2.1) (by kernel_rfl) (by rw [Qyc n n];rfl)
noncomputable def Ze9:Ctx:=[(86,Z6q),(87,Zms),(88,Z0p)]
def Zb4:Fi:={ keep:=[],vty:=[],vals:=[],live:=[(0,[0,2,34,35,38,39,40,41]),(1,[0,2,11,34,35,38,39,40,41]),(2,[2,3]),(3,[0,2,4,34,35,38,39,40,41]),(4,[0,2,4,5,34,35,38,39,40,41]),(5,[0,2,5,7,34,35,38,39,40,41]),(6,[0,2,5,7,8,34,35,38,39,40,41]),(7,[2,5,42]),(8,[2,3]),(9,[2,3])] }
noncomputable def Z3c (Q3f:Option ((Qyy × Bool × Unit) × Unit)→Option ((Qyy × Bool × Unit) × Unit)→Option ((Qyy × Bool × Unit) × Unit)) (b_0:List Int):Option ((Qyy × Bool × Unit) × Unit):=
 bif decide ((b_0.length:Int)<4) then
  some ((Zje,false,()),())
 else
 bif decide (0≤IntKind.wrap .i64 ((b_0.length:Int) - 4))&&decide (IntKind.wrap .i64 ((b_0.length:Int) - 4)≤(b_0.length:Int)) then
  Option.bind (Z3q (List.drop 0 (List.take ((IntKind.wrap .i64 ((b_0.length:Int) - 4)).toNat) b_0),IV.nil)) fun (r1:(Qyy × Unit) × (Zoa × Unit))=>
  Option.bind (Znt r1.1.1) fun (r2:((List Int) × Unit) × Unit)=>
  bif IV.is r1.2.1.2 134 then
   some ((Zje,false,()),())
  else
  bif !(List.isEmpty r2.1.1) then
   Option.bind (Qu0 r2.1.1 b_0) fun (r3:(Bool × Unit) × Unit)=>
   bif !r3.1.1 then
    some ((Zje,false,()),())
   else
    some ((r1.1.1,true,()),())
  else
   Q3f (
    some ((Zje,false,()),())) (
    Option.bind (Qu0 r2.1.1 b_0) fun (r4:(Bool × Unit) × Unit)=>
    bif !r4.1.1 then
     some ((Zje,false,()),())
    else
     some ((r1.1.1,true,()),()))
 else none
noncomputable def Zcm (b_0:List Int):Option ((Qyy × Bool × Unit) × Unit):=Z3c (@Qav _ (@instDecidableEqProd _ _ (@instDecidableEqProd _ _ (@instDecidableEqProd _ _ inferInstance (@instDecidableEqProd _ _ inferInstance (@instDecidableEqProd _ _ inferInstance (@instDecidableEqProd _ _ inferInstance (@instDecidableEqProd _ _ inferInstance (@instDecidableEqProd _ _ inferInstance (@instDecidableEqProd _ _ inferInstance (@instDecidableEqProd _ _ inferInstance (@instDecidableEqProd _ _ inferInstance inferInstance))))))))) (@instDecidableEqProd _ _ inferInstance inferInstance)) inferInstance)) b_0
theorem Zmm (b_0:List Int):Qde Ze9 tab Zb4 1 [.val t25] [⟨t45,[false,false,false,false,false,false,true,false,false,false],none⟩,⟨t4,[false],none⟩] Tryz.f45 (b_0,())=Z3c Q3f b_0:=by kernel_rfl
theorem Znv (b_0:List Int):Qde Ze9 tab Zb4 1 [.val t25] [⟨t45,[false,false,false,false,false,false,true,false,false,false],none⟩,⟨t4,[false],none⟩] Tryz.f45 (b_0,())=Zcm b_0:=(Zmm b_0).trans (congrArg (fun b=>Z3c b b_0) (@Qiu _ (@instDecidableEqProd _ _ (@instDecidableEqProd _ _ (@instDecidableEqProd _ _ inferInstance (@instDecidableEqProd _ _ inferInstance (@instDecidableEqProd _ _ inferInstance (@instDecidableEqProd _ _ inferInstance (@instDecidableEqProd _ _ inferInstance (@instDecidableEqProd _ _ inferInstance (@instDecidableEqProd _ _ inferInstance (@instDecidableEqProd _ _ inferInstance (@instDecidableEqProd _ _ inferInstance inferInstance))))))))) (@instDecidableEqProd _ _ inferInstance inferInstance)) inferInstance)))
noncomputable def Zpf:Ent:=⟨[.val t25],[⟨t45,[false,false,false,false,false,false,true,false,false,false],none⟩,⟨t4,[false],none⟩],fun x=>Zcm x.1⟩
theorem Zl4:Q4u tab.ty Tryz.prog 45 Zpf:=by
  refine Qjk (Γ:=Ze9) (fi:=Zb4) (n:=1) follows (Qjy Zat (Qjy Zmh (Qjy Z77 Qk3))) Zik Tryz.func45 (by kernel_rfl) (by kernel_rfl) (fun x r h=>?_)
  obtain ⟨b_0,_u⟩:=x
  exact (Znv b_0).trans h
noncomputable def Zqk (t_0:Int × Int × Int × Int × Int × Int × (List Int) × Int × Int × Int × Int × Int × List Qky):Option ((Z20 × Unit) × Unit):=
 Option.bind (Qn6 (g6 t_0)) fun r1=>
 Option.bind (Qme (h12 t_0)) fun r2=>
 some ((((e12 (u6 t_0 r1.1.1) r2.1.1),[]),()),())
noncomputable def Zrq:Ent:=⟨[.val t30],[⟨Znh,(nF 13++[true]),some 141⟩],fun x=>Zqk x.1⟩
theorem Zgq:GD 89 Zrq:=fnk 1 (fo [[1],[1],[2]]) (Qjy Qqh (Qjy Qnz Qk3)) Tryz.func89
abbrev Qkf:Type:=(Int × Bool × Unit) × Unit
noncomputable def Qu8:Ctx:=[]
def Qon:Fi:=fo [[0,1,2,40,41,42,43,44,45,46,47],[0,1,2,8,40,41,42,43,44,45,46,47],[0,1,2,8,9,10,40,41,42,43,44,45,46,47],[0,1,2,8,9,10,17,40,41,42,43,44,45,46,47],[0,1,2,8,9,10,11,40,41,42,43,44,45,46,47],[0,1,2,8,9,10,11,31,40,41,42,43,44,45,46,47],[0,1,2,8,9,10,40,41,42,43,44,45,46,47],[0,1,2,8,9,10,40,41,42,43,44,45,46,47],[6,7]]
abbrev Qlv:Type:=Z22→Int→(Qky × Int × Unit→Option (Int × Unit))→Int→Int→Int→Option Qkf
noncomputable def Qo5 (L1:Qlv) (v1:List Qky) (v2:Int) (v3:(Qky × Int × Unit→Option (Int × Unit))) (v4 v5 v6:Int):Option Qkf:=
 bif decide (v5<v6) then
  bif decide (0≤IntKind.wrap .i64 (Int.fdiv (IntKind.wrap .u64 (IntKind.wrap .i64 (v5+v6))) (2 ^ 1)))&&decide (IntKind.wrap .i64 (Int.fdiv (IntKind.wrap .u64 (IntKind.wrap .i64 (v5+v6))) (2 ^ 1))<(v1.length:Int)) then
   Option.bind (v3 ((List.getD v1 ((IntKind.wrap .i64 (Int.fdiv (IntKind.wrap .u64 (IntKind.wrap .i64 (v5+v6))) (2 ^ 1))).toNat) (0,0,0)),v2,())) fun r7=>
   bif decide (r7.1<0) then
    L1 v1 v2 v3 v4 (IntKind.wrap .i64 ((IntKind.wrap .i64 (Int.fdiv (IntKind.wrap .u64 (IntKind.wrap .i64 (v5+v6))) (2 ^ 1)))+1)) v6
   else
    L1 v1 v2 v3 v4 v5 (IntKind.wrap .i64 (Int.fdiv (IntKind.wrap .u64 (IntKind.wrap .i64 (v5+v6))) (2 ^ 1)))
  else none
 else
 bif decide (v5<v4) then
  bif decide (0≤v5)&&decide (v5<(v1.length:Int)) then
   Option.bind (v3 ((List.getD v1 v5.toNat (0,0,0)),v2,())) fun r8=>
   some ((v5,r8.1==0,()),())
  else none
 else
  some ((v5,false,()),())
noncomputable def Qot (L1:Qlv) (x_0:List Qky) (target_1:Int) (cmp_2:(Qky × Int × Unit→Option (Int × Unit))):Option Qkf:=
 L1 x_0 target_1 cmp_2 (x_0.length:Int) 0 (x_0.length:Int)
noncomputable def Qob (n:Nat):Nat→Qlv:=iter (fun _ _ _ _ _ _=>none) fun L=>Qo5 L
noncomputable def Qkt (n m:Nat) (v1:List Qky) (v2:Int) (v3:(Qky × Int × Unit→Option (Int × Unit))) (v4 v5 v6:Int):Option Qkf:=
 Qjv Qu8 tab (fiB [.val t29,.val t2,.fn [t52,t2] [t2]] Qon) n [.val t29,.val t2,.fn [t52,t2] [t2]] [⟨t2,[false],none⟩,⟨t4,[false],none⟩] Tryz.f186 [1,1,1,0,0] [] [0,1,2,8,9,10] m
 ⟨[(0,Vp t29 v1),(1,Vp t2 v2),(2,V1 (.clo [t52,t2] [t2] v3)),(8,Vp t2 v4),(9,Vp t2 v5),(10,Vp t2 v6)],[]⟩
theorem Qnw (n:Nat):∀ m,Qkt n m=Qob n m
 | 0=>rfl
 | m+1=>by rw [show Qkt n (m+1)=Qo5 (Qkt n m) from by kernel_rfl,Qnw n m];rfl
noncomputable def Qor (n:Nat) (x_0:List Qky) (target_1:Int) (cmp_2:(Qky × Int × Unit→Option (Int × Unit))):Option Qkf:=Qot (Qob n n) x_0 target_1 cmp_2
noncomputable def Qpt (x_0:List Qky) (target_1:Int) (cmp_2:(Qky × Int × Unit→Option (Int × Unit))):Option Qkf:=Qor 1099511627776 x_0 target_1 cmp_2
noncomputable def Qub:Ent:=⟨[.val t29,.val t2,.fn [t52,t2] [t2]],[⟨t2,[false],none⟩,⟨t4,[false],none⟩],fun x=>Qpt x.1 x.2.1 x.2.2.1⟩
theorem Qt6:GD 186 Qub:=fnl Qon (fun n x=>Qor n x.1 x.2.1 x.2.2.1) Qk3 Tryz.func186 fun n x=>Eq.trans (b:=Qot (Qkt n n) x.1 x.2.1 x.2.2.1) (by kernel_rfl) (by rw [Qnw n n];rfl)
noncomputable def Z5z (x_0:Int):Option ((Bool × Unit) × Unit):=
 some ((x_0 != x_0,()),())
noncomputable def Zh6:Ent:=⟨[.val t2],[⟨t4,[false],none⟩],fun x=>Z5z x.1⟩
theorem Zbu:GD 205 Zh6:=fnk 1 (fo [[0],[2]]) Qk3 Tryz.func205
noncomputable def Qwy (x_0 y_1:Int):Option ((Int × Unit) × Unit):=
 Option.bind (Z5z x_0) fun r1=>
 Option.bind (Z5z y_1) fun r2=>
 bif r1.1.1 then
  bif r2.1.1 then
   some ((0,()),())
  else
   some (((-1),()),())
 else
 bif r2.1.1 then
  some ((1,()),())
 else
 bif decide (x_0<y_1) then
  some (((-1),()),())
 else
 bif decide (x_0>y_1) then
  some ((1,()),())
 else
  some ((0,()),())
noncomputable def Ze1:Ent:=⟨[.val t2,.val t2],[⟨t2,[false],none⟩],fun x=>Qwy x.1 x.2.1⟩
theorem Quf:GD 188 Ze1:=fnk 1 (fo [[0,1],[0,1,5],[0,1,5,6],[0,1,6,11],[12],[4],[4],[0,1,13],[4],[0,1,16],[4],[19],[4],[4]]) (Qjy Zbu Qk3) Tryz.func188
noncomputable def Za7 (k_0:Int × Int × Int) (id_1:Int):Option ((Int × Unit) × Unit):=
 Option.bind (Qwy k_0.1 id_1) fun r1=>
 some ((r1.1.1,()),())
noncomputable def Zg4:Ent:=⟨[.val t52,.val t2],[⟨t2,[false],none⟩],fun x=>Za7 x.1 x.2.1⟩
theorem Zav:GD 187 Zg4:=fnk 1 (fo [[1,2],[4]]) (Qjy Quf Qk3) Tryz.func187
noncomputable def Ze6 (l_0:List Qky) (id_1:Int):Option ((Int × Bool × Unit) × Unit):=
 Option.bind (Qpt l_0 id_1 (fun x=>(Za7 x.1 x.2.1).bind fun r=>some (r.1.1,()))) fun r1=>
 some ((r1.1.1,r1.1.2.1,()),())
noncomputable def Zng:Ent:=⟨[.val t29,.val t2],[⟨t2,[false],none⟩,⟨t4,[false],none⟩],fun x=>Ze6 x.1 x.2.1⟩
theorem Z80:GD 158 Zng:=fnk 1 (fo [[0,1],[4,5]]) (Qjy Qt6 (Qjy Zav Qk3)) Tryz.func158
noncomputable def Z55 (l_0:List Qky) (id_1:Int):Option ((Qky × Bool × Unit) × Unit):=
 Option.bind (Ze6 l_0 id_1) fun r1=>
 bif !r1.1.2.1 then
  some (((0,0,0),false,()),())
 else
 bif decide (0≤r1.1.1)&&decide (r1.1.1<(l_0.length:Int)) then
  some (((List.getD l_0 r1.1.1.toNat (0,0,0)),true,()),())
 else none
noncomputable def Zht:Ent:=⟨[.val t29,.val t2],[⟨t52,[false,false,false],none⟩,⟨t4,[false],none⟩],fun x=>Z55 x.1 x.2.1⟩
theorem Qy5:GD 98 Zht:=fnk 1 (fo [[0,1,4],[0,4,6,7],[0,4,6,15],[4,5],[4,5]]) (Qjy Z80 Qk3) Tryz.func98
noncomputable def Zl2 (l_0:List Qky) (id_1 inc_2:Int):Option ((Bool × Unit) × Unit):=
 Option.bind (Z55 l_0 id_1) fun r1=>
 bif r1.1.2.1 then
  some ((decide (r1.1.1.2.1>inc_2),()),())
 else
  some ((false,()),())
noncomputable def Zq1:Ent:=⟨[.val t29,.val t2,.val t2],[⟨t4,[false],none⟩],fun x=>Zl2 x.1 x.2.1 x.2.2.1⟩
theorem Zd3:GD 90 Zq1:=fnk 1 (fo [[0,1,2,17,18,19,20],[2,7,8,17,18,19,20],[6]]) (Qjy Qy5 Qk3) Tryz.func90
noncomputable def Qwf (n_0:Qt7 × List Qyy) (step_1:Int):Option (Unit × (Z20 × Unit)):=
 some ((),(((u11 (u9 (u6 (u4 (u3 n_0.1 0) 0) []) 0) step_1),n_0.2),()))
noncomputable def Zgl:Ent:=⟨[.box 141 Znh (nF 13++[true]),.val t2],[],fun x=>Qwf x.1 x.2.1⟩
theorem Qt5:GD 91 Zgl:=fnk 1 (fo [[0]]) Qk3 Tryz.func91
noncomputable def Z7s (t_0:Int × Int × Int × Int × Int × Int × (List Int) × Int × Int × Int × Int × Int × List Qky):Option ((Bool × Unit) × Unit):=
 bif t_0.1==1 then
  some ((true,()),())
 else
 bif (g3 t_0) != 0 then
  some ((decide (IntKind.wrap .i64 (t_0.2.2.1 - (g8 t_0))≤20),()),())
 else
  some ((false,()),())
noncomputable def Zhn:Ent:=⟨[.val t30],[⟨t4,[false],none⟩],fun x=>Z7s x.1⟩
theorem Z49:GD 111 Zhn:=fnk 1 (fo [[1,7,8,9,10,11,12,13,14,15,16,17],[2]]) Qk3 Tryz.func111
noncomputable def Zkx (p_0:List Int) (id_1:Int):Option ((Bool × Unit) × Unit):=
 Option.bind (Qpp p_0 id_1) fun r1=>
 some ((r1.1.1,()),())
noncomputable def Zpr:Ent:=⟨[.val t28,.val t2],[⟨t4,[false],none⟩],fun x=>Zkx x.1 x.2.1⟩
theorem Zki:GD 181 Zpr:=fnk 1 (fo [[0,1],[4]]) (Qjy Qvk Qk3) Tryz.func181
noncomputable def Zcr (n_0:Qt7 × List Qyy) (id_1:Int):Option ((Bool × Unit) × (Z20 × Unit)):=
 bif n_0.1.1==1 then
  Option.bind (Z55 (h12 n_0.1) id_1) fun r1=>
  Option.bind (Z7s n_0.1) fun r2=>
  bif r2.1.1 then
   Option.bind (Zkx (g6 n_0.1) id_1) fun r3=>
   bif !r3.1.1 then
    bif r1.1.2.1 then
     some ((true,()),(n_0,()))
    else
     some ((decide (((h12 n_0.1).length:Int)<8),()),(n_0,()))
   else
    some ((false,()),(n_0,()))
  else
   some ((false,()),(n_0,()))
 else
  Option.bind (Z55 (h12 n_0.1) id_1) fun r4=>
  Option.bind (Z7s n_0.1) fun r5=>
  bif r5.1.1 then
   Option.bind (Zkx (g6 n_0.1) id_1) fun r6=>
   bif !r6.1.1 then
    bif r4.1.2.1 then
     some ((true,()),(n_0,()))
    else
     some ((decide (((h12 n_0.1).length:Int)<3),()),(n_0,()))
   else
    some ((false,()),(n_0,()))
  else
   some ((false,()),(n_0,()))
noncomputable def Zhy:Ent:=⟨[.box 141 Znh (nF 13++[true]),.val t2],[⟨t4,[false],none⟩],fun x=>Zcr x.1 x.2.1⟩
theorem Zcp:GD 152 Zhy:=fnk 1 (fo [[0,1,30,31,32,33,34,35,36,37,40,41,42,43,44,45,46,47,48,49,50],[0,1,5,30,31,32,33,34,35,36,37,40,41,42,43,44,45,46,47,48,49,50],[0,1,5,13,30,31,32,33,34,35,36,37,40,41,42,43,44,45,46,47,48,49,50],[0,1,5,30,31,32,33,34,35,36,37,40,41,42,43,44,45,46,47,48,49,50],[0,1,5,7,30,31,32,33,34,35,36,37,40,41,42,43,44,45,46,47,48,49,50],[0,4]]) (Qjy Qy5 (Qjy Z49 (Qjy Zki Qk3))) Tryz.func152
noncomputable def Z4i (n_0:Qt7 × List Qyy) (kind_1 to_2 lo_3:Int):Option (Unit × (Z20 × Unit)):=
 Option.bind (Qn6 (g6 n_0.1)) fun r1=>
 bif Nat.ble (n_0.2.length+1) 1073741824 then
  some ((),((n_0.1,n_0.2++[(kind_1,n_0.1.1,to_2,n_0.1.2.1,(g7 n_0.1),IntKind.wrap .i64 (n_0.1.2.2.1 - (g8 n_0.1)),r1.1.1,lo_3,0,(⟨#[]⟩:ByteArray))]),()))
 else none
noncomputable def Qks (n_0:Qt7 × List Qyy) (kind_1 to_2 lo_3:Int):Option (Unit × (Z20 × Unit)):=
 bif kind_1==2 then
  Z4i n_0 kind_1 to_2 lo_3
 else
 bif kind_1==5 then
  Z4i n_0 kind_1 to_2 lo_3
 else
 bif Nat.ble (n_0.2.length+1) 1073741824 then
  some ((),((n_0.1,n_0.2++[(kind_1,n_0.1.1,to_2,n_0.1.2.1,0,0,[],lo_3,0,(⟨#[]⟩:ByteArray))]),()))
 else none
noncomputable def Z6j:Ent:=⟨[.box 141 Znh (nF 13++[true]),.val t2,.val t2,.val t2],[],fun x=>Qks x.1 x.2.1 x.2.2.1 x.2.2.2.1⟩
theorem Qnj:GD 142 Z6j:=fnk 1 (fo [[0,1,8,26,27],[0,8,28],[0,8],[0]]) (Qjy Qqh Qk3) Tryz.func142
noncomputable def Z1k:Ctx:=[(203,Qjh)]
def Qzb:Fi:={ keep:=[],vty:=[],vals:=[],live:=[(0,[0,1,2]),(1,[0,1,2]),(2,[0,1,2,7]),(3,[0,1,2,7,16]),(4,[6]),(5,[0,1,2,7,8]),(6,[0,1,2,7,8,22]),(7,[6]),(8,[0,1,2,7,8,31]),(9,[0,1,2,7,9]),(10,[0,1,7,9]),(11,[9]),(12,[6]),(13,[0,1,2,7,8]),(14,[0,1,2,7,8,68]),(15,[0,1,2]),(16,[0]),(17,[6]),(18,[0,1,7]),(19,[0]),(20,[6])] }
noncomputable def Z1p (c:Nat) (s_0:List Qky) (i_1:Int) (v_2:List Qky):Option ((Z22 × Unit) × Unit):=
 bif (decide (0≤i_1)&&decide (i_1≤((s_0.length:Nat):Int)))&&decide (((s_0.length:Nat):Int)≤((((List.map some s_0++List.replicate c none).length) - 0:Nat):Int)) then
  bif (v_2.length:Int)==0 then
   bif Nat.ble s_0.length ((List.map some s_0++List.replicate c none).length) then
    Option.bind (Qd (List.take s_0.length (List.map some s_0++List.replicate c none))) fun (z1:List Qky)=>
    some ((z1,()),())
   else none
  else
  bif i_1==((s_0.length:Nat):Int) then
   bif Nat.ble (0+s_0.length) ((List.map some s_0++List.replicate c none).length) then
    bif Nat.ble (s_0.length+v_2.length) ((List.map some s_0++List.replicate c none).length) then
     bif Nat.ble (s_0.length+v_2.length) ((Q6 (List.map some s_0++List.replicate c none) s_0.length v_2).length) then
      Option.bind (Qd (List.take (s_0.length+v_2.length) (Q6 (List.map some s_0++List.replicate c none) s_0.length v_2))) fun (z2:List Qky)=>
      some ((z2,()),())
     else none
    else
    bif Nat.ble (s_0.length+v_2.length) 1073741824 then
     Option.bind (Qd (List.take s_0.length (List.map some s_0++List.replicate c none))) fun (z3:List Qky)=>
     some ((z3++v_2,()),())
    else none
   else none
  else
  bif Nat.ble (0+s_0.length) ((List.map some s_0++List.replicate c none).length) then
   bif decide (IntKind.wrap .i64 (((s_0.length:Nat):Int)+(v_2.length:Int))>((((List.map some s_0++List.replicate c none).length) - 0:Nat):Int)) then
    bif decide (0≤i_1)&&decide (i_1≤((((List.map some s_0++List.replicate c none).length) - 0:Nat):Int)) then
     bif Nat.ble (0+((i_1 - 0).toNat)) ((List.map some s_0++List.replicate c none).length) then
      bif decide (0<IntKind.wrap .i64 ((IntKind.wrap .i64 (((s_0.length:Nat):Int)+(v_2.length:Int))) - i_1))&&true&&Nat.blt ((List.map some s_0++List.replicate c none).length) (((i_1 - 0).toNat)+((List.replicate ((IntKind.wrap .i64 ((IntKind.wrap .i64 (((s_0.length:Nat):Int)+(v_2.length:Int))) - i_1)).toNat) ((0,0,0):Int × Int × Int)).length))&&Nat.ble (((List.map some s_0++List.replicate c none).length)+((List.replicate ((IntKind.wrap .i64 ((IntKind.wrap .i64 (((s_0.length:Nat):Int)+(v_2.length:Int))) - i_1)).toNat) ((0,0,0):Int × Int × Int)).length)) 536870912 then
       bif (decide (0≤i_1)&&decide (i_1≤((((i_1 - 0).toNat)+((List.replicate ((IntKind.wrap .i64 ((IntKind.wrap .i64 (((s_0.length:Nat):Int)+(v_2.length:Int))) - i_1)).toNat) ((0,0,0):Int × Int × Int)).length):Nat):Int)))&&decide (((((i_1 - 0).toNat)+((List.replicate ((IntKind.wrap .i64 ((IntKind.wrap .i64 (((s_0.length:Nat):Int)+(v_2.length:Int))) - i_1)).toNat) ((0,0,0):Int × Int × Int)).length):Nat):Int)≤((((List.take ((i_1 - 0).toNat) (List.map some s_0++List.replicate c none)++List.map some (List.replicate ((IntKind.wrap .i64 ((IntKind.wrap .i64 (((s_0.length:Nat):Int)+(v_2.length:Int))) - i_1)).toNat) ((0,0,0):Int × Int × Int))).length) - 0:Nat):Int)) then
        bif Nat.ble ((0+i_1.toNat)+((((((i_1 - 0).toNat)+((List.replicate ((IntKind.wrap .i64 ((IntKind.wrap .i64 (((s_0.length:Nat):Int)+(v_2.length:Int))) - i_1)).toNat) ((0,0,0):Int × Int × Int)).length):Nat):Int) - i_1).toNat)) ((List.take ((i_1 - 0).toNat) (List.map some s_0++List.replicate c none)++List.map some (List.replicate ((IntKind.wrap .i64 ((IntKind.wrap .i64 (((s_0.length:Nat):Int)+(v_2.length:Int))) - i_1)).toNat) ((0,0,0):Int × Int × Int))).length) then
         bif (decide (0≤IntKind.wrap .i64 (i_1+(v_2.length:Int)))&&decide (IntKind.wrap .i64 (i_1+(v_2.length:Int))≤((((i_1 - 0).toNat)+((List.replicate ((IntKind.wrap .i64 ((IntKind.wrap .i64 (((s_0.length:Nat):Int)+(v_2.length:Int))) - i_1)).toNat) ((0,0,0):Int × Int × Int)).length):Nat):Int)))&&decide (((((i_1 - 0).toNat)+((List.replicate ((IntKind.wrap .i64 ((IntKind.wrap .i64 (((s_0.length:Nat):Int)+(v_2.length:Int))) - i_1)).toNat) ((0,0,0):Int × Int × Int)).length):Nat):Int)≤((((Q6 (List.take ((i_1 - 0).toNat) (List.map some s_0++List.replicate c none)++List.map some (List.replicate ((IntKind.wrap .i64 ((IntKind.wrap .i64 (((s_0.length:Nat):Int)+(v_2.length:Int))) - i_1)).toNat) ((0,0,0):Int × Int × Int))) (0+i_1.toNat) (List.take ((((((i_1 - 0).toNat)+((List.replicate ((IntKind.wrap .i64 ((IntKind.wrap .i64 (((s_0.length:Nat):Int)+(v_2.length:Int))) - i_1)).toNat) ((0,0,0):Int × Int × Int)).length):Nat):Int) - i_1).toNat) v_2)).length) - 0:Nat):Int)) then
          bif (decide (0≤i_1)&&decide (i_1≤((s_0.length:Nat):Int)))&&decide (((s_0.length:Nat):Int)≤((((List.map some s_0++List.replicate c none).length) - 0:Nat):Int)) then
           bif Nat.ble ((0+((IntKind.wrap .i64 (i_1+(v_2.length:Int))).toNat))+((((((i_1 - 0).toNat)+((List.replicate ((IntKind.wrap .i64 ((IntKind.wrap .i64 (((s_0.length:Nat):Int)+(v_2.length:Int))) - i_1)).toNat) ((0,0,0):Int × Int × Int)).length):Nat):Int) - (IntKind.wrap .i64 (i_1+(v_2.length:Int)))).toNat)) ((Q6 (List.take ((i_1 - 0).toNat) (List.map some s_0++List.replicate c none)++List.map some (List.replicate ((IntKind.wrap .i64 ((IntKind.wrap .i64 (((s_0.length:Nat):Int)+(v_2.length:Int))) - i_1)).toNat) ((0,0,0):Int × Int × Int))) (0+i_1.toNat) (List.take ((((((i_1 - 0).toNat)+((List.replicate ((IntKind.wrap .i64 ((IntKind.wrap .i64 (((s_0.length:Nat):Int)+(v_2.length:Int))) - i_1)).toNat) ((0,0,0):Int × Int × Int)).length):Nat):Int) - i_1).toNat) v_2)).length) then
            bif Nat.ble ((0+i_1.toNat)+((((s_0.length:Nat):Int) - i_1).toNat)) ((List.map some s_0++List.replicate c none).length) then
            Option.bind (Qd (List.take (min ((((((i_1 - 0).toNat)+((List.replicate ((IntKind.wrap .i64 ((IntKind.wrap .i64 (((s_0.length:Nat):Int)+(v_2.length:Int))) - i_1)).toNat) ((0,0,0):Int × Int × Int)).length):Nat):Int) - (IntKind.wrap .i64 (i_1+(v_2.length:Int)))).toNat) ((((s_0.length:Nat):Int) - i_1).toNat)) (List.drop (0+i_1.toNat) (List.map some s_0++List.replicate c none)))) fun (z4:List Qky)=>
            bif Nat.ble (((i_1 - 0).toNat)+((List.replicate ((IntKind.wrap .i64 ((IntKind.wrap .i64 (((s_0.length:Nat):Int)+(v_2.length:Int))) - i_1)).toNat) ((0,0,0):Int × Int × Int)).length)) ((Q6 (Q6 (List.take ((i_1 - 0).toNat) (List.map some s_0++List.replicate c none)++List.map some (List.replicate ((IntKind.wrap .i64 ((IntKind.wrap .i64 (((s_0.length:Nat):Int)+(v_2.length:Int))) - i_1)).toNat) ((0,0,0):Int × Int × Int))) (0+i_1.toNat) (List.take ((((((i_1 - 0).toNat)+((List.replicate ((IntKind.wrap .i64 ((IntKind.wrap .i64 (((s_0.length:Nat):Int)+(v_2.length:Int))) - i_1)).toNat) ((0,0,0):Int × Int × Int)).length):Nat):Int) - i_1).toNat) v_2)) (0+((IntKind.wrap .i64 (i_1+(v_2.length:Int))).toNat)) z4).length) then
            Option.bind (Qd (List.take (((i_1 - 0).toNat)+((List.replicate ((IntKind.wrap .i64 ((IntKind.wrap .i64 (((s_0.length:Nat):Int)+(v_2.length:Int))) - i_1)).toNat) ((0,0,0):Int × Int × Int)).length)) (Q6 (Q6 (List.take ((i_1 - 0).toNat) (List.map some s_0++List.replicate c none)++List.map some (List.replicate ((IntKind.wrap .i64 ((IntKind.wrap .i64 (((s_0.length:Nat):Int)+(v_2.length:Int))) - i_1)).toNat) ((0,0,0):Int × Int × Int))) (0+i_1.toNat) (List.take ((((((i_1 - 0).toNat)+((List.replicate ((IntKind.wrap .i64 ((IntKind.wrap .i64 (((s_0.length:Nat):Int)+(v_2.length:Int))) - i_1)).toNat) ((0,0,0):Int × Int × Int)).length):Nat):Int) - i_1).toNat) v_2)) (0+((IntKind.wrap .i64 (i_1+(v_2.length:Int))).toNat)) z4))) fun (z5:List Qky)=>
            some ((z5,()),())
            else none
            else none
           else none
          else none
         else none
        else none
       else none
      else none
     else none
    else none
   else
   bif decide (0≤IntKind.wrap .i64 (((s_0.length:Nat):Int)+(v_2.length:Int)))&&decide (IntKind.wrap .i64 (((s_0.length:Nat):Int)+(v_2.length:Int))≤((((List.map some s_0++List.replicate c none).length) - 0:Nat):Int)) then
    bif (decide (0≤IntKind.wrap .i64 (i_1+(v_2.length:Int)))&&decide (IntKind.wrap .i64 (i_1+(v_2.length:Int))≤((((IntKind.wrap .i64 (((s_0.length:Nat):Int)+(v_2.length:Int))) - 0).toNat:Nat):Int)))&&decide (((((IntKind.wrap .i64 (((s_0.length:Nat):Int)+(v_2.length:Int))) - 0).toNat:Nat):Int)≤((((List.map some s_0++List.replicate c none).length) - 0:Nat):Int)) then
     bif (decide (0≤IntKind.wrap .i64 (i_1+(v_2.length:Int)))&&decide (IntKind.wrap .i64 (i_1+(v_2.length:Int))≤((((IntKind.wrap .i64 (((s_0.length:Nat):Int)+(v_2.length:Int))) - 0).toNat:Nat):Int)))&&decide (((((IntKind.wrap .i64 (((s_0.length:Nat):Int)+(v_2.length:Int))) - 0).toNat:Nat):Int)≤((((List.map some s_0++List.replicate c none).length) - 0:Nat):Int)) then
      bif (decide (0≤i_1)&&decide (i_1≤((((IntKind.wrap .i64 (((s_0.length:Nat):Int)+(v_2.length:Int))) - 0).toNat:Nat):Int)))&&decide (((((IntKind.wrap .i64 (((s_0.length:Nat):Int)+(v_2.length:Int))) - 0).toNat:Nat):Int)≤((((List.map some s_0++List.replicate c none).length) - 0:Nat):Int)) then
       bif Nat.ble ((0+((IntKind.wrap .i64 (i_1+(v_2.length:Int))).toNat))+((((((IntKind.wrap .i64 (((s_0.length:Nat):Int)+(v_2.length:Int))) - 0).toNat:Nat):Int) - (IntKind.wrap .i64 (i_1+(v_2.length:Int)))).toNat)) ((List.map some s_0++List.replicate c none).length) then
        bif Nat.ble ((0+i_1.toNat)+((((((IntKind.wrap .i64 (((s_0.length:Nat):Int)+(v_2.length:Int))) - 0).toNat:Nat):Int) - i_1).toNat)) ((List.map some s_0++List.replicate c none).length) then
         Option.bind (Qd (List.take (min ((((((IntKind.wrap .i64 (((s_0.length:Nat):Int)+(v_2.length:Int))) - 0).toNat:Nat):Int) - (IntKind.wrap .i64 (i_1+(v_2.length:Int)))).toNat) ((((((IntKind.wrap .i64 (((s_0.length:Nat):Int)+(v_2.length:Int))) - 0).toNat:Nat):Int) - i_1).toNat)) (List.drop (0+i_1.toNat) (List.map some s_0++List.replicate c none)))) fun (z6:List Qky)=>
         bif (decide (0≤i_1)&&decide (i_1≤((((IntKind.wrap .i64 (((s_0.length:Nat):Int)+(v_2.length:Int))) - 0).toNat:Nat):Int)))&&decide (((((IntKind.wrap .i64 (((s_0.length:Nat):Int)+(v_2.length:Int))) - 0).toNat:Nat):Int)≤((((Q6 (List.map some s_0++List.replicate c none) (0+((IntKind.wrap .i64 (i_1+(v_2.length:Int))).toNat)) z6).length) - 0:Nat):Int)) then
          bif Nat.ble ((0+i_1.toNat)+((((((IntKind.wrap .i64 (((s_0.length:Nat):Int)+(v_2.length:Int))) - 0).toNat:Nat):Int) - i_1).toNat)) ((Q6 (List.map some s_0++List.replicate c none) (0+((IntKind.wrap .i64 (i_1+(v_2.length:Int))).toNat)) z6).length) then
           bif Nat.ble (((IntKind.wrap .i64 (((s_0.length:Nat):Int)+(v_2.length:Int))) - 0).toNat) ((Q6 (Q6 (List.map some s_0++List.replicate c none) (0+((IntKind.wrap .i64 (i_1+(v_2.length:Int))).toNat)) z6) (0+i_1.toNat) (List.take ((((((IntKind.wrap .i64 (((s_0.length:Nat):Int)+(v_2.length:Int))) - 0).toNat:Nat):Int) - i_1).toNat) v_2)).length) then
            Option.bind (Qd (List.take (((IntKind.wrap .i64 (((s_0.length:Nat):Int)+(v_2.length:Int))) - 0).toNat) (Q6 (Q6 (List.map some s_0++List.replicate c none) (0+((IntKind.wrap .i64 (i_1+(v_2.length:Int))).toNat)) z6) (0+i_1.toNat) (List.take ((((((IntKind.wrap .i64 (((s_0.length:Nat):Int)+(v_2.length:Int))) - 0).toNat:Nat):Int) - i_1).toNat) v_2)))) fun (z7:List Qky)=>
            some ((z7,()),())
           else none
          else none
         else none
        else none
       else none
      else none
     else none
    else none
   else none
  else none
 else none
theorem Z6z (c:Nat) (s_0:List Qky) (i_1:Int) (v_2:List Qky):Qde Z1k tab { Qzb with cap:=c } 1 [.ownc 53 t52,.val t2,.own 53 t52] [⟨t29,[true],none⟩] Tryz.f203 (s_0,i_1,v_2,())=Z1p c s_0 i_1 v_2:=by kernel_rfl
theorem Z7c (c:Nat) (s_0:List Qky) (i_1:Int) (v_2:List Qky):Z1p c s_0 i_1 v_2=Qei ((0,0,0):Int × Int × Int) c s_0 i_1 v_2:=by kernel_rfl
noncomputable def Z4q (s_0:List Qky) (i_1:Int) (v_2:List Qky):Option ((Z22 × Unit) × Unit):=Qeg s_0 i_1 v_2
noncomputable def Zbc:Ent:=⟨[.ownc 53 t52,.val t2,.own 53 t52],[⟨t29,[true],none⟩],fun x=>Z4q x.1 x.2.1 x.2.2.1⟩
theorem Z7d:Q4u tab.ty Tryz.prog 203 Zbc:=by
  refine Qgs (Γ:=Z1k) (fi:=Qzb) (n:=1) follows (Qjy (Qjx Tryz.func203 (by kernel_rfl) (by kernel_rfl)) Qk3) Zik Tryz.func203 (by kernel_rfl) (by kernel_rfl) (fun c x r hc h=>?_)
  obtain ⟨s_0,i_1,v_2,_u⟩:=x
  exact (Z6z c s_0 i_1 v_2).trans ((Z7c c s_0 i_1 v_2).trans (Qin ((0,0,0):Int × Int × Int) c s_0 i_1 v_2 r hc h))
noncomputable def Zlu (l_0:List Qky) (k_1:Int × Int × Int):Option ((Z22 × Bool × Unit) × Unit):=
 Option.bind (Qme l_0) fun r1=>
 Option.bind (Zl2 l_0 k_1.1 k_1.2.1) fun r2=>
 bif r2.1.1 then
  some ((r1.1.1,false,()),())
 else
  Option.bind (Ze6 l_0 k_1.1) fun r3=>
  bif r3.1.2.1 then
   bif decide (0≤r3.1.1)&&decide (r3.1.1<(r1.1.1.length:Int)) then
    bif decide (0≤r3.1.1)&&decide (r3.1.1<(r1.1.1.length:Int)) then
     some ((List.set r1.1.1 r3.1.1.toNat k_1,true,()),())
    else none
   else none
  else
   Option.bind (Z4q r1.1.1 r3.1.1 [k_1]) fun r4=>
   some ((r4.1.1,true,()),())
noncomputable def Zo4:Ent:=⟨[.val t29,.val t52],[⟨t29,[true],none⟩,⟨t4,[false],none⟩],fun x=>Zlu x.1 x.2.1⟩
theorem Zj3:GD 182 Zo4:=fnk 1 (fo [[0,3],[0,3,6],[0,3,6,16],[4,5],[3,6,7,8],[3,6,7,25],[6],[4,5],[4,5]]) (Qjy Qnz (Qjy Zd3 (Qjy Z80 (Qjy Z7d Qk3)))) Tryz.func182
noncomputable def Z3y (n_0:Qt7 × List Qyy) (m_1:Int × Int × Int × Int × Int × Int × (List Int) × Int × Int × ByteArray):Option (Unit × (Z20 × Unit)):=
 Option.bind (Zlu (h12 n_0.1) (m_1.2.1,(g3 m_1),n_0.1.2.2.1)) fun r1=>
 some ((),(((e12 n_0.1 r1.1.1),n_0.2),()))
noncomputable def Zg0:Ent:=⟨[.box 141 Znh (nF 13++[true]),.val t45],[],fun x=>Z3y x.1 x.2.1⟩
theorem Z0z:GD 153 Zg0:=fnk 1 (fo [[0,3],[0]]) (Qjy Zj3 Qk3) Tryz.func153
noncomputable def Z0o (n_0:Qt7 × List Qyy) (m_1:Int × Int × Int × Int × Int × Int × (List Int) × Int × Int × ByteArray) (lo_2:Int):Option (Unit × (Z20 × Unit)):=
 Option.bind (Zcr n_0 m_1.2.1) fun r1=>
 bif !r1.1.1 then
  Option.bind (Qks r1.2.1 3 m_1.2.1 0) fun r2=>
  some ((),(r2.2.1,()))
 else
  Option.bind (Z3y r1.2.1 m_1) fun r3=>
  Option.bind (Qks r3.2.1 2 m_1.2.1 lo_2) fun r4=>
  some ((),(r4.2.1,()))
noncomputable def Zdq:Ent:=⟨[.box 141 Znh (nF 13++[true]),.val t45,.val t2],[],fun x=>Z0o x.1 x.2.1 x.2.2.1⟩
theorem Z9h:GD 92 Zdq:=fnk 1 (fo [[0,2,4],[0,2,4,10],[0],[0,2,4],[0]]) (Qjy Qnj (Qjy Zcp (Qjy Z0z Qk3))) Tryz.func92
noncomputable def Zli (p_0:List Int) (id_1:Int):Option (((List Int) × Bool × Unit) × Unit):=
 Option.bind (Qn6 p_0) fun r1=>
 bif Nat.ble (r1.1.1.length+1) 1073741824 then
  Option.bind (Z0a (r1.1.1++[id_1])) fun r2=>
  bif !r2.1.1 then
   some (([],false,()),())
  else
   some ((r1.1.1++[id_1],true,()),())
 else none
noncomputable def Zpu:Ent:=⟨[.val t28,.val t2],[⟨t28,[true],none⟩,⟨t4,[false],none⟩],fun x=>Zli x.1 x.2.1⟩
theorem Zcx:GD 154 Zpu:=fnk 1 (fo [[0,1],[6],[6,14],[4,5],[4,5]]) (Qjy Qqh (Qjy Zce Qk3)) Tryz.func154
noncomputable def Zjz (p_0:List Int):Option ((Int × Unit) × Unit):=
 bif decide ((p_0.length:Int)<2) then
  some ((0,()),())
 else
 bif decide (0≤IntKind.wrap .i64 ((p_0.length:Int) - 2))&&decide (IntKind.wrap .i64 ((p_0.length:Int) - 2)<(p_0.length:Int)) then
  some ((List.getD p_0 ((IntKind.wrap .i64 ((p_0.length:Int) - 2)).toNat) 0,()),())
 else none
noncomputable def Znd:Ent:=⟨[.val t28],[⟨t2,[false],none⟩],fun x=>Zjz x.1⟩
theorem Zi5:GD 184 Znd:=fnk 1 (fo [[0],[0,5],[2],[2]]) Qk3 Tryz.func184
noncomputable def Z7p (n_0:Qt7 × List Qyy) (m_1:Int × Int × Int × Int × Int × Int × (List Int) × Int × Int × ByteArray) (p_2:List Int):Option (Unit × (Z20 × Unit)):=
 Option.bind (Zjz (g6 m_1)) fun r1=>
 bif r1.1.1==0 then
  some ((),(((u6 (u5 n_0.1 1) p_2),n_0.2),()))
 else
  some ((),(((u6 (u5 n_0.1 r1.1.1) p_2),n_0.2),()))
noncomputable def Zj0:Ent:=⟨[.box 141 Znh (nF 13++[true]),.val t45,.val t28],[],fun x=>Z7p x.1 x.2.1 x.2.2.1⟩
theorem Z4o:GD 155 Zj0:=fnk 1 (fo [[0,2,4],[0],[0,23],[0]]) (Qjy Zi5 Qk3) Tryz.func155
noncomputable def Z2c (n_0:Qt7 × List Qyy) (m_1:Int × Int × Int × Int × Int × Int × (List Int) × Int × Int × ByteArray):Option (Unit × (Z20 × Unit)):=
 Option.bind (Qks ((u9 n_0.1 0),n_0.2) 6 m_1.2.1 0) fun r4=>
 some ((),(((u11 r4.2.1.1 (IntKind.wrap .i64 ((g11 r4.2.1.1)+1))),r4.2.1.2),()))
noncomputable def Z0t (n_0:Qt7 × List Qyy) (m_1:Int × Int × Int × Int × Int × Int × (List Int) × Int × Int × ByteArray):Option (Unit × (Z20 × Unit)):=
 bif (g9 n_0.1) != m_1.2.1 then
  bif (g3 n_0.1) != m_1.2.1 then
   Option.bind (Qks n_0 6 m_1.2.1 0) fun r1=>
   some ((),(r1.2.1,()))
  else
   some ((),(n_0,()))
 else
 bif (g3 n_0.1) != 0 then
  bif (g3 n_0.1) != m_1.2.1 then
   Option.bind (Qks n_0 6 m_1.2.1 0) fun r2=>
   some ((),(r2.2.1,()))
  else
   some ((),(n_0,()))
 else
  Option.bind (Zli (g6 m_1) n_0.1.1) fun r3=>
  bif !r3.1.2.1 then
   Z2c n_0 m_1
  else
  bif decide ((g5 m_1)>20) then
   Z2c n_0 m_1
  else
   Option.bind (Z7p ((u9 n_0.1 0),n_0.2) m_1 r3.1.1) fun r6=>
   some ((),(((u11 (u8 (u7 (u4 (u3 r6.2.1.1 m_1.2.1) (g3 m_1)) (g4 m_1)) (IntKind.wrap .i64 (r6.2.1.1.2.2.1 - (g5 m_1)))) 0),r6.2.1.2),()))
noncomputable def Zef:Ent:=⟨[.box 141 Znh (nF 13++[true]),.val t45],[],fun x=>Z0t x.1 x.2.1⟩
theorem Z9o:GD 93 Zef:=fnk 1 (fo [[0,3,15,16,17,18,19,20,52,53,54],[0,3,21,52,53,54],[0,3,29],[0],[0,3,52,53,54],[0,3,4,5,52,53,54],[0,3,4,55],[0],[0],[0,3],[0]]) (Qjy Qnj (Qjy Zcx (Qjy Z4o Qk3))) Tryz.func93
noncomputable def Z0u (n_0:Qt7 × List Qyy) (m_1:Int × Int × Int × Int × Int × Int × (List Int) × Int × Int × ByteArray):Option (Unit × (Z20 × Unit)):=
 bif m_1.2.1==(g9 n_0.1) then
  some ((),(((u11 (u9 n_0.1 0) (IntKind.wrap .i64 ((g11 n_0.1)+1))),n_0.2),()))
 else
 bif m_1.2.1==(g3 n_0.1) then
  Option.bind (Qwf n_0 0) fun r1=>
  some ((),(r1.2.1,()))
 else
  some ((),(n_0,()))
noncomputable def Zdu:Ent:=⟨[.box 141 Znh (nF 13++[true]),.val t45],[],fun x=>Z0u x.1 x.2.1⟩
theorem Z9v:GD 94 Zdu:=fnk 1 (fo [[0,3],[0,5],[0,5,6],[0],[0],[0,26],[0]]) (Qjy Qt5 Qk3) Tryz.func94
noncomputable def Z1c (n_0:Qt7 × List Qyy) (m_1:Int × Int × Int × Int × Int × Int × (List Int) × Int × Int × ByteArray):Option (Unit × (Z20 × Unit)):=
 Option.bind (Z55 (h12 n_0.1) m_1.2.1) fun r1=>
 bif r1.1.2.1 then
  Option.bind (Z3y n_0 m_1) fun r2=>
  some ((),(r2.2.1,()))
 else
  Option.bind (Qks n_0 3 m_1.2.1 0) fun r3=>
  some ((),(r3.2.1,()))
noncomputable def Zdm:Ent:=⟨[.box 141 Znh (nF 13++[true]),.val t45],[],fun x=>Z1c x.1 x.2.1⟩
theorem Z9i:GD 95 Zdm:=fnk 1 (fo [[0,3],[0,3,5],[0,3,17],[0],[0]]) (Qjy Qy5 (Qjy Qnj (Qjy Z0z Qk3))) Tryz.func95
noncomputable def Z1f (n_0:Qt7 × List Qyy) (m_1:Int × Int × Int × Int × Int × Int × (List Int) × Int × Int × ByteArray):Option (Unit × (Z20 × Unit)):=
 bif m_1.2.1 != (g3 n_0.1) then
  Option.bind (Qks n_0 6 m_1.2.1 0) fun r1=>
  some ((),(r1.2.1,()))
 else
  Option.bind (Zli (g6 m_1) n_0.1.1) fun r2=>
  bif !r2.1.2.1 then
   Option.bind (Qks n_0 6 m_1.2.1 0) fun r3=>
   Option.bind (Qwf r3.2.1 1) fun r4=>
   some ((),(r4.2.1,()))
  else
   Option.bind (Z7p n_0 m_1 r2.1.1) fun r5=>
   bif decide (IntKind.wrap .i64 (r5.2.1.1.2.2.1 - (g5 m_1))>(g8 r5.2.1.1)) then
    some ((),(((u8 (u7 r5.2.1.1 (g4 m_1)) (IntKind.wrap .i64 (r5.2.1.1.2.2.1 - (g5 m_1)))),r5.2.1.2),()))
   else
    some ((),(r5.2.1,()))
noncomputable def Ze4:Ent:=⟨[.box 141 Znh (nF 13++[true]),.val t45],[],fun x=>Z1f x.1 x.2.1⟩
theorem Z9e:GD 96 Ze4:=fnk 1 (fo [[0,3],[0,3,13],[0],[0,3,4,5],[0,3,4,30],[0],[0],[0,3],[0,3,54],[0]]) (Qjy Qt5 (Qjy Qnj (Qjy Zcx (Qjy Z4o Qk3)))) Tryz.func96
abbrev Qmb:Type:=(Int × Unit) × Unit
noncomputable def Z6v:Ctx:=[]
def Qw5:Fi:=fo [[0,1],[0,1,7,8],[0,1,7,8,9],[0,1,5,7,8],[0,1,5,7,8,16],[4],[0,1,7,8],[4]]
abbrev Qsd:Type:=Z22→(Qky × Unit→Option (Bool × Unit))→Int→Int→Option Qmb
noncomputable def Qws (L1:Qsd) (v1:List Qky) (v2:(Qky × Unit→Option (Bool × Unit))) (v3 v4:Int):Option Qmb:=
 bif decide (v4<v3) then
  bif decide (0≤v4)&&decide (v4<(v1.length:Int)) then
   Option.bind (v2 ((List.getD v1 v4.toNat (0,0,0)),())) fun r5=>
   bif r5.1 then
    some ((v4,()),())
   else
    L1 v1 v2 v3 (IntKind.wrap .i64 (v4+1))
  else none
 else
  some (((-1),()),())
noncomputable def Qxf (L1:Qsd) (s_0:List Qky) (f_1:(Qky × Unit→Option (Bool × Unit))):Option Qmb:=
 L1 s_0 f_1 (s_0.length:Int) 0
noncomputable def Qwc (n:Nat):Nat→Qsd:=iter (fun _ _ _ _=>none) fun L=>Qws L
noncomputable def Qp8 (n m:Nat) (v1:List Qky) (v2:(Qky × Unit→Option (Bool × Unit))) (v3 v4:Int):Option Qmb:=
 Qjv Z6v tab (fiB [.val t29,.fn [t52] [t4]] Qw5) n [.val t29,.fn [t52] [t4]] [⟨t2,[false],none⟩] Tryz.f185 [1,0,1,0] [] [0,1,7,8] m
 ⟨[(0,Vp t29 v1),(1,V1 (.clo [t52] [t4] v2)),(7,Vp t2 v3),(8,Vp t2 v4)],[]⟩
theorem Qvv (n:Nat):∀ m,Qp8 n m=Qwc n m
 | 0=>rfl
 | m+1=>by rw [show Qp8 n (m+1)=Qws (Qp8 n m) from by kernel_rfl,Qvv n m];rfl
noncomputable def Qxj (n:Nat) (s_0:List Qky) (f_1:(Qky × Unit→Option (Bool × Unit))):Option Qmb:=Qxf (Qwc n n) s_0 f_1
noncomputable def Qzt (s_0:List Qky) (f_1:(Qky × Unit→Option (Bool × Unit))):Option Qmb:=Qxj 1099511627776 s_0 f_1
noncomputable def Qxi:Ent:=⟨[.val t29,.fn [t52] [t4]],[⟨t2,[false],none⟩],fun x=>Qzt x.1 x.2.1⟩
theorem Z3w:GD 185 Qxi:=fnl Qw5 (fun n x=>Qxj n x.1 x.2.1) Qk3 Tryz.func185 fun n x=>Eq.trans (b:=Qxf (Qp8 n n) x.1 x.2.1) (by kernel_rfl) (by rw [Qvv n n];rfl)
abbrev Qlq:Type:=(Z22 × Unit) × Unit
noncomputable def Z5y:Ctx:=[(156,Qjh),(185,Qxi)]
def Qvo:Fi:={ keep:=[],vty:=[],vals:=[],live:=[(0,[0,1]),(1,[0,1,5]),(2,[0,1,5,12]),(3,[4]),(4,[0,1,5,6]),(5,[0,1,5,6,19]),(6,[0,1,5,6]),(7,[0,1,5,6,7]),(8,[0,1,5,6,7,29]),(9,[0,1,5,6]),(10,[0,1,5,6]),(11,[0,5]),(12,[4])],melt:=[(11,1000000),(12,1000000)] }
abbrev Qrf:Type:=(Qky × Unit→Option (Bool × Unit))→Int→Int→Z22→Option Qlq
noncomputable def Qvq (L1:Qrf) (v2:(Qky × Unit→Option (Bool × Unit))) (v3 v4:Int) (v5:List Qky):Option Qlq:=
 bif decide (v4<(v5.length:Int)) then
  bif decide (0≤v4)&&decide (v4<(v5.length:Int)) then
   bif decide (0≤v4)&&decide (v4<(v5.length:Int)) then
    Option.bind (v2 ((List.getD v5 v4.toNat (0,0,0)),())) fun r6=>
    bif !r6.1 then
     bif decide (0≤v3)&&decide (v3<(v5.length:Int)) then
      bif decide (0≤v3)&&decide (v3<(v5.length:Int)) then
       L1 v2 (IntKind.wrap .i64 (v3+1)) (IntKind.wrap .i64 (v4+1)) (List.set v5 v3.toNat (List.getD v5 v4.toNat (0,0,0)))
      else none
     else none
    else
     L1 v2 v3 (IntKind.wrap .i64 (v4+1)) v5
   else none
  else none
 else
 bif (decide (0≤v3)&&decide (v3≤((v5.length:Nat):Int)))&&decide (((v5.length:Nat):Int)≤(((List.map some v5).length:Nat):Int)) then
  bif Nat.ble ((0+v3.toNat)+((((v5.length:Nat):Int) - v3).toNat)) ((List.map some v5).length) then
   bif decide (0≤v3)&&decide (v3≤(((Q6 (List.map some v5) (0+v3.toNat) (List.replicate ((((v5.length:Nat):Int) - v3).toNat) ((0,0,0):Int × Int × Int))).length:Nat):Int)) then
    bif Nat.ble ((v3 - 0).toNat) ((Q6 (List.map some v5) (0+v3.toNat) (List.replicate ((((v5.length:Nat):Int) - v3).toNat) ((0,0,0):Int × Int × Int))).length) then
     Option.bind (Qd (List.take ((v3 - 0).toNat) (Q6 (List.map some v5) (0+v3.toNat) (List.replicate ((((v5.length:Nat):Int) - v3).toNat) ((0,0,0):Int × Int × Int))))) fun z7=>
     some ((z7,()),())
    else none
   else none
  else none
 else none
noncomputable def Qw2 (L1:Qrf) (s_0:List Qky) (del_1:(Qky × Unit→Option (Bool × Unit))):Option Qlq:=
 Option.bind (Qzt s_0 del_1) fun r1=>
 bif r1.1.1==(-1) then
  some ((s_0,()),())
 else
  L1 del_1 r1.1.1 (IntKind.wrap .i64 (r1.1.1+1)) s_0
noncomputable def Qvs (n:Nat):Nat→Qrf:=iter (fun _ _ _ _=>none) fun L=>Qvq L
noncomputable def Qod (n m:Nat) (v2:(Qky × Unit→Option (Bool × Unit))) (v3 v4:Int) (v5:List Qky):Option Qlq:=
 Qjv Z5y tab (fiB [.own 53 t52,.fn [t52] [t4]] Qvo) n [.own 53 t52,.fn [t52] [t4]] [⟨t29,[true],none⟩] Tryz.f156 [1,1,1,0,1,0] [] [0,1,5,6] m
 ⟨[(0,V1 (.ref (888888,0))),(1,V1 (.clo [t52] [t4] v2)),(5,Vp t2 v3),(6,Vp t2 v4)],[((888888,0),Ob.row 53 t52 v5)]⟩
theorem Qus (n:Nat):∀ m,Qod n m=Qvs n m
 | 0=>rfl
 | m+1=>by rw [show Qod n (m+1)=Qvq (Qod n m) from by kernel_rfl,Qus n m];rfl
noncomputable def Qx0 (n:Nat) (s_0:List Qky) (del_1:(Qky × Unit→Option (Bool × Unit))):Option Qlq:=Qw2 (Qvs n n) s_0 del_1
noncomputable def Qt9 (s_0:List Qky) (del_1:(Qky × Unit→Option (Bool × Unit))):Option Qlq:=Qx0 1099511627776 s_0 del_1
noncomputable def Z6g:Ent:=⟨[.own 53 t52,.fn [t52] [t4]],[⟨t29,[true],none⟩],fun x=>Qt9 x.1 x.2.1⟩
theorem Qu4:GD 156 Z6g:=fnl Qvo (fun n x=>Qx0 n x.1 x.2.1) (Qjy (Qjx Tryz.func156 (by kernel_rfl) (by kernel_rfl)) (Qjy Z3w Qk3)) Tryz.func156 fun n x=>Eq.trans (b:=Qw2 (Qod n n) x.1 x.2.1) (by kernel_rfl) (by rw [Qus n n];rfl)
noncomputable def Zco (k_0:Int × Int × Int) (x_1:Int):Option ((Bool × Unit) × Unit):=
 some ((k_0.1==x_1,()),())
noncomputable def Zhp:Ent:=⟨[.val t52,.rbox t2],[⟨t4,[false],none⟩],fun x=>Zco x.1 x.2.1⟩
theorem Zc5:GD 157 Zhp:=fnk 1 (fo [[1,2],[3]]) Qk3 Tryz.func157
noncomputable def Zio (l_0:List Qky) (id_1:Int):Option ((Z22 × Unit) × Unit):=
 Option.bind (Qme l_0) fun r1=>
 Option.bind (Qt9 r1.1.1 (fun x=>(Zco x.1 id_1).bind fun r=>some (r.1.1,()))) fun r2=>
 some ((r2.1.1,()),())
noncomputable def Zo1:Ent:=⟨[.val t29,.val t2],[⟨t29,[true],none⟩],fun x=>Zio x.1 x.2.1⟩
theorem Zj9:GD 97 Zo1:=fnk 1 (fo [[0,3],[4]]) (Qjy Qnz (Qjy Qu4 (Qjy Zc5 Qk3))) Tryz.func97
noncomputable def Z7n (m_1:Int × Int × Int × Int × Int × Int × (List Int) × Int × Int × ByteArray) (r1:(Z20 × Unit) × Unit) (lo_2:Int):Option ((Qt7 × Z9c × Unit) × Unit):=
 bif m_1.1==1 then
  Option.bind (Z0o r1.1.1 m_1 lo_2) fun r10=>
  some ((r10.2.1.1,r10.2.1.2,()),())
 else
 bif m_1.1==2 then
  Option.bind (Z0t r1.1.1 m_1) fun r11=>
  some ((r11.2.1.1,r11.2.1.2,()),())
 else
 bif m_1.1==3 then
  Option.bind (Z0u r1.1.1 m_1) fun r12=>
  some ((r12.2.1.1,r12.2.1.2,()),())
 else
 bif m_1.1==4 then
  Option.bind (Z1c r1.1.1 m_1) fun r13=>
  some ((r13.2.1.1,r13.2.1.2,()),())
 else
 bif m_1.1==5 then
  Option.bind (Z1f r1.1.1 m_1) fun r14=>
  some ((r14.2.1.1,r14.2.1.2,()),())
 else
 bif m_1.1==6 then
  Option.bind (Zio (h12 r1.1.1.1) m_1.2.1) fun r15=>
  some (((e12 r1.1.1.1 r15.1.1),r1.1.1.2,()),())
 else
  some ((r1.1.1.1,r1.1.1.2,()),())
noncomputable def Zej (r1:(Z20 × Unit) × Unit) (m_1:Int × Int × Int × Int × Int × Int × (List Int) × Int × Int × ByteArray) (lo_2:Int):Option ((Qt7 × Z9c × Unit) × Unit):=
 bif (g3 r1.1.1.1) != 0 then
  bif m_1.2.1==(g3 r1.1.1.1) then
   bif decide ((g3 m_1)>(g4 r1.1.1.1)) then
    Option.bind (Qwf r1.1.1 0) fun r3=>
    bif m_1.1==1 then
     Option.bind (Z0o r3.2.1 m_1 lo_2) fun r4=>
     some ((r4.2.1.1,r4.2.1.2,()),())
    else
    bif m_1.1==2 then
     Option.bind (Z0t r3.2.1 m_1) fun r5=>
     some ((r5.2.1.1,r5.2.1.2,()),())
    else
    bif m_1.1==3 then
     Option.bind (Z0u r3.2.1 m_1) fun r6=>
     some ((r6.2.1.1,r6.2.1.2,()),())
    else
    bif m_1.1==4 then
     Option.bind (Z1c r3.2.1 m_1) fun r7=>
     some ((r7.2.1.1,r7.2.1.2,()),())
    else
    bif m_1.1==5 then
     Option.bind (Z1f r3.2.1 m_1) fun r8=>
     some ((r8.2.1.1,r8.2.1.2,()),())
    else
    bif m_1.1==6 then
     Option.bind (Zio (h12 r3.2.1.1) m_1.2.1) fun r9=>
     some (((e12 r3.2.1.1 r9.1.1),r3.2.1.2,()),())
    else
     some ((r3.2.1.1,r3.2.1.2,()),())
   else
    Z7n m_1 r1 lo_2
  else
   Z7n m_1 r1 lo_2
 else
  Z7n m_1 r1 lo_2
noncomputable def Zm4 (t_0:Int × Int × Int × Int × Int × Int × (List Int) × Int × Int × Int × Int × Int × List Qky) (m_1:Int × Int × Int × Int × Int × Int × (List Int) × Int × Int × ByteArray) (lo_2:Int):Option ((Qt7 × Z9c × Unit) × Unit):=
 Option.bind (Zqk t_0) fun r1=>
 Option.bind (Zl2 (h12 r1.1.1.1) m_1.2.1 (g3 m_1)) fun r2=>
 bif r2.1.1 then
  some ((r1.1.1.1,[],()),())
 else
 bif m_1.2.1==(g3 r1.1.1.1) then
  bif decide ((g3 m_1)<(g4 r1.1.1.1)) then
   some ((r1.1.1.1,[],()),())
  else
   Zej r1 m_1 lo_2
 else
  Zej r1 m_1 lo_2
noncomputable def Zo5:Ent:=⟨[.val t30,.val t45,.val t2],[⟨t30,(nF 13),none⟩,⟨t48,[true],none⟩],fun x=>Zm4 x.1 x.2.1 x.2.2.1⟩
theorem Ziu:GD 46 Zo5:=fnk 1 (fo [[2,3,4,6,22,23,24,25,26,27,28,29,30,31,32,33,34,35,36,37,38,39,52,53,54,55,56,57,58,59,62,63,64,65,66,67,68,69],[2,4,6,8,22,23,24,25,26,27,28,29,30,31,32,33,34,35,36,37,38,39,52,53,54,55,56,57,58,59,62,63,64,65,66,67,68,69],[2,4,6,8,40,52,53,54,55,56,57,58,59,62,63,64,65,66,67,68,69],[6,7],[2,4,6,8,70],[2,4,6,8],[2,4,6,8,74],[2,4,6,8,74,75],[6,8],[4,6,8,74,81],[6,8],[4,6,8,74,86],[6,8],[4,6,8,74,91],[6,8],[4,6,8,74,96],[6,8],[4,6,8,101],[6,8],[6,7]]) (Qjy Zgq (Qjy Zd3 (Qjy Qt5 (Qjy Z9h (Qjy Z9o (Qjy Z9v (Qjy Z9i (Qjy Z9e (Qjy Zj9 Qk3))))))))) Tryz.func46
abbrev Qke:Type:=(Int × Bool × Unit) × Unit
noncomputable def Qta:Ctx:=[]
def Qnr:Fi:=fo [[0,1,2,40,41,42,43,44,45,46,47],[0,1,2,8,40,41,42,43,44,45,46,47],[0,1,2,8,9,10,40,41,42,43,44,45,46,47],[0,1,2,8,9,10,17,40,41,42,43,44,45,46,47],[0,1,2,8,9,10,11,40,41,42,43,44,45,46,47],[0,1,2,8,9,10,11,31,40,41,42,43,44,45,46,47],[0,1,2,8,9,10,40,41,42,43,44,45,46,47],[0,1,2,8,9,10,40,41,42,43,44,45,46,47],[6,7]]
abbrev Qlb:Type:=Qkz→Int→(Qla × Int × Unit→Option (Int × Unit))→Int→Int→Int→Option Qke
noncomputable def Qns (L1:Qlb) (v1:List Qla) (v2:Int) (v3:(Qla × Int × Unit→Option (Int × Unit))) (v4 v5 v6:Int):Option Qke:=
 bif decide (v5<v6) then
  bif decide (0≤IntKind.wrap .i64 (Int.fdiv (IntKind.wrap .u64 (IntKind.wrap .i64 (v5+v6))) (2 ^ 1)))&&decide (IntKind.wrap .i64 (Int.fdiv (IntKind.wrap .u64 (IntKind.wrap .i64 (v5+v6))) (2 ^ 1))<(v1.length:Int)) then
   Option.bind (v3 ((List.getD v1 ((IntKind.wrap .i64 (Int.fdiv (IntKind.wrap .u64 (IntKind.wrap .i64 (v5+v6))) (2 ^ 1))).toNat) (0,(⟨#[]⟩:ByteArray))),v2,())) fun r7=>
   bif decide (r7.1<0) then
    L1 v1 v2 v3 v4 (IntKind.wrap .i64 ((IntKind.wrap .i64 (Int.fdiv (IntKind.wrap .u64 (IntKind.wrap .i64 (v5+v6))) (2 ^ 1)))+1)) v6
   else
    L1 v1 v2 v3 v4 v5 (IntKind.wrap .i64 (Int.fdiv (IntKind.wrap .u64 (IntKind.wrap .i64 (v5+v6))) (2 ^ 1)))
  else none
 else
 bif decide (v5<v4) then
  bif decide (0≤v5)&&decide (v5<(v1.length:Int)) then
   Option.bind (v3 ((List.getD v1 v5.toNat (0,(⟨#[]⟩:ByteArray))),v2,())) fun r8=>
   some ((v5,r8.1==0,()),())
  else none
 else
  some ((v5,false,()),())
noncomputable def Qnx (L1:Qlb) (x_0:List Qla) (target_1:Int) (cmp_2:(Qla × Int × Unit→Option (Int × Unit))):Option Qke:=
 L1 x_0 target_1 cmp_2 (x_0.length:Int) 0 (x_0.length:Int)
noncomputable def Qnq (n:Nat):Nat→Qlb:=iter (fun _ _ _ _ _ _=>none) fun L=>Qns L
noncomputable def Qko (n m:Nat) (v1:List Qla) (v2:Int) (v3:(Qla × Int × Unit→Option (Int × Unit))) (v4 v5 v6:Int):Option Qke:=
 Qjv Qta tab (fiB [.val t32,.val t2,.fn [t58,t2] [t2]] Qnr) n [.val t32,.val t2,.fn [t58,t2] [t2]] [⟨t2,[false],none⟩,⟨t4,[false],none⟩] Tryz.f189 [1,1,1,0,0] [] [0,1,2,8,9,10] m
 ⟨[(0,Vp t32 v1),(1,Vp t2 v2),(2,V1 (.clo [t58,t2] [t2] v3)),(8,Vp t2 v4),(9,Vp t2 v5),(10,Vp t2 v6)],[]⟩
theorem Qna (n:Nat):∀ m,Qko n m=Qnq n m
 | 0=>rfl
 | m+1=>by rw [show Qko n (m+1)=Qns (Qko n m) from by kernel_rfl,Qna n m];rfl
noncomputable def Qny (n:Nat) (x_0:List Qla) (target_1:Int) (cmp_2:(Qla × Int × Unit→Option (Int × Unit))):Option Qke:=Qnx (Qnq n n) x_0 target_1 cmp_2
noncomputable def Qly (x_0:List Qla) (target_1:Int) (cmp_2:(Qla × Int × Unit→Option (Int × Unit))):Option Qke:=Qny 1099511627776 x_0 target_1 cmp_2
noncomputable def Qth:Ent:=⟨[.val t32,.val t2,.fn [t58,t2] [t2]],[⟨t2,[false],none⟩,⟨t4,[false],none⟩],fun x=>Qly x.1 x.2.1 x.2.2.1⟩
theorem Qn7:GD 189 Qth:=fnl Qnr (fun n x=>Qny n x.1 x.2.1 x.2.2.1) Qk3 Tryz.func189 fun n x=>Eq.trans (b:=Qnx (Qko n n) x.1 x.2.1 x.2.2.1) (by kernel_rfl) (by rw [Qna n n];rfl)
noncomputable def Zet (i_0:Int × ByteArray) (seq_1:Int):Option ((Int × Unit) × Unit):=
 Option.bind (Qwy i_0.1 seq_1) fun r1=>
 some ((r1.1.1,()),())
noncomputable def Zjd:Ent:=⟨[.val t58,.val t2],[⟨t2,[false],none⟩],fun x=>Zet x.1 x.2.1⟩
theorem Zdp:GD 190 Zjd:=fnk 1 (fo [[1,2],[4]]) (Qjy Quf Qk3) Tryz.func190
noncomputable def Zp4 (l_0:List Qla) (seq_1:Int):Option ((ByteArray × Bool × Unit) × Unit):=
 Option.bind (Qly l_0 seq_1 (fun x=>(Zet x.1 x.2.1).bind fun r=>some (r.1.1,()))) fun r1=>
 bif !r1.1.2.1 then
  some (((⟨#[]⟩:ByteArray),false,()),())
 else
 bif decide (0≤r1.1.1)&&decide (r1.1.1<(l_0.length:Int)) then
  some (((List.getD l_0 r1.1.1.toNat (0,(⟨#[]⟩:ByteArray))).2,true,()),())
 else none
noncomputable def Zjo:Ent:=⟨[.val t32,.val t2],[⟨t9,[false],none⟩,⟨t4,[false],none⟩],fun x=>Zp4 x.1 x.2.1⟩
theorem Zkl:GD 159 Zjo:=fnk 1 (fo [[0,1],[0,6,7],[0,6,15],[4,5],[4,5]]) (Qjy Qn7 (Qjy Zdp Qk3)) Tryz.func159
abbrev Qro:Type:=(Qkz × Zjc × Unit) × Unit
noncomputable def Zmr:Ctx:=[(159,Zjo)]
def Zch:Fi:={ keep:=[],vty:=[(6,32),(7,146)],vals:=[],live:=[(0,[1,2,3,6,7,25,26,27,28,48,49,52,53,60,61,62,63,64,65,66,67,68]),(1,[1,2,3,6,7,14,25,26,27,28,48,49,52,53,60,61,62,63,64,65,66,67,68]),(2,[6,7]),(3,[1,2,3,6,7,25,26,27,28,48,49,52,53,60,61,62,63,64,65,66,67,68]),(4,[1,2,3,6,7,8,25,26,27,28,48,49,52,53,60,61,62,63,64,65,66,67,68]),(5,[1,2,3,6,7,8,25,26,27,28,29,48,49,52,53,60,61,62,63,64,65,66,67,68]),(6,[1,2,3,6,7,8,25,26,27,28,48,49,52,53,60,61,62,63,64,65,66,67,68]),(7,[1,2,3,6,7,8,9,10,25,26,27,28,48,49,52,53,60,61,62,63,64,65,66,67,68]),(8,[1,2,3,6,7,8,9,10,25,26,27,28,39,48,49,52,53,60,61,62,63,64,65,66,67,68]),(9,[1,2,3,6,7,8,10,25,26,27,28,48,49,52,53,60,61,62,63,64,65,66,67,68]),(10,[1,2,3,6,7,8,25,26,27,28,48,49,52,53,54,60,61,62,63,64,65,66,67,68]),(11,[1,2,3,6,7,8,11,25,26,27,28,48,49,52,53,60,61,62,63,64,65,66,67,68]),(12,[1,2,3,6,7,8,11,25,26,27,28,48,49,52,53,60,61,62,63,64,65,66,67,68,69]),(13,[1,2,3,6,7,8,25,26,27,28,48,49,52,53,60,61,62,63,64,65,66,67,68]),(14,[1,2,3,6,7,8,25,26,27,28,48,49,52,53,60,61,62,63,64,65,66,67,68]),(15,[6,7])] }
abbrev Qx2:Type:=Int→Int→Int→Int→Int→Qkz→Qkz→Qso→Int→Int→Qkz→Zjc→Option Qro
noncomputable def Zd0 (v12:List (Int × Int)) (L1:Qx2) (v1 v2 v3 v4 v5:Int) (v6 v7:List Qla) (v8:List Qrq) (v9 v10:Int) (v11:List Qla) (r13:(ByteArray × Bool × Unit) × Unit):Option Qro:=
 bif Nat.ble (v12.length+1) 1073741824 then
  L1 v1 v2 (IntKind.wrap .i64 (v3+1)) v4 v5 v6 v7 v8 v9 v10 (v11++[(v3,r13.1.1)]) (v12++[(v3,v3)])
 else none
noncomputable def Zbw (v12:List (Int × Int)) (L1:Qx2) (v1 v2 v3 v4 v5:Int) (v6 v7:List Qla) (v8:List Qrq) (v9 v10:Int) (v11:List Qla):Option Qro:=
 bif Nat.ble (v12.length+1) 1073741824 then
  L1 v1 v2 (IntKind.wrap .i64 (v3+1)) v4 v5 v6 v7 v8 v9 v10 v11 (v12++[(v3,v3)])
 else none
noncomputable def Zbm (L1:Qx2) (v1 v2 v3 v4 v5:Int) (v6 v7:List Qla) (v8:List Qrq) (v9 v10:Int) (v11:List Qla) (v12:List (Int × Int)):Option Qro:=
 bif decide (v3≤v2) then
  bif decide (IntKind.wrap .i64 (v3 - v1)<8) then
   Option.bind (Zp4 v6 v3) fun r13=>
   bif r13.1.2.1 then
    bif Nat.ble (v11.length+1) 1073741824 then
     bif r13.1.2.1 then
      L1 v1 v2 (IntKind.wrap .i64 (v3+1)) v4 v5 v6 v7 v8 v9 v10 (v11++[(v3,r13.1.1)]) v12
     else
     bif decide (v3<1) then
      L1 v1 v2 (IntKind.wrap .i64 (v3+1)) v4 v5 v6 v7 v8 v9 v10 (v11++[(v3,r13.1.1)]) v12
     else
     bif decide (v3>1000000) then
      L1 v1 v2 (IntKind.wrap .i64 (v3+1)) v4 v5 v6 v7 v8 v9 v10 (v11++[(v3,r13.1.1)]) v12
     else
     bif decide ((v12.length:Int)>0) then
      bif decide (0≤IntKind.wrap .i64 ((v12.length:Int) - 1))&&decide (IntKind.wrap .i64 ((v12.length:Int) - 1)<(v12.length:Int)) then
       bif decide (0≤IntKind.wrap .i64 ((v12.length:Int) - 1))&&decide (IntKind.wrap .i64 ((v12.length:Int) - 1)<(v12.length:Int)) then
        bif ((List.getD v12 ((IntKind.wrap .i64 ((v12.length:Int) - 1)).toNat) (0,0)).2)==(IntKind.wrap .i64 (v3 - 1)) then
         bif decide (0≤IntKind.wrap .i64 ((v12.length:Int) - 1))&&decide (IntKind.wrap .i64 ((v12.length:Int) - 1)<(v12.length:Int)) then
          bif decide (0≤IntKind.wrap .i64 ((v12.length:Int) - 1))&&decide (IntKind.wrap .i64 ((v12.length:Int) - 1)<(v12.length:Int)) then
           L1 v1 v2 (IntKind.wrap .i64 (v3+1)) v4 v5 v6 v7 v8 v9 v10 (v11++[(v3,r13.1.1)]) (List.set v12 ((IntKind.wrap .i64 ((v12.length:Int) - 1)).toNat) ((List.getD v12 ((IntKind.wrap .i64 ((v12.length:Int) - 1)).toNat) (0,0)).1,v3))
          else none
         else none
        else
         Zd0 v12 L1 v1 v2 v3 v4 v5 v6 v7 v8 v9 v10 v11 r13
       else none
      else none
     else
      Zd0 v12 L1 v1 v2 v3 v4 v5 v6 v7 v8 v9 v10 v11 r13
    else none
   else
   bif r13.1.2.1 then
    L1 v1 v2 (IntKind.wrap .i64 (v3+1)) v4 v5 v6 v7 v8 v9 v10 v11 v12
   else
   bif decide (v3<1) then
    L1 v1 v2 (IntKind.wrap .i64 (v3+1)) v4 v5 v6 v7 v8 v9 v10 v11 v12
   else
   bif decide (v3>1000000) then
    L1 v1 v2 (IntKind.wrap .i64 (v3+1)) v4 v5 v6 v7 v8 v9 v10 v11 v12
   else
   bif decide ((v12.length:Int)>0) then
    bif decide (0≤IntKind.wrap .i64 ((v12.length:Int) - 1))&&decide (IntKind.wrap .i64 ((v12.length:Int) - 1)<(v12.length:Int)) then
     bif decide (0≤IntKind.wrap .i64 ((v12.length:Int) - 1))&&decide (IntKind.wrap .i64 ((v12.length:Int) - 1)<(v12.length:Int)) then
      bif ((List.getD v12 ((IntKind.wrap .i64 ((v12.length:Int) - 1)).toNat) (0,0)).2)==(IntKind.wrap .i64 (v3 - 1)) then
       bif decide (0≤IntKind.wrap .i64 ((v12.length:Int) - 1))&&decide (IntKind.wrap .i64 ((v12.length:Int) - 1)<(v12.length:Int)) then
        bif decide (0≤IntKind.wrap .i64 ((v12.length:Int) - 1))&&decide (IntKind.wrap .i64 ((v12.length:Int) - 1)<(v12.length:Int)) then
         L1 v1 v2 (IntKind.wrap .i64 (v3+1)) v4 v5 v6 v7 v8 v9 v10 v11 (List.set v12 ((IntKind.wrap .i64 ((v12.length:Int) - 1)).toNat) ((List.getD v12 ((IntKind.wrap .i64 ((v12.length:Int) - 1)).toNat) (0,0)).1,v3))
        else none
       else none
      else
       Zbw v12 L1 v1 v2 v3 v4 v5 v6 v7 v8 v9 v10 v11
     else none
    else none
   else
    Zbw v12 L1 v1 v2 v3 v4 v5 v6 v7 v8 v9 v10 v11
  else
   some ((v11,v12,()),())
 else
  some ((v11,v12,()),())
noncomputable def Zff (L1:Qx2) (f_0:Int × Int × Qkz × Qkz × Qso × Int × Int) (lo_1 hi_2:Int):Option Qro:=
 bif decide (f_0.1<1) then
  some (([],[],()),())
 else
  L1 lo_1 (if IntKind.wrap .i64 (f_0.1 - 1)<hi_2 then IntKind.wrap .i64 (f_0.1 - 1) else hi_2) lo_1 f_0.1 f_0.2.1 f_0.2.2.1 (g3 f_0) (g4 f_0) (g5 f_0) (h6 f_0) [] []
noncomputable def Zbv (n:Nat):Nat→Qx2:=iter (fun _ _ _ _ _ _ _ _ _ _ _ _=>none) fun L=>Zbm L
noncomputable def Z08 (n m:Nat) (v1 v2 v3 v4 v5:Int) (v6 v7:List Qla) (v8:List Qrq) (v9 v10:Int) (v11:List Qla) (v12:List (Int × Int)):Option Qro:=
 Qjv Zmr tab (fiB [.val t36,.val t2,.val t2] Zch) n [.val t36,.val t2,.val t2] [⟨t32,[true],none⟩,⟨Zrl,[true],none⟩] Tryz.f99 [1,1,1,0,1,0] [] [1,2,3,6,7,8] m
 ⟨[(1,Vp t2 v1),(2,Vp t2 v2),(3,V1 (.ptr (3,0) 0)),(6,V1 (.ref (888888,6))),(7,V1 (.ref (888888,7))),(8,Vp t2 v3)],[((3,0),Ob.box 37 [LV.pure t2 v4,LV.pure t2 v5,LV.pure t32 v6,LV.pure t32 v7,LV.pure t33 v8,LV.pure t2 v9,LV.pure t2 v10]),((888888,6),Ob.row 59 t58 v11),((888888,7),Ob.row 100 t34 v12)]⟩
theorem Zaf (n:Nat):∀ m,Z08 n m=Zbv n m
 | 0=>rfl
 | m+1=>by rw [show Z08 n (m+1)=Zbm (Z08 n m) from by kernel_rfl,Zaf n m];rfl
noncomputable def Zfh (n:Nat) (f_0:Int × Int × Qkz × Qkz × Qso × Int × Int) (lo_1 hi_2:Int):Option Qro:=Zff (Zbv n n) f_0 lo_1 hi_2
noncomputable def Zjw (f_0:Int × Int × Qkz × Qkz × Qso × Int × Int) (lo_1 hi_2:Int):Option Qro:=Zfh 1099511627776 f_0 lo_1 hi_2
noncomputable def Zf5:Ent:=⟨[.val t36,.val t2,.val t2],[⟨t32,[true],none⟩,⟨Zrl,[true],none⟩],fun x=>Zjw x.1 x.2.1 x.2.2.1⟩
theorem Zh0:GD 99 Zf5:=fnl Zch (fun n x=>Zfh n x.1 x.2.1 x.2.2.1) (Qjy Zkl Qk3) Tryz.func99 fun n x=>Eq.trans (b:=Zff (Z08 n n) x.1 x.2.1 x.2.2.1) (by kernel_rfl) (by rw [Zaf n n];rfl)
abbrev Qp4:Type:=(Z9c × Unit) × Unit
noncomputable def Zbh:Ctx:=[(58,Z3o),(98,Zht),(99,Zf5)]
def Z44:Fi:={ keep:=[],vty:=[(4,48)],vals:=[],live:=[(0,[2,3,4,25,26,27,28,29]),(1,[2,3,4,5,6,25,26,27,28,29]),(2,[2,3,4,30]),(3,[4]),(4,[2,3,4,7,8]),(5,[2,3,4,8,41,42,43]),(6,[2,3,4,8,41,42,43,44]),(7,[2,3,4,8,10,41,42,43]),(8,[2,3,4,8,41,42,43]),(9,[2,3,4,8,41,42,43]),(10,[2,3,4,59,60,61]),(11,[2,3,4,59,60,61,62]),(12,[2,3,4,12,59,60,61]),(13,[2,3,4,59,60,61]),(14,[2,3,4,59,60,61]),(15,[4])] }
abbrev Z3z:Type:=Int→Int→Bool→Int→ByteArray→Int→Int→Int→Int→Int→Int→List Int→Int→Int→Int→Int→Int→Z22→Int→Int→Qkz→Qkz→Qso→Int→Int→Int→Int→Int→Int→Int→Int→Int→List Int→Int→Int→ByteArray→Z9c→Zjc→Qkz→Option Qp4
abbrev Z41:Type:=Int→Int→Bool→Int→ByteArray→Int→Int→Int→Int→Int→Int→List Int→Int→Int→Int→Int→Int→Z22→Int→Int→Qkz→Qkz→Qso→Int→Int→Int→Int→Int→Int→Int→Int→Int→List Int→Int→Int→ByteArray→Z9c→Zjc→Option Qp4
noncomputable def Zal (L1:Z3z) (L2:Z41) (v3 v4:Int) (v5:Bool) (v6:Int) (v7:ByteArray) (v8 v9 v10 v11 v12 v13:Int) (v14:List Int) (v15 v16 v17 v18 v19:Int) (v20:List Qky) (v21 v22:Int) (v23 v24:List Qla) (v25:List Qrq) (v26 v27 v28 v29 v30 v31 v32 v33 v34:Int) (v35:List Int) (v36 v37:Int) (v38:ByteArray) (v39:List Qyy) (v40:List (Int × Int)) (v41:List Qla):Option Qp4:=
 bif decide (v4<v3) then
  bif decide (0≤v4)&&decide (v4<(v41.length:Int)) then
   bif decide (0≤v4)&&decide (v4<(v41.length:Int)) then
    Option.bind (Z0i (v5,v6,v7,(v8,v9,v10,v11,v12,v13,v14,v15,v16,v17,v18,v19,v20),(v21,v22,v23,v24,v25,v26,v27),v28) 7 v30 ((List.getD v41 v4.toNat (0,(⟨#[]⟩:ByteArray))).1) 0 ((List.getD v41 v4.toNat (0,(⟨#[]⟩:ByteArray))).2)) fun r42=>
    bif Nat.ble (v39.length+1) 1073741824 then
     L1 v3 (IntKind.wrap .i64 (v4+1)) v5 v6 v7 v8 v9 v10 v11 v12 v13 v14 v15 v16 v17 v18 v19 v20 v21 v22 v23 v24 v25 v26 v27 v28 v29 v30 v31 v32 v33 v34 v35 v36 v37 v38 (v39++[r42.1.1]) v40 v41
    else none
   else none
  else none
 else
  L2 (v40.length:Int) 0 v5 v6 v7 v8 v9 v10 v11 v12 v13 v14 v15 v16 v17 v18 v19 v20 v21 v22 v23 v24 v25 v26 v27 v28 v29 v30 v31 v32 v33 v34 v35 v36 v37 v38 v39 v40
noncomputable def Zas (L2:Z41) (v43 v44:Int) (v45:Bool) (v46:Int) (v47:ByteArray) (v48 v49 v50 v51 v52 v53:Int) (v54:List Int) (v55 v56 v57 v58 v59:Int) (v60:List Qky) (v61 v62:Int) (v63 v64:List Qla) (v65:List Qrq) (v66 v67 v68 v69 v70 v71 v72 v73 v74:Int) (v75:List Int) (v76 v77:Int) (v78:ByteArray) (v79:List Qyy) (v80:List (Int × Int)):Option Qp4:=
 bif decide (v44<v43) then
  bif decide (0≤v44)&&decide (v44<(v80.length:Int)) then
   bif decide (0≤v44)&&decide (v44<(v80.length:Int)) then
    Option.bind (Z0i (v45,v46,v47,(v48,v49,v50,v51,v52,v53,v54,v55,v56,v57,v58,v59,v60),(v61,v62,v63,v64,v65,v66,v67),v68) 9 v70 ((List.getD v80 v44.toNat (0,0)).1) ((List.getD v80 v44.toNat (0,0)).2) (⟨#[]⟩:ByteArray)) fun r81=>
    bif Nat.ble (v79.length+1) 1073741824 then
     L2 v43 (IntKind.wrap .i64 (v44+1)) v45 v46 v47 v48 v49 v50 v51 v52 v53 v54 v55 v56 v57 v58 v59 v60 v61 v62 v63 v64 v65 v66 v67 v68 v69 v70 v71 v72 v73 v74 v75 v76 v77 v78 (v79++[r81.1.1]) v80
    else none
   else none
  else none
 else
  some ((v79,()),())
noncomputable def Zd1 (L1:Z3z) (n_0:Bool × Int × ByteArray × Qt7 × Z2k × Int) (m_1:Int × Int × Int × Int × Int × Int × (List Int) × Int × Int × ByteArray):Option Qp4:=
 Option.bind (Z55 (h12 (g3 n_0)) m_1.2.1) fun r1=>
 bif !r1.1.2.1 then
  some (([],()),())
 else
 bif r1.1.1.2.1 != (g3 m_1) then
  some (([],()),())
 else
  Option.bind (Zjw (g4 n_0) (g7 m_1) (g8 m_1)) fun r2=>
  L1 (r2.1.1.length:Int) 0 n_0.1 n_0.2.1 n_0.2.2.1 (g3 n_0).1 (g3 n_0).2.1 (g3 n_0).2.2.1 (g3 (g3 n_0)) (g4 (g3 n_0)) (g5 (g3 n_0)) (g6 (g3 n_0)) (g7 (g3 n_0)) (g8 (g3 n_0)) (g9 (g3 n_0)) (g10 (g3 n_0)) (g11 (g3 n_0)) (h12 (g3 n_0)) (g4 n_0).1 (g4 n_0).2.1 (g4 n_0).2.2.1 (g3 (g4 n_0)) (g4 (g4 n_0)) (g5 (g4 n_0)) (h6 (g4 n_0)) (h5 n_0) m_1.1 m_1.2.1 m_1.2.2.1 (g3 m_1) (g4 m_1) (g5 m_1) (g6 m_1) (g7 m_1) (g8 m_1) (h9 m_1) [] r2.1.2.1 r2.1.1
noncomputable def Zaq (n:Nat):Nat→Z41:=iter (fun _ _ _ _ _ _ _ _ _ _ _ _ _ _ _ _ _ _ _ _ _ _ _ _ _ _ _ _ _ _ _ _ _ _ _ _ _ _=>none) fun L=>Zas L
noncomputable def Zar (n:Nat):Nat→Z3z:=iter (fun _ _ _ _ _ _ _ _ _ _ _ _ _ _ _ _ _ _ _ _ _ _ _ _ _ _ _ _ _ _ _ _ _ _ _ _ _ _ _=>none) fun L=>Zal L (Zaq n n)
noncomputable def Qy6 (n m:Nat) (v3 v4:Int) (v5:Bool) (v6:Int) (v7:ByteArray) (v8 v9 v10 v11 v12 v13:Int) (v14:List Int) (v15 v16 v17 v18 v19:Int) (v20:List Qky) (v21 v22:Int) (v23 v24:List Qla) (v25:List Qrq) (v26 v27 v28 v29 v30 v31 v32 v33 v34:Int) (v35:List Int) (v36 v37:Int) (v38:ByteArray) (v39:List Qyy) (v40:List (Int × Int)) (v41:List Qla):Option Qp4:=
 Qjv Zbh tab (fiB [.val t38,.val t45] Z44) n [.val t38,.val t45] [⟨t48,[true],none⟩] Tryz.f47 [1,1,1,1,0,1,0] [] [2,3,4,8,41,42,43] m
 ⟨[(2,V1 (.ptr (2,0) 0)),(3,V1 (.ptr (3,0) 0)),(4,V1 (.ref (888888,4))),(8,V1 (.ref (888888,8))),(41,V1 (.ref (888888,41))),(42,Vp t2 v3),(43,Vp t2 v4)],[((2,0),Ob.box 39 [LV.pure t4 v5,LV.pure t2 v6,LV.pure t9 v7,LV.pure t2 v8,LV.pure t2 v9,LV.pure t2 v10,LV.pure t2 v11,LV.pure t2 v12,LV.pure t2 v13,LV.pure t28 v14,LV.pure t2 v15,LV.pure t2 v16,LV.pure t2 v17,LV.pure t2 v18,LV.pure t2 v19,LV.pure t29 v20,LV.pure t2 v21,LV.pure t2 v22,LV.pure t32 v23,LV.pure t32 v24,LV.pure t33 v25,LV.pure t2 v26,LV.pure t2 v27,LV.pure t2 v28]),((3,0),Ob.box 46 [LV.pure t2 v29,LV.pure t2 v30,LV.pure t2 v31,LV.pure t2 v32,LV.pure t2 v33,LV.pure t2 v34,LV.pure t28 v35,LV.pure t2 v36,LV.pure t2 v37,LV.pure t9 v38]),((888888,4),Ob.row 46 t45 v39),((888888,8),Ob.row 100 t34 v40),((888888,41),Ob.row 59 t58 v41)]⟩
noncomputable def Qy3 (n m:Nat) (v43 v44:Int) (v45:Bool) (v46:Int) (v47:ByteArray) (v48 v49 v50 v51 v52 v53:Int) (v54:List Int) (v55 v56 v57 v58 v59:Int) (v60:List Qky) (v61 v62:Int) (v63 v64:List Qla) (v65:List Qrq) (v66 v67 v68 v69 v70 v71 v72 v73 v74:Int) (v75:List Int) (v76 v77:Int) (v78:ByteArray) (v79:List Qyy) (v80:List (Int × Int)):Option Qp4:=
 Qjv Zbh tab (fiB [.val t38,.val t45] Z44) n [.val t38,.val t45] [⟨t48,[true],none⟩] Tryz.f47 [1,1,1,1,1,0,1,0] [] [2,3,4,59,60,61] m
 ⟨[(2,V1 (.ptr (2,0) 0)),(3,V1 (.ptr (3,0) 0)),(4,V1 (.ref (888888,4))),(59,V1 (.ref (888888,59))),(60,Vp t2 v43),(61,Vp t2 v44)],[((2,0),Ob.box 39 [LV.pure t4 v45,LV.pure t2 v46,LV.pure t9 v47,LV.pure t2 v48,LV.pure t2 v49,LV.pure t2 v50,LV.pure t2 v51,LV.pure t2 v52,LV.pure t2 v53,LV.pure t28 v54,LV.pure t2 v55,LV.pure t2 v56,LV.pure t2 v57,LV.pure t2 v58,LV.pure t2 v59,LV.pure t29 v60,LV.pure t2 v61,LV.pure t2 v62,LV.pure t32 v63,LV.pure t32 v64,LV.pure t33 v65,LV.pure t2 v66,LV.pure t2 v67,LV.pure t2 v68]),((3,0),Ob.box 46 [LV.pure t2 v69,LV.pure t2 v70,LV.pure t2 v71,LV.pure t2 v72,LV.pure t2 v73,LV.pure t2 v74,LV.pure t28 v75,LV.pure t2 v76,LV.pure t2 v77,LV.pure t9 v78]),((888888,4),Ob.row 46 t45 v79),((888888,59),Ob.row 100 t34 v80)]⟩
theorem Z8g (n:Nat):∀ m,Qy3 n m=Zaq n m
 | 0=>rfl
 | m+1=>by rw [show Qy3 n (m+1)=Zas (Qy3 n m) from by kernel_rfl,Z8g n m];rfl
theorem Z8o (n:Nat):∀ m,Qy6 n m=Zar n m
 | 0=>rfl
 | m+1=>by rw [show Qy6 n (m+1)=Zal (Qy6 n m) (Qy3 n n) from by kernel_rfl,Z8g n n,Z8o n m];rfl
noncomputable def Zbn (n:Nat) (n_0:Bool × Int × ByteArray × Qt7 × Z2k × Int) (m_1:Int × Int × Int × Int × Int × Int × (List Int) × Int × Int × ByteArray):Option Qp4:=Zd1 (Zar n n) n_0 m_1
noncomputable def Zgp (n_0:Bool × Int × ByteArray × Qt7 × Z2k × Int) (m_1:Int × Int × Int × Int × Int × Int × (List Int) × Int × Int × ByteArray):Option Qp4:=Zbn 1099511627776 n_0 m_1
noncomputable def Zlc:Ent:=⟨[.val t38,.val t45],[⟨t48,[true],none⟩],fun x=>Zgp x.1 x.2.1⟩
theorem Zfv:GD 47 Zlc:=fnl Z44 (fun n x=>Zbn n x.1 x.2.1) (Qjy Z1r (Qjy Qy5 (Qjy Zh0 Qk3))) Tryz.func47 fun n x=>Eq.trans (b:=Zd1 (Qy6 n n) x.1 x.2.1) (by kernel_rfl) (by rw [Z8o n n];rfl)
noncomputable def Qxv (f_0:Int × Int × Qkz × Qkz × Qso × Int × Int) (top_1:Int):Option ((Z2k × Unit) × Unit):=
 Option.bind (Qpl f_0) fun r1=>
 bif decide (r1.1.1.1>0) then
  bif decide (top_1≤1000000) then
   some (((u1 r1.1.1 (if top_1>r1.1.1.2.1 then top_1 else r1.1.1.2.1)),()),())
  else
   some ((r1.1.1,()),())
 else
  some ((r1.1.1,()),())
noncomputable def Zn0:Ent:=⟨[.val t36,.val t2],[⟨t36,[false,false,true,true,true,false,false],none⟩],fun x=>Qxv x.1 x.2.1⟩
theorem Qwu:GD 100 Zn0:=fnk 1 (fo [[1,2,4,11,12],[1,2,4,11,12],[1,2,4,13],[2,4],[4]]) (Qjy Qsn Qk3) Tryz.func100
noncomputable def Zjm (f_0:Int × Int × Qkz × Qkz × Qso × Int × Int) (next_1:Int):Option ((Z2k × Unit) × Unit):=
 bif decide (f_0.1>0) then
  Option.bind (Qxv f_0 (IntKind.wrap .i64 (next_1 - 1))) fun r1=>
  some ((r1.1.1,()),())
 else
  Option.bind (Qpl f_0) fun r2=>
  bif decide (next_1 ≥ 1) then
   bif decide (next_1≤1000000) then
    some (((next_1,r2.1.1.2),()),())
   else
    some ((r2.1.1,()),())
  else
   some ((r2.1.1,()),())
noncomputable def Zlp:Ent:=⟨[.val t36,.val t2],[⟨t36,[false,false,true,true,true,false,false],none⟩],fun x=>Zjm x.1 x.2.1⟩
theorem Zhb:GD 101 Zlp:=fnk 1 (fo [[1,2,4,17,18],[1,2,4,7,17,18],[4],[1,2,4,17,18],[1,2,4,19],[2,4],[4]]) (Qjy Qwu (Qjy Qsn Qk3)) Tryz.func101
noncomputable def Zhs (x_0:Int × ByteArray) (seq_1:Int):Option ((Int × Unit) × Unit):=
 Option.bind (Qwy x_0.1 seq_1) fun r1=>
 some ((r1.1.1,()),())
noncomputable def Zkw:Ent:=⟨[.val t58,.val t2],[⟨t2,[false],none⟩],fun x=>Zhs x.1 x.2.1⟩
theorem Zfu:GD 191 Zkw:=fnk 1 (fo [[1,2],[4]]) (Qjy Quf Qk3) Tryz.func191
noncomputable def Qzq:Ctx:=[(192,Qjh)]
def Qyq:Fi:={ keep:=[],vty:=[],vals:=[],live:=[(0,[0,1,2]),(1,[0,1,2]),(2,[0,1,2,7]),(3,[0,1,2,7,16]),(4,[6]),(5,[0,1,2,7,8]),(6,[0,1,2,7,8,22]),(7,[6]),(8,[0,1,2,7,8,31]),(9,[0,1,2,7,9]),(10,[0,1,7,9]),(11,[9]),(12,[6]),(13,[0,1,2,7,8]),(14,[0,1,2,7,8,68]),(15,[0,1,2]),(16,[0]),(17,[6]),(18,[0,1,7]),(19,[0]),(20,[6])] }
noncomputable def Qzz (c:Nat) (s_0:List Qla) (i_1:Int) (v_2:List Qla):Option ((Qkz × Unit) × Unit):=
 bif (decide (0≤i_1)&&decide (i_1≤((s_0.length:Nat):Int)))&&decide (((s_0.length:Nat):Int)≤((((List.map some s_0++List.replicate c none).length) - 0:Nat):Int)) then
  bif (v_2.length:Int)==0 then
   bif Nat.ble s_0.length ((List.map some s_0++List.replicate c none).length) then
    Option.bind (Qd (List.take s_0.length (List.map some s_0++List.replicate c none))) fun (z1:List Qla)=>
    some ((z1,()),())
   else none
  else
  bif i_1==((s_0.length:Nat):Int) then
   bif Nat.ble (0+s_0.length) ((List.map some s_0++List.replicate c none).length) then
    bif Nat.ble (s_0.length+v_2.length) ((List.map some s_0++List.replicate c none).length) then
     bif Nat.ble (s_0.length+v_2.length) ((Q6 (List.map some s_0++List.replicate c none) s_0.length v_2).length) then
      Option.bind (Qd (List.take (s_0.length+v_2.length) (Q6 (List.map some s_0++List.replicate c none) s_0.length v_2))) fun (z2:List Qla)=>
      some ((z2,()),())
     else none
    else
    bif Nat.ble (s_0.length+v_2.length) 1073741824 then
     Option.bind (Qd (List.take s_0.length (List.map some s_0++List.replicate c none))) fun (z3:List Qla)=>
     some ((z3++v_2,()),())
    else none
   else none
  else
  bif Nat.ble (0+s_0.length) ((List.map some s_0++List.replicate c none).length) then
   bif decide (IntKind.wrap .i64 (((s_0.length:Nat):Int)+(v_2.length:Int))>((((List.map some s_0++List.replicate c none).length) - 0:Nat):Int)) then
    bif decide (0≤i_1)&&decide (i_1≤((((List.map some s_0++List.replicate c none).length) - 0:Nat):Int)) then
     bif Nat.ble (0+((i_1 - 0).toNat)) ((List.map some s_0++List.replicate c none).length) then
      bif decide (0<IntKind.wrap .i64 ((IntKind.wrap .i64 (((s_0.length:Nat):Int)+(v_2.length:Int))) - i_1))&&true&&Nat.blt ((List.map some s_0++List.replicate c none).length) (((i_1 - 0).toNat)+((List.replicate ((IntKind.wrap .i64 ((IntKind.wrap .i64 (((s_0.length:Nat):Int)+(v_2.length:Int))) - i_1)).toNat) ((0,(⟨#[]⟩:ByteArray)):Int × ByteArray)).length))&&Nat.ble (((List.map some s_0++List.replicate c none).length)+((List.replicate ((IntKind.wrap .i64 ((IntKind.wrap .i64 (((s_0.length:Nat):Int)+(v_2.length:Int))) - i_1)).toNat) ((0,(⟨#[]⟩:ByteArray)):Int × ByteArray)).length)) 536870912 then
       bif (decide (0≤i_1)&&decide (i_1≤((((i_1 - 0).toNat)+((List.replicate ((IntKind.wrap .i64 ((IntKind.wrap .i64 (((s_0.length:Nat):Int)+(v_2.length:Int))) - i_1)).toNat) ((0,(⟨#[]⟩:ByteArray)):Int × ByteArray)).length):Nat):Int)))&&decide (((((i_1 - 0).toNat)+((List.replicate ((IntKind.wrap .i64 ((IntKind.wrap .i64 (((s_0.length:Nat):Int)+(v_2.length:Int))) - i_1)).toNat) ((0,(⟨#[]⟩:ByteArray)):Int × ByteArray)).length):Nat):Int)≤((((List.take ((i_1 - 0).toNat) (List.map some s_0++List.replicate c none)++List.map some (List.replicate ((IntKind.wrap .i64 ((IntKind.wrap .i64 (((s_0.length:Nat):Int)+(v_2.length:Int))) - i_1)).toNat) ((0,(⟨#[]⟩:ByteArray)):Int × ByteArray))).length) - 0:Nat):Int)) then
        bif Nat.ble ((0+i_1.toNat)+((((((i_1 - 0).toNat)+((List.replicate ((IntKind.wrap .i64 ((IntKind.wrap .i64 (((s_0.length:Nat):Int)+(v_2.length:Int))) - i_1)).toNat) ((0,(⟨#[]⟩:ByteArray)):Int × ByteArray)).length):Nat):Int) - i_1).toNat)) ((List.take ((i_1 - 0).toNat) (List.map some s_0++List.replicate c none)++List.map some (List.replicate ((IntKind.wrap .i64 ((IntKind.wrap .i64 (((s_0.length:Nat):Int)+(v_2.length:Int))) - i_1)).toNat) ((0,(⟨#[]⟩:ByteArray)):Int × ByteArray))).length) then
         bif (decide (0≤IntKind.wrap .i64 (i_1+(v_2.length:Int)))&&decide (IntKind.wrap .i64 (i_1+(v_2.length:Int))≤((((i_1 - 0).toNat)+((List.replicate ((IntKind.wrap .i64 ((IntKind.wrap .i64 (((s_0.length:Nat):Int)+(v_2.length:Int))) - i_1)).toNat) ((0,(⟨#[]⟩:ByteArray)):Int × ByteArray)).length):Nat):Int)))&&decide (((((i_1 - 0).toNat)+((List.replicate ((IntKind.wrap .i64 ((IntKind.wrap .i64 (((s_0.length:Nat):Int)+(v_2.length:Int))) - i_1)).toNat) ((0,(⟨#[]⟩:ByteArray)):Int × ByteArray)).length):Nat):Int)≤((((Q6 (List.take ((i_1 - 0).toNat) (List.map some s_0++List.replicate c none)++List.map some (List.replicate ((IntKind.wrap .i64 ((IntKind.wrap .i64 (((s_0.length:Nat):Int)+(v_2.length:Int))) - i_1)).toNat) ((0,(⟨#[]⟩:ByteArray)):Int × ByteArray))) (0+i_1.toNat) (List.take ((((((i_1 - 0).toNat)+((List.replicate ((IntKind.wrap .i64 ((IntKind.wrap .i64 (((s_0.length:Nat):Int)+(v_2.length:Int))) - i_1)).toNat) ((0,(⟨#[]⟩:ByteArray)):Int × ByteArray)).length):Nat):Int) - i_1).toNat) v_2)).length) - 0:Nat):Int)) then
          bif (decide (0≤i_1)&&decide (i_1≤((s_0.length:Nat):Int)))&&decide (((s_0.length:Nat):Int)≤((((List.map some s_0++List.replicate c none).length) - 0:Nat):Int)) then
           bif Nat.ble ((0+((IntKind.wrap .i64 (i_1+(v_2.length:Int))).toNat))+((((((i_1 - 0).toNat)+((List.replicate ((IntKind.wrap .i64 ((IntKind.wrap .i64 (((s_0.length:Nat):Int)+(v_2.length:Int))) - i_1)).toNat) ((0,(⟨#[]⟩:ByteArray)):Int × ByteArray)).length):Nat):Int) - (IntKind.wrap .i64 (i_1+(v_2.length:Int)))).toNat)) ((Q6 (List.take ((i_1 - 0).toNat) (List.map some s_0++List.replicate c none)++List.map some (List.replicate ((IntKind.wrap .i64 ((IntKind.wrap .i64 (((s_0.length:Nat):Int)+(v_2.length:Int))) - i_1)).toNat) ((0,(⟨#[]⟩:ByteArray)):Int × ByteArray))) (0+i_1.toNat) (List.take ((((((i_1 - 0).toNat)+((List.replicate ((IntKind.wrap .i64 ((IntKind.wrap .i64 (((s_0.length:Nat):Int)+(v_2.length:Int))) - i_1)).toNat) ((0,(⟨#[]⟩:ByteArray)):Int × ByteArray)).length):Nat):Int) - i_1).toNat) v_2)).length) then
            bif Nat.ble ((0+i_1.toNat)+((((s_0.length:Nat):Int) - i_1).toNat)) ((List.map some s_0++List.replicate c none).length) then
            Option.bind (Qd (List.take (min ((((((i_1 - 0).toNat)+((List.replicate ((IntKind.wrap .i64 ((IntKind.wrap .i64 (((s_0.length:Nat):Int)+(v_2.length:Int))) - i_1)).toNat) ((0,(⟨#[]⟩:ByteArray)):Int × ByteArray)).length):Nat):Int) - (IntKind.wrap .i64 (i_1+(v_2.length:Int)))).toNat) ((((s_0.length:Nat):Int) - i_1).toNat)) (List.drop (0+i_1.toNat) (List.map some s_0++List.replicate c none)))) fun (z4:List Qla)=>
            bif Nat.ble (((i_1 - 0).toNat)+((List.replicate ((IntKind.wrap .i64 ((IntKind.wrap .i64 (((s_0.length:Nat):Int)+(v_2.length:Int))) - i_1)).toNat) ((0,(⟨#[]⟩:ByteArray)):Int × ByteArray)).length)) ((Q6 (Q6 (List.take ((i_1 - 0).toNat) (List.map some s_0++List.replicate c none)++List.map some (List.replicate ((IntKind.wrap .i64 ((IntKind.wrap .i64 (((s_0.length:Nat):Int)+(v_2.length:Int))) - i_1)).toNat) ((0,(⟨#[]⟩:ByteArray)):Int × ByteArray))) (0+i_1.toNat) (List.take ((((((i_1 - 0).toNat)+((List.replicate ((IntKind.wrap .i64 ((IntKind.wrap .i64 (((s_0.length:Nat):Int)+(v_2.length:Int))) - i_1)).toNat) ((0,(⟨#[]⟩:ByteArray)):Int × ByteArray)).length):Nat):Int) - i_1).toNat) v_2)) (0+((IntKind.wrap .i64 (i_1+(v_2.length:Int))).toNat)) z4).length) then
            Option.bind (Qd (List.take (((i_1 - 0).toNat)+((List.replicate ((IntKind.wrap .i64 ((IntKind.wrap .i64 (((s_0.length:Nat):Int)+(v_2.length:Int))) - i_1)).toNat) ((0,(⟨#[]⟩:ByteArray)):Int × ByteArray)).length)) (Q6 (Q6 (List.take ((i_1 - 0).toNat) (List.map some s_0++List.replicate c none)++List.map some (List.replicate ((IntKind.wrap .i64 ((IntKind.wrap .i64 (((s_0.length:Nat):Int)+(v_2.length:Int))) - i_1)).toNat) ((0,(⟨#[]⟩:ByteArray)):Int × ByteArray))) (0+i_1.toNat) (List.take ((((((i_1 - 0).toNat)+((List.replicate ((IntKind.wrap .i64 ((IntKind.wrap .i64 (((s_0.length:Nat):Int)+(v_2.length:Int))) - i_1)).toNat) ((0,(⟨#[]⟩:ByteArray)):Int × ByteArray)).length):Nat):Int) - i_1).toNat) v_2)) (0+((IntKind.wrap .i64 (i_1+(v_2.length:Int))).toNat)) z4))) fun (z5:List Qla)=>
            some ((z5,()),())
            else none
            else none
           else none
          else none
         else none
        else none
       else none
      else none
     else none
    else none
   else
   bif decide (0≤IntKind.wrap .i64 (((s_0.length:Nat):Int)+(v_2.length:Int)))&&decide (IntKind.wrap .i64 (((s_0.length:Nat):Int)+(v_2.length:Int))≤((((List.map some s_0++List.replicate c none).length) - 0:Nat):Int)) then
    bif (decide (0≤IntKind.wrap .i64 (i_1+(v_2.length:Int)))&&decide (IntKind.wrap .i64 (i_1+(v_2.length:Int))≤((((IntKind.wrap .i64 (((s_0.length:Nat):Int)+(v_2.length:Int))) - 0).toNat:Nat):Int)))&&decide (((((IntKind.wrap .i64 (((s_0.length:Nat):Int)+(v_2.length:Int))) - 0).toNat:Nat):Int)≤((((List.map some s_0++List.replicate c none).length) - 0:Nat):Int)) then
     bif (decide (0≤IntKind.wrap .i64 (i_1+(v_2.length:Int)))&&decide (IntKind.wrap .i64 (i_1+(v_2.length:Int))≤((((IntKind.wrap .i64 (((s_0.length:Nat):Int)+(v_2.length:Int))) - 0).toNat:Nat):Int)))&&decide (((((IntKind.wrap .i64 (((s_0.length:Nat):Int)+(v_2.length:Int))) - 0).toNat:Nat):Int)≤((((List.map some s_0++List.replicate c none).length) - 0:Nat):Int)) then
      bif (decide (0≤i_1)&&decide (i_1≤((((IntKind.wrap .i64 (((s_0.length:Nat):Int)+(v_2.length:Int))) - 0).toNat:Nat):Int)))&&decide (((((IntKind.wrap .i64 (((s_0.length:Nat):Int)+(v_2.length:Int))) - 0).toNat:Nat):Int)≤((((List.map some s_0++List.replicate c none).length) - 0:Nat):Int)) then
       bif Nat.ble ((0+((IntKind.wrap .i64 (i_1+(v_2.length:Int))).toNat))+((((((IntKind.wrap .i64 (((s_0.length:Nat):Int)+(v_2.length:Int))) - 0).toNat:Nat):Int) - (IntKind.wrap .i64 (i_1+(v_2.length:Int)))).toNat)) ((List.map some s_0++List.replicate c none).length) then
        bif Nat.ble ((0+i_1.toNat)+((((((IntKind.wrap .i64 (((s_0.length:Nat):Int)+(v_2.length:Int))) - 0).toNat:Nat):Int) - i_1).toNat)) ((List.map some s_0++List.replicate c none).length) then
         Option.bind (Qd (List.take (min ((((((IntKind.wrap .i64 (((s_0.length:Nat):Int)+(v_2.length:Int))) - 0).toNat:Nat):Int) - (IntKind.wrap .i64 (i_1+(v_2.length:Int)))).toNat) ((((((IntKind.wrap .i64 (((s_0.length:Nat):Int)+(v_2.length:Int))) - 0).toNat:Nat):Int) - i_1).toNat)) (List.drop (0+i_1.toNat) (List.map some s_0++List.replicate c none)))) fun (z6:List Qla)=>
         bif (decide (0≤i_1)&&decide (i_1≤((((IntKind.wrap .i64 (((s_0.length:Nat):Int)+(v_2.length:Int))) - 0).toNat:Nat):Int)))&&decide (((((IntKind.wrap .i64 (((s_0.length:Nat):Int)+(v_2.length:Int))) - 0).toNat:Nat):Int)≤((((Q6 (List.map some s_0++List.replicate c none) (0+((IntKind.wrap .i64 (i_1+(v_2.length:Int))).toNat)) z6).length) - 0:Nat):Int)) then
          bif Nat.ble ((0+i_1.toNat)+((((((IntKind.wrap .i64 (((s_0.length:Nat):Int)+(v_2.length:Int))) - 0).toNat:Nat):Int) - i_1).toNat)) ((Q6 (List.map some s_0++List.replicate c none) (0+((IntKind.wrap .i64 (i_1+(v_2.length:Int))).toNat)) z6).length) then
           bif Nat.ble (((IntKind.wrap .i64 (((s_0.length:Nat):Int)+(v_2.length:Int))) - 0).toNat) ((Q6 (Q6 (List.map some s_0++List.replicate c none) (0+((IntKind.wrap .i64 (i_1+(v_2.length:Int))).toNat)) z6) (0+i_1.toNat) (List.take ((((((IntKind.wrap .i64 (((s_0.length:Nat):Int)+(v_2.length:Int))) - 0).toNat:Nat):Int) - i_1).toNat) v_2)).length) then
            Option.bind (Qd (List.take (((IntKind.wrap .i64 (((s_0.length:Nat):Int)+(v_2.length:Int))) - 0).toNat) (Q6 (Q6 (List.map some s_0++List.replicate c none) (0+((IntKind.wrap .i64 (i_1+(v_2.length:Int))).toNat)) z6) (0+i_1.toNat) (List.take ((((((IntKind.wrap .i64 (((s_0.length:Nat):Int)+(v_2.length:Int))) - 0).toNat:Nat):Int) - i_1).toNat) v_2)))) fun (z7:List Qla)=>
            some ((z7,()),())
           else none
          else none
         else none
        else none
       else none
      else none
     else none
    else none
   else none
  else none
 else none
theorem Z5s (c:Nat) (s_0:List Qla) (i_1:Int) (v_2:List Qla):Qde Qzq tab { Qyq with cap:=c } 1 [.ownc 59 t58,.val t2,.own 59 t58] [⟨t32,[true],none⟩] Tryz.f192 (s_0,i_1,v_2,())=Qzz c s_0 i_1 v_2:=by kernel_rfl
theorem Z6f (c:Nat) (s_0:List Qla) (i_1:Int) (v_2:List Qla):Qzz c s_0 i_1 v_2=Qei ((0,(⟨#[]⟩:ByteArray)):Int × ByteArray) c s_0 i_1 v_2:=by kernel_rfl
noncomputable def Z2x (s_0:List Qla) (i_1:Int) (v_2:List Qla):Option ((Qkz × Unit) × Unit):=Qeg s_0 i_1 v_2
noncomputable def Z9f:Ent:=⟨[.ownc 59 t58,.val t2,.own 59 t58],[⟨t32,[true],none⟩],fun x=>Z2x x.1 x.2.1 x.2.2.1⟩
theorem Z5r:Q4u tab.ty Tryz.prog 192 Z9f:=by
  refine Qgs (Γ:=Qzq) (fi:=Qyq) (n:=1) follows (Qjy (Qjx Tryz.func192 (by kernel_rfl) (by kernel_rfl)) Qk3) Zik Tryz.func192 (by kernel_rfl) (by kernel_rfl) (fun c x r hc h=>?_)
  obtain ⟨s_0,i_1,v_2,_u⟩:=x
  exact (Z5s c s_0 i_1 v_2).trans ((Z6f c s_0 i_1 v_2).trans (Qin ((0,(⟨#[]⟩:ByteArray)):Int × ByteArray) c s_0 i_1 v_2 r hc h))
noncomputable def Zqa (l_0:List Qla) (next_1:Int) (i_2:Int × ByteArray):Option ((Qkz × Bool × Unit) × Unit):=
 Option.bind (Qkh l_0) fun r1=>
 Option.bind (Qly l_0 i_2.1 (fun x=>(Zhs x.1 x.2.1).bind fun r=>some (r.1.1,()))) fun r2=>
 bif r2.1.2.1 then
  some ((r1.1.1,false,()),())
 else
 bif decide (i_2.1<next_1) then
  some ((r1.1.1,false,()),())
 else
 bif decide (IntKind.wrap .i64 (i_2.1 - next_1) ≥ 8) then
  some ((r1.1.1,false,()),())
 else
  Option.bind (Z2x r1.1.1 r2.1.1 [i_2]) fun r3=>
  some ((r3.1.1,true,()),())
noncomputable def Zqr:Ent:=⟨[.val t32,.val t2,.val t58],[⟨t32,[true],none⟩,⟨t4,[false],none⟩],fun x=>Zqa x.1 x.2.1 x.2.2.1⟩
theorem Zln:GD 160 Zqr:=fnk 1 (fo [[0,1,5,22,23,24,25,28,29,30,31,32],[0,1,5,8,22,23,24,25,28,29,30,31,32],[1,5,8,9,10,22,23,24,25,28,29,30,31,32],[5,8,9,33],[6,7],[6,7]]) (Qjy Qm4 (Qjy Qn7 (Qjy Zfu (Qjy Z5r Qk3)))) Tryz.func160
noncomputable def Zld (f_0:Int × Int × Qkz × Qkz × Qso × Int × Int):Option ((Z2k × Unit) × Unit):=
 Option.bind (Qkh f_0.2.2.1) fun r1=>
 Option.bind (Qkh (g3 f_0)) fun r2=>
 Option.bind (Qkx (g4 f_0)) fun r3=>
 some (((u4 (u3 (u2 f_0 r1.1.1) r2.1.1) r3.1.1),()),())
noncomputable def Zka:Ent:=⟨[.val t36],[⟨t36,[false,false,true,true,true,false,false],none⟩],fun x=>Zld x.1⟩
theorem Zcs:GD 163 Zka:=fnk 1 (fo [[1,2],[1,2],[2]]) (Qjy Qm4 (Qjy Qlw Qk3)) Tryz.func163
noncomputable def Zh3 (l_0:List Qla):Option ((Int × Unit) × Unit):=
 bif (l_0.length:Int)==0 then
  some ((0,()),())
 else
 bif decide (0<(l_0.length:Int)) then
  some (((List.getD l_0 0 (0,(⟨#[]⟩:ByteArray))).1,()),())
 else none
noncomputable def Zo9:Ent:=⟨[.val t32],[⟨t2,[false],none⟩],fun x=>Zh3 x.1⟩
theorem Zad:GD 162 Zo9:=fnk 1 (fo [[0],[0,5],[2],[2]]) Qk3 Tryz.func162
noncomputable def Zlf (l_0:List Qla) (next_1:Int):Option ((Qkz × Qla × Bool × Unit) × Unit):=
 Option.bind (Qkh l_0) fun r1=>
 Option.bind (Zh3 l_0) fun r2=>
 bif r2.1.1 != next_1 then
  some ((r1.1.1,(0,(⟨#[]⟩:ByteArray)),false,()),())
 else
 bif (l_0.length:Int)==0 then
  some ((r1.1.1,(0,(⟨#[]⟩:ByteArray)),false,()),())
 else
 bif decide (1≤(r1.1.1.length:Int))&&decide ((r1.1.1.length:Int)≤(r1.1.1.length:Int)) then
  bif decide (0<(l_0.length:Int)) then
   some ((List.drop 1 (List.take ((r1.1.1.length:Int).toNat) r1.1.1),(List.getD l_0 0 (0,(⟨#[]⟩:ByteArray))),true,()),())
  else none
 else none
noncomputable def Zjs:Ent:=⟨[.val t32,.val t2],[⟨t32,[false],none⟩,⟨t58,[false,false],none⟩,⟨t4,[false],none⟩],fun x=>Zlf x.1 x.2.1⟩
theorem Zkq:GD 195 Zjs:=fnk 1 (fo [[0,1,5,14,15,16],[0,1,4,5,14,15,16],[0,4,5,17],[4,5,6],[4,5,6]]) (Qjy Qm4 (Qjy Zad Qk3)) Tryz.func195
noncomputable def Qsl  : Option (((Int × Int) × Unit) × Unit):=
 some (((0,0),()),())
noncomputable def Z86:Ent:=⟨[],[⟨t34,[false,false],none⟩],fun x=>Qsl⟩
theorem Z8d:GD 167 Z86:=fnk 1 (fo [[0],[0]]) Qk3 Tryz.func167
abbrev Qrz:Type:=(Z2k × Qkz × Unit) × Unit
noncomputable def Zgo:Ctx:=[(121,Zjy),(122,Zk4),(167,Z86),(195,Zjs)]
def Z87:Fi:={ keep:=[],vty:=[(4,32)],vals:=[],live:=[(0,[1,2]),(1,[1,2,4]),(2,[1,2,4,5,6,7]),(3,[1,2,4,5,6,18]),(4,[1,2,4,6]),(5,[1,2,4,6]),(6,[1,2,4]),(7,[1,2,4,44]),(8,[1,2,4]),(9,[2,3])] }
abbrev Zew:Type:=Int→Int→Qkz→Qkz→Qso→Int→Int→Int→Int→Int→Int→Qkz→Qkz→Qso→Qkz→Option Qrz
abbrev Z8q:Type:=Int→Int→Qkz→Int→Int→Qkz→Qso→Int→Int→Int→Int→Qkz→Qkz→Qso→Qkz→Option Qrz
noncomputable def Zf8 (L2:Z8q) (v1 v2:Int) (v3 v4:List Qla) (v5:List Qrq) (v6 v7 v8 v9 v10 v11:Int) (v12 v13:List Qla) (v14:List Qrq) (v15:List Qla):Option Qrz:=
 Option.bind (Zlf v4 v1) fun r16=>
 bif !r16.1.2.2.1 then
  bif decide ((v15.length:Int)>0) then
   Option.bind (Qsl) fun r17=>
   some (((v1,v2,v3,v4,v5,r17.1.1),v15,()),())
  else
   some (((v1,v2,v3,v4,v5,v6,v7),v15,()),())
 else
  Option.bind (Zg8 v5 r16.1.2.1.1 r16.1.2.1.2) fun r18=>
  Option.bind (Zgd v3 r16.1.2.1) fun r19=>
  bif Nat.ble (v15.length+1) 1073741824 then
   L2 (IntKind.wrap .i64 (v1+1)) v2 r16.1.1 v6 v7 r19.1.1 r18.1.1 v8 v9 v10 v11 v12 v13 v14 (v15++[r16.1.2.1])
  else none
noncomputable def Zex (L2:Z8q) (v20 v21:Int) (v22:List Qla) (v23 v24:Int) (v25:List Qla) (v26:List Qrq) (v27 v28 v29 v30:Int) (v31 v32:List Qla) (v33:List Qrq) (v34:List Qla):Option Qrz:=
 Option.bind (Zlf v22 v20) fun r35=>
 bif !r35.1.2.2.1 then
  bif decide ((v34.length:Int)>0) then
   Option.bind (Qsl) fun r36=>
   some (((v20,v21,v25,v22,v26,r36.1.1),v34,()),())
  else
   some (((v20,v21,v25,v22,v26,v23,v24),v34,()),())
 else
  Option.bind (Zg8 v26 r35.1.2.1.1 r35.1.2.1.2) fun r37=>
  Option.bind (Zgd v25 r35.1.2.1) fun r38=>
  bif Nat.ble (v34.length+1) 1073741824 then
   L2 (IntKind.wrap .i64 (v20+1)) v21 r35.1.1 v23 v24 r38.1.1 r37.1.1 v27 v28 v29 v30 v31 v32 v33 (v34++[r35.1.2.1])
  else none
noncomputable def Zgt (L1:Zew) (f_0:Int × Int × Qkz × Qkz × Qso × Int × Int):Option Qrz:=
 L1 f_0.1 f_0.2.1 f_0.2.2.1 (g3 f_0) (g4 f_0) (g5 f_0) (h6 f_0) 0 0 0 0 [] [] [] []
noncomputable def Zfm (n:Nat):Nat→Z8q:=iter (fun _ _ _ _ _ _ _ _ _ _ _ _ _ _ _=>none) fun L=>Zex L
noncomputable def Zfj (n:Nat):Nat→Zew:=Qjg (fun _ _ _ _ _ _ _ _ _ _ _ _ _ _ _=>none) fun m L=>Zf8 (Zfm n m)
noncomputable def Z8r (n m:Nat) (v1 v2:Int) (v3 v4:List Qla) (v5:List Qrq) (v6 v7 v8 v9 v10 v11:Int) (v12 v13:List Qla) (v14:List Qrq) (v15:List Qla):Option Qrz:=
 Qjv Zgo tab (fiB [.val t36] Z87) n [.val t36] [⟨t36,(nF 7),none⟩,⟨t32,[true],none⟩] Tryz.f166 [1,1,0,0] [] [1,2,4] m
 ⟨[(1,V1 (.ptr (1,0) 0)),(2,V1 (.ptr (2,0) 0)),(4,V1 (.ref (888888,4)))],[((1,0),Ob.box 37 [LV.pure t2 v1,LV.pure t2 v2,LV.pure t32 v3,LV.pure t32 v4,LV.pure t33 v5,LV.pure t2 v6,LV.pure t2 v7]),((2,0),Ob.box 37 [LV.pure t2 v8,LV.pure t2 v9,LV.ref (2,3),LV.ref (2,4),LV.ref (2,5),LV.pure t2 v10,LV.pure t2 v11]),((2,3),Ob.row 59 t58 v12),((2,4),Ob.row 59 t58 v13),((2,5),Ob.row 55 t54 v14),((888888,4),Ob.row 59 t58 v15)]⟩
noncomputable def Z34 (n m:Nat) (v20 v21:Int) (v22:List Qla) (v23 v24:Int) (v25:List Qla) (v26:List Qrq) (v27 v28 v29 v30:Int) (v31 v32:List Qla) (v33:List Qrq) (v34:List Qla):Option Qrz:=
 Qjv Zgo tab (fiB [.val t36] Z87) n [.val t36] [⟨t36,(nF 7),none⟩,⟨t32,[true],none⟩] Tryz.f166 [1,1,0,0] [] [1,2,4] m
 ⟨[(1,V1 (.ptr (1,0) 0)),(2,V1 (.ptr (2,0) 0)),(4,V1 (.ref (888888,4)))],[((1,0),Ob.box 37 [LV.pure t2 v20,LV.pure t2 v21,LV.ref (1,3),LV.pure t32 v22,LV.ref (1,5),LV.pure t2 v23,LV.pure t2 v24]),((1,3),Ob.row 59 t58 v25),((1,5),Ob.row 55 t54 v26),((2,0),Ob.box 37 [LV.pure t2 v27,LV.pure t2 v28,LV.ref (2,3),LV.ref (2,4),LV.ref (2,5),LV.pure t2 v29,LV.pure t2 v30]),((2,3),Ob.row 59 t58 v31),((2,4),Ob.row 59 t58 v32),((2,5),Ob.row 55 t54 v33),((888888,4),Ob.row 59 t58 v34)]⟩
theorem Zci (n:Nat):∀ m,Z34 n m=Zfm n m
 | 0=>rfl
 | m+1=>by rw [show Z34 n (m+1)=Zex (Z34 n m) from by kernel_rfl,Zci n m];rfl
theorem Zkt (n:Nat):∀ m,Z8r n m=Zfj n m
 | 0=>rfl
 | m+1=>by rw [show Z8r n (m+1)=Zf8 (Z34 n m) from by kernel_rfl,Zci n m];rfl
noncomputable def Zif (n:Nat) (f_0:Int × Int × Qkz × Qkz × Qso × Int × Int):Option Qrz:=Zgt (Zfj n n) f_0
noncomputable def Z4f (f_0:Int × Int × Qkz × Qkz × Qso × Int × Int):Option Qrz:=Zif 1099511627776 f_0
noncomputable def Zh9:Ent:=⟨[.val t36],[⟨t36,(nF 7),none⟩,⟨t32,[true],none⟩],fun x=>Z4f x.1⟩
theorem Zah:GD 166 Zh9:=fnl Z87 (fun n x=>Zif n x.1) (Qjy Zbk (Qjy Zc4 (Qjy Z8d (Qjy Zkq Qk3)))) Tryz.func166 fun n x=>Eq.trans (b:=Zgt (Z8r n n) x.1) (by kernel_rfl) (by rw [Zkt n n];rfl)
noncomputable def Zgb (f_0:Int × Int × Qkz × Qkz × Qso × Int × Int):Option ((Z2k × Qkz × Unit) × Unit):=
 Option.bind (Zld f_0) fun r1=>
 Option.bind (Z4f r1.1.1) fun r2=>
 some ((r2.1.1,r2.1.2.1,()),())
noncomputable def Zpv:Ent:=⟨[.val t36],[⟨t36,(nF 7),none⟩,⟨t32,[true],none⟩],fun x=>Zgb x.1⟩
theorem Z5w:GD 119 Zpv:=fnk 1 (fo [[1,2],[2,3]]) (Qjy Zcs (Qjy Zah Qk3)) Tryz.func119
noncomputable def Zkd (f_0:Int × Int × Qkz × Qkz × Qso × Int × Int) (i_1:Int × ByteArray):Option ((Z2k × Unit) × Unit):=
 bif f_0.1==0 then
  Option.bind (Qpl f_0) fun r1=>
  some ((r1.1.1,()),())
 else
 bif decide (i_1.1<1) then
  Option.bind (Qpl f_0) fun r2=>
  some ((r2.1.1,()),())
 else
 bif decide (i_1.1>1000000) then
  Option.bind (Qpl f_0) fun r3=>
  some ((r3.1.1,()),())
 else
 bif decide ((i_1.2.size:Int)>12) then
  Option.bind (Qpl f_0) fun r4=>
  some ((r4.1.1,()),())
 else
  Option.bind (Qxv f_0 i_1.1) fun r5=>
  Option.bind (Zqa (g3 r5.1.1) r5.1.1.1 i_1) fun r6=>
  Option.bind (Zgb (u3 r5.1.1 r6.1.1)) fun r7=>
  some ((r7.1.1,()),())
noncomputable def Zn5:Ent:=⟨[.val t36,.val t58],[⟨t36,(nF 7),none⟩],fun x=>Zkd x.1 x.2.1⟩
theorem Zin:GD 102 Zn5:=fnk 1 (fo [[2,3,4,9,10,11,14,15,16,19,20,21,22],[2,3,4,23],[4],[2,3,4],[2,4],[2,4],[4]]) (Qjy Qwu (Qjy Qsn (Qjy Z5w (Qjy Zln Qk3)))) Tryz.func102
abbrev Qlm:Type:=(Int × Unit) × Unit
noncomputable def Z6d:Ctx:=[]
def Qvp:Fi:=fo [[0,1],[0,1,7,8],[0,1,7,8,9],[0,1,5,7,8],[0,1,5,7,8,16],[4],[0,1,7,8],[4]]
abbrev Qrh:Type:=Qkz→(Qla × Unit→Option (Bool × Unit))→Int→Int→Option Qlm
noncomputable def Qvr (L1:Qrh) (v1:List Qla) (v2:(Qla × Unit→Option (Bool × Unit))) (v3 v4:Int):Option Qlm:=
 bif decide (v4<v3) then
  bif decide (0≤v4)&&decide (v4<(v1.length:Int)) then
   Option.bind (v2 ((List.getD v1 v4.toNat (0,(⟨#[]⟩:ByteArray))),())) fun r5=>
   bif r5.1 then
    some ((v4,()),())
   else
    L1 v1 v2 v3 (IntKind.wrap .i64 (v4+1))
  else none
 else
  some (((-1),()),())
noncomputable def Qwt (L1:Qrh) (s_0:List Qla) (f_1:(Qla × Unit→Option (Bool × Unit))):Option Qlm:=
 L1 s_0 f_1 (s_0.length:Int) 0
noncomputable def Qvx (n:Nat):Nat→Qrh:=iter (fun _ _ _ _=>none) fun L=>Qvr L
noncomputable def Qo6 (n m:Nat) (v1:List Qla) (v2:(Qla × Unit→Option (Bool × Unit))) (v3 v4:Int):Option Qlm:=
 Qjv Z6d tab (fiB [.val t32,.fn [t58] [t4]] Qvp) n [.val t32,.fn [t58] [t4]] [⟨t2,[false],none⟩] Tryz.f193 [1,0,1,0] [] [0,1,7,8] m
 ⟨[(0,Vp t32 v1),(1,V1 (.clo [t58] [t4] v2)),(7,Vp t2 v3),(8,Vp t2 v4)],[]⟩
theorem Quj (n:Nat):∀ m,Qo6 n m=Qvx n m
 | 0=>rfl
 | m+1=>by rw [show Qo6 n (m+1)=Qvr (Qo6 n m) from by kernel_rfl,Quj n m];rfl
noncomputable def Qwd (n:Nat) (s_0:List Qla) (f_1:(Qla × Unit→Option (Bool × Unit))):Option Qlm:=Qwt (Qvx n n) s_0 f_1
noncomputable def Qys (s_0:List Qla) (f_1:(Qla × Unit→Option (Bool × Unit))):Option Qlm:=Qwd 1099511627776 s_0 f_1
noncomputable def Z69:Ent:=⟨[.val t32,.fn [t58] [t4]],[⟨t2,[false],none⟩],fun x=>Qys x.1 x.2.1⟩
theorem Z23:GD 193 Z69:=fnl Qvp (fun n x=>Qwd n x.1 x.2.1) Qk3 Tryz.func193 fun n x=>Eq.trans (b:=Qwt (Qo6 n n) x.1 x.2.1) (by kernel_rfl) (by rw [Quj n n];rfl)
noncomputable def Zbo (i_0:Int × ByteArray) (x_1:Int × Int × Qkz × Qkz × Qso × Int × Int):Option ((Bool × Unit) × Unit):=
 some ((decide (i_0.1 ≥ x_1.1),()),())
noncomputable def Zgw:Ent:=⟨[.val t58,.rbox t36],[⟨t4,[false],none⟩],fun x=>Zbo x.1 x.2.1⟩
theorem Zbs:GD 194 Zgw:=fnk 1 (fo [[1,2],[3]]) Qk3 Tryz.func194
noncomputable def Zh8 (f_0:Int × Int × Qkz × Qkz × Qso × Int × Int) (hi_1:Int):Option ((Int × Bool × Unit) × Unit):=
 Option.bind (Qys (g3 f_0) (fun x=>(Zbo x.1 f_0).bind fun r=>some (r.1.1,()))) fun r1=>
 bif decide (r1.1.1<0) then
  some ((hi_1,false,()),())
 else
 bif decide (0≤r1.1.1)&&decide (r1.1.1<((g3 f_0).length:Int)) then
  bif decide ((List.getD (g3 f_0) r1.1.1.toNat (0,(⟨#[]⟩:ByteArray))).1>hi_1) then
   some ((hi_1,false,()),())
  else
  bif decide (0≤r1.1.1)&&decide (r1.1.1<((g3 f_0).length:Int)) then
   some ((IntKind.wrap .i64 (((List.getD (g3 f_0) r1.1.1.toNat (0,(⟨#[]⟩:ByteArray))).1) - 1),true,()),())
  else none
 else none
noncomputable def Zhh:Ent:=⟨[.val t36,.val t2],[⟨t2,[false],none⟩,⟨t4,[false],none⟩],fun x=>Zh8 x.1 x.2.1⟩
theorem Ziy:GD 164 Zhh:=fnk 1 (fo [[1,2,14,15,16,17,18,19,20,21],[1,2,6,14,15,16,17,18,19,20,21],[1,2,6,22],[4,5],[4,5]]) (Qjy Z23 (Qjy Zbs Qk3)) Tryz.func164
noncomputable def Zkr (l_0:List Qrq) (lo_1 hi_2 why_3:Int):Option ((Qso × Unit) × Unit):=
 Option.bind (Qkx l_0) fun r1=>
 bif Nat.ble (r1.1.1.length+1) 1073741824 then
  some ((r1.1.1++[(2,lo_1,hi_2,(⟨#[]⟩:ByteArray),why_3)],()),())
 else none
noncomputable def Zjj:Ent:=⟨[.val t33,.val t2,.val t2,.val t2],[⟨t33,[true],none⟩],fun x=>Zkr x.1 x.2.1 x.2.2.1 x.2.2.2.1⟩
theorem Zko:GD 165 Zjj:=fnk 1 (fo [[0,1,2,3],[8]]) (Qjy Qlw Qk3) Tryz.func165
abbrev Qqz:Type:=(Z2k × Zjc × Unit) × Unit
noncomputable def Zih:Ctx:=[(163,Zka),(164,Zhh),(165,Zjj),(166,Zh9),(167,Z86)]
def Z7l:Fi:={ keep:=[],vty:=[(8,146)],vals:=[],live:=[(0,[1,2,3,6,20,21]),(1,[1,2,3,6,20,21]),(2,[1,2,3,6,22]),(3,[6,7]),(4,[1,2,3,6,8]),(5,[1,2,3,6,8,9]),(6,[1,2,3,6,8,9,29]),(7,[1,2,3,6,8,9,10,11]),(8,[1,2,3,6,8,9,10,11,39]),(9,[1,2,3,6,8,9,10,11]),(10,[1,2,3,6,8,9,10,11]),(11,[1,2,3,6,8,9,11]),(12,[1,2,3,6,8,9,59]),(13,[1,2,3,6,8,9,12,13]),(14,[1,2,3,6,8,9,13]),(15,[1,2,3,6,8,9,68]),(16,[3,6,8,72]),(17,[3,6,8]),(18,[6,7])] }
abbrev Zfq:Type:=Int→Int→Int→Int→Int→Int→Int→Qkz→Qkz→Qso→Int→Int→Int→Int→Qkz→Qkz→Qso→Zjc→Option Qqz
abbrev Z7j:Type:=Int→Int→Int→Int→Int→Qkz→Qkz→Qso→Int→Int→Int→Int→Int→Int→Qkz→Qkz→Qso→Zjc→Option Qqz
noncomputable def Z28 (v5 v4 v6:Int) (v9 v10:List Qla) (v11:List Qrq) (v19:List (Int × Int)) (v7 v8:Int):Option Qqz:=
 bif v5 != v4 then
  Option.bind (Qsl) fun r52=>
  some (((v5,v6,v9,v10,v11,r52.1.1),v19,()),())
 else
  some (((v5,v6,v9,v10,v11,v7,v8),v19,()),())
noncomputable def Zfg (L2:Z7j) (v2 v3 v4 v5 v6 v7 v8:Int) (v9 v10:List Qla) (v11:List Qrq) (v12 v13 v14 v15:Int) (v16 v17:List Qla) (v18:List Qrq) (v19:List (Int × Int)):Option Qqz:=
 bif decide (v5≤v2) then
  Option.bind (Zh8 (v5,v6,v9,v10,v11,v7,v8) v2) fun r20=>
  bif decide (r20.1.1 ≥ v5) then
   Option.bind (Zkr v11 v5 r20.1.1 v3) fun r21=>
   bif Nat.ble (v19.length+1) 1073741824 then
    bif !r20.1.2.1 then
     bif (IntKind.wrap .i64 (r20.1.1+1)) != v4 then
      Option.bind (Qsl) fun r22=>
      some (((IntKind.wrap .i64 (r20.1.1+1),v6,v9,v10,r21.1.1,r22.1.1),v19++[(v5,r20.1.1)],()),())
     else
      some (((IntKind.wrap .i64 (r20.1.1+1),v6,v9,v10,r21.1.1,v7,v8),v19++[(v5,r20.1.1)],()),())
    else
     Option.bind (Z4f (IntKind.wrap .i64 (r20.1.1+1),v6,v9,v10,r21.1.1,v7,v8)) fun r23=>
     bif (r23.1.2.1.length:Int)==0 then
      bif r23.1.1.1 != v4 then
       Option.bind (Qsl) fun r24=>
       some (((e5 r23.1.1 r24.1.1),v19++[(v5,r20.1.1)],()),())
      else
       some ((r23.1.1,v19++[(v5,r20.1.1)],()),())
     else
      L2 v2 v3 v4 r23.1.1.1 r23.1.1.2.1 r23.1.1.2.2.1 (g3 r23.1.1) (g4 r23.1.1) (g5 r23.1.1) (h6 r23.1.1) v12 v13 v14 v15 v16 v17 v18 (v19++[(v5,r20.1.1)])
   else none
  else
  bif !r20.1.2.1 then
   Z28 v5 v4 v6 v9 v10 v11 v19 v7 v8
  else
   Option.bind (Z4f (v5,v6,v9,v10,v11,v7,v8)) fun r53=>
   bif (r53.1.2.1.length:Int)==0 then
    bif r53.1.1.1 != v4 then
     Option.bind (Qsl) fun r54=>
     some (((e5 r53.1.1 r54.1.1),v19,()),())
    else
     some ((r53.1.1,v19,()),())
   else
    L2 v2 v3 v4 r53.1.1.1 r53.1.1.2.1 r53.1.1.2.2.1 (g3 r53.1.1) (g4 r53.1.1) (g5 r53.1.1) (h6 r53.1.1) v12 v13 v14 v15 v16 v17 v18 v19
 else
  Z28 v5 v4 v6 v9 v10 v11 v19 v7 v8
noncomputable def Zfs (L2:Z7j) (v25 v26 v27 v28 v29:Int) (v30 v31:List Qla) (v32:List Qrq) (v33 v34 v35 v36 v37 v38:Int) (v39 v40:List Qla) (v41:List Qrq) (v42:List (Int × Int)):Option Qqz:=
 bif decide (v28≤v25) then
  Option.bind (Zh8 (v28,v29,v30,v31,v32,v33,v34) v25) fun r43=>
  bif decide (r43.1.1 ≥ v28) then
   Option.bind (Zkr v32 v28 r43.1.1 v26) fun r44=>
   bif Nat.ble (v42.length+1) 1073741824 then
    bif !r43.1.2.1 then
     bif (IntKind.wrap .i64 (r43.1.1+1)) != v27 then
      Option.bind (Qsl) fun r45=>
      some (((IntKind.wrap .i64 (r43.1.1+1),v29,v30,v31,r44.1.1,r45.1.1),v42++[(v28,r43.1.1)],()),())
     else
      some (((IntKind.wrap .i64 (r43.1.1+1),v29,v30,v31,r44.1.1,v33,v34),v42++[(v28,r43.1.1)],()),())
    else
     Option.bind (Z4f (IntKind.wrap .i64 (r43.1.1+1),v29,v30,v31,r44.1.1,v33,v34)) fun r46=>
     bif (r46.1.2.1.length:Int)==0 then
      bif r46.1.1.1 != v27 then
       Option.bind (Qsl) fun r47=>
       some (((e5 r46.1.1 r47.1.1),v42++[(v28,r43.1.1)],()),())
      else
       some ((r46.1.1,v42++[(v28,r43.1.1)],()),())
     else
      L2 v25 v26 v27 r46.1.1.1 r46.1.1.2.1 r46.1.1.2.2.1 (g3 r46.1.1) (g4 r46.1.1) (g5 r46.1.1) (h6 r46.1.1) v35 v36 v37 v38 v39 v40 v41 (v42++[(v28,r43.1.1)])
   else none
  else
  bif !r43.1.2.1 then
   Z28 v28 v27 v29 v30 v31 v32 v42 v33 v34
  else
   Option.bind (Z4f (v28,v29,v30,v31,v32,v33,v34)) fun r49=>
   bif (r49.1.2.1.length:Int)==0 then
    bif r49.1.1.1 != v27 then
     Option.bind (Qsl) fun r50=>
     some (((e5 r49.1.1 r50.1.1),v42,()),())
    else
     some ((r49.1.1,v42,()),())
   else
    L2 v25 v26 v27 r49.1.1.1 r49.1.1.2.1 r49.1.1.2.2.1 (g3 r49.1.1) (g4 r49.1.1) (g5 r49.1.1) (h6 r49.1.1) v35 v36 v37 v38 v39 v40 v41 v42
 else
  Z28 v28 v27 v29 v30 v31 v32 v42 v33 v34
noncomputable def Zh1 (L1:Zfq) (f_0:Int × Int × Qkz × Qkz × Qso × Int × Int) (hi_1 why_2:Int):Option Qqz:=
 Option.bind (Zld f_0) fun r1=>
 bif decide (r1.1.1.1<1) then
  some ((r1.1.1,[],()),())
 else
 bif decide (hi_1>1000000) then
  some ((r1.1.1,[],()),())
 else
  L1 hi_1 why_2 r1.1.1.1 r1.1.1.1 r1.1.1.2.1 (g5 r1.1.1) (h6 r1.1.1) r1.1.1.2.2.1 (g3 r1.1.1) (g4 r1.1.1) 0 0 0 0 [] [] [] []
noncomputable def Zen (n:Nat):Nat→Z7j:=iter (fun _ _ _ _ _ _ _ _ _ _ _ _ _ _ _ _ _ _=>none) fun L=>Zfs L
noncomputable def Zfk (n:Nat):Nat→Zfq:=Qjg (fun _ _ _ _ _ _ _ _ _ _ _ _ _ _ _ _ _ _=>none) fun m L=>Zfg (Zen n m)
noncomputable def Z8s (n m:Nat) (v2 v3 v4 v5 v6 v7 v8:Int) (v9 v10:List Qla) (v11:List Qrq) (v12 v13 v14 v15:Int) (v16 v17:List Qla) (v18:List Qrq) (v19:List (Int × Int)):Option Qqz:=
 Qjv Zih tab (fiB [.val t36,.val t2,.val t2] Z7l) n [.val t36,.val t2,.val t2] [⟨t36,(nF 7),none⟩,⟨Zrl,[true],none⟩] Tryz.f118 [1,1,1,1,1,0,0] [] [1,2,3,6,8,9] m
 ⟨[(1,Vp t2 v2),(2,Vp t2 v3),(3,V1 (.ptr (3,0) 0)),(6,V1 (.ptr (6,0) 0)),(8,V1 (.ref (888888,8))),(9,Vp t2 v4)],[((3,0),Ob.box 37 [LV.pure t2 v5,LV.pure t2 v6,LV.ref (3,3),LV.ref (3,4),LV.ref (3,5),LV.pure t2 v7,LV.pure t2 v8]),((3,3),Ob.row 59 t58 v9),((3,4),Ob.row 59 t58 v10),((3,5),Ob.row 55 t54 v11),((6,0),Ob.box 37 [LV.pure t2 v12,LV.pure t2 v13,LV.ref (6,3),LV.ref (6,4),LV.ref (6,5),LV.pure t2 v14,LV.pure t2 v15]),((6,3),Ob.row 59 t58 v16),((6,4),Ob.row 59 t58 v17),((6,5),Ob.row 55 t54 v18),((888888,8),Ob.row 100 t34 v19)]⟩
noncomputable def Z32 (n m:Nat) (v25 v26 v27 v28 v29:Int) (v30 v31:List Qla) (v32:List Qrq) (v33 v34 v35 v36 v37 v38:Int) (v39 v40:List Qla) (v41:List Qrq) (v42:List (Int × Int)):Option Qqz:=
 Qjv Zih tab (fiB [.val t36,.val t2,.val t2] Z7l) n [.val t36,.val t2,.val t2] [⟨t36,(nF 7),none⟩,⟨Zrl,[true],none⟩] Tryz.f118 [1,1,1,1,1,0,0] [] [1,2,3,6,8,9] m
 ⟨[(1,Vp t2 v25),(2,Vp t2 v26),(3,V1 (.ptr (3,0) 0)),(6,V1 (.ptr (6,0) 0)),(8,V1 (.ref (888888,8))),(9,Vp t2 v27)],[((3,0),Ob.box 37 [LV.pure t2 v28,LV.pure t2 v29,LV.pure t32 v30,LV.pure t32 v31,LV.pure t33 v32,LV.pure t2 v33,LV.pure t2 v34]),((6,0),Ob.box 37 [LV.pure t2 v35,LV.pure t2 v36,LV.ref (6,3),LV.ref (6,4),LV.ref (6,5),LV.pure t2 v37,LV.pure t2 v38]),((6,3),Ob.row 59 t58 v39),((6,4),Ob.row 59 t58 v40),((6,5),Ob.row 55 t54 v41),((888888,8),Ob.row 100 t34 v42)]⟩
theorem Zcz (n:Nat):∀ m,Z32 n m=Zen n m
 | 0=>rfl
 | m+1=>by rw [show Z32 n (m+1)=Zfs (Z32 n m) from by kernel_rfl,Zcz n m];rfl
theorem Zl6 (n:Nat):∀ m,Z8s n m=Zfk n m
 | 0=>rfl
 | m+1=>by rw [show Z8s n (m+1)=Zfg (Z32 n m) from by kernel_rfl,Zcz n m];rfl
noncomputable def Zhj (n:Nat) (f_0:Int × Int × Qkz × Qkz × Qso × Int × Int) (hi_1 why_2:Int):Option Qqz:=Zh1 (Zfk n n) f_0 hi_1 why_2
noncomputable def Zic (f_0:Int × Int × Qkz × Qkz × Qso × Int × Int) (hi_1 why_2:Int):Option Qqz:=Zhj 1099511627776 f_0 hi_1 why_2
noncomputable def Zo8:Ent:=⟨[.val t36,.val t2,.val t2],[⟨t36,(nF 7),none⟩,⟨Zrl,[true],none⟩],fun x=>Zic x.1 x.2.1 x.2.2.1⟩
theorem Zac:GD 118 Zo8:=fnl Z7l (fun n x=>Zhj n x.1 x.2.1 x.2.2.1) (Qjy Zcs (Qjy Ziy (Qjy Zko (Qjy Zah (Qjy Z8d Qk3))))) Tryz.func118 fun n x=>Eq.trans (b:=Zh1 (Z8s n n) x.1 x.2.1 x.2.2.1) (by kernel_rfl) (by rw [Zl6 n n];rfl)
noncomputable def Zjp (f_0:Int × Int × Qkz × Qkz × Qso × Int × Int) (lo_1 hi_2:Int):Option ((Z2k × Unit) × Unit):=
 bif f_0.1==0 then
  Option.bind (Qpl f_0) fun r1=>
  some ((r1.1.1,()),())
 else
 bif decide (lo_1<1) then
  Option.bind (Qpl f_0) fun r2=>
  some ((r2.1.1,()),())
 else
 bif decide (lo_1>hi_2) then
  Option.bind (Qpl f_0) fun r3=>
  some ((r3.1.1,()),())
 else
 bif decide (hi_2>1000000) then
  Option.bind (Qpl f_0) fun r4=>
  some ((r4.1.1,()),())
 else
 bif decide (f_0.1<lo_1) then
  Option.bind (Qxv f_0 hi_2) fun r5=>
  some ((r5.1.1,()),())
 else
 bif decide (f_0.1>hi_2) then
  Option.bind (Qxv f_0 hi_2) fun r6=>
  some ((r6.1.1,()),())
 else
  Option.bind (Zic f_0 hi_2 1) fun r7=>
  Option.bind (Zgb (u1 r7.1.1 (if hi_2>r7.1.1.2.1 then hi_2 else r7.1.1.2.1))) fun r8=>
  some ((r8.1.1,()),())
noncomputable def Zlr:Ent:=⟨[.val t36,.val t2,.val t2],[⟨t36,(nF 7),none⟩],fun x=>Zjp x.1 x.2.1 x.2.2.1⟩
theorem Zi2:GD 103 Zlr:=fnk 1 (fo [[1,2,3,6,11,12,15,16,17,20,21,30,31,32,33],[1,2,3,6,22,30,31,32,33],[6],[2,3,6,34],[6],[2,3,6],[3,6],[3,6],[6]]) (Qjy Qwu (Qjy Qsn (Qjy Zac (Qjy Z5w Qk3)))) Tryz.func103
noncomputable def Zcv (m_1:Int × Int × Int × Int × Int × Int × (List Int) × Int × Int × ByteArray) (n_0:Bool × Int × ByteArray × Qt7 × Z2k × Int):Option ((Z2k × Unit) × Unit):=
 bif m_1.1==7 then
  Option.bind (Zkd (g4 n_0) ((g7 m_1),(h9 m_1))) fun r4=>
  some ((r4.1.1,()),())
 else
 bif m_1.1==9 then
  Option.bind (Zjp (g4 n_0) (g7 m_1) (g8 m_1)) fun r5=>
  some ((r5.1.1,()),())
 else
  some (((g4 n_0),()),())
noncomputable def Zck (m_1:Int × Int × Int × Int × Int × Int × (List Int) × Int × Int × ByteArray) (was_2:Int) (n_0:Bool × Int × ByteArray × Qt7 × Z2k × Int):Option ((Z2k × Unit) × Unit):=
 bif m_1.1==5 then
  bif was_2==m_1.2.1 then
   Option.bind (Qxv (g4 n_0) (g8 m_1)) fun r3=>
   some ((r3.1.1,()),())
  else
   Zcv m_1 n_0
 else
  Zcv m_1 n_0
noncomputable def Zdk (n_0:Bool × Int × ByteArray × Qt7 × Z2k × Int) (m_1:Int × Int × Int × Int × Int × Int × (List Int) × Int × Int × ByteArray) (was_2:Int):Option ((Z2k × Unit) × Unit):=
 bif m_1.2.1==(g3 (g3 n_0)) then
  bif !((g3 m_1)==(g4 (g3 n_0))) then
   some (((g4 n_0),()),())
  else
  bif m_1.1==2 then
   bif was_2 != m_1.2.1 then
    Option.bind (Zjm (g4 n_0) (g7 m_1)) fun r1=>
    Option.bind (Qxv r1.1.1 (IntKind.wrap .i64 ((g7 m_1) - 1))) fun r2=>
    some ((r2.1.1,()),())
   else
    Zck m_1 was_2 n_0
  else
   Zck m_1 was_2 n_0
 else
  some (((g4 n_0),()),())
noncomputable def Zlt:Ent:=⟨[.val t38,.val t45,.val t2],[⟨t36,(nF 7),none⟩],fun x=>Zdk x.1 x.2.1 x.2.2.1⟩
theorem Zhv:GD 48 Zlt:=fnk 1 (fo [[2,3,4,6,15,16,17,18,19,20,32,33,34,35,51,52,53,54],[2,3,4,6,7,32,33,34,35,51,52,53,54],[2,3,4,6,22,32,33,34,35,51,52,53,54],[6],[2,3,4,6,27,51,52,53,54],[6],[3,4,6,46],[6],[3,4,6,61],[6],[3,4,6,73],[6],[6]]) (Qjy Qwu (Qjy Zhb (Qjy Zin (Qjy Zi2 Qk3)))) Tryz.func48
noncomputable def Qtv (n_0:Bool × Int × ByteArray × Qt7 × Z2k × Int) (b_1:List Int):Option ((Zrn × Z9c × Unit) × Unit):=
 Option.bind (Qqp n_0) fun r1=>
 bif !n_0.1 then
  some ((r1.1.1,[],()),())
 else
  Option.bind (Zcm b_1) fun r2=>
  bif !r2.1.2.1 then
   some (((e5 r1.1.1 (if 1073741824<IntKind.wrap .i64 ((h5 r1.1.1)+1) then 1073741824 else IntKind.wrap .i64 ((h5 r1.1.1)+1))),[],()),())
  else
  bif r2.1.1.2.2.1 != (g3 n_0).1 then
   some (((e5 r1.1.1 (if 1073741824<IntKind.wrap .i64 ((h5 r1.1.1)+1) then 1073741824 else IntKind.wrap .i64 ((h5 r1.1.1)+1))),[],()),())
  else
   Option.bind (Zm4 (g3 n_0) r2.1.1 (if 1>(g4 n_0).1 then 1 else (g4 n_0).1)) fun r3=>
   bif r2.1.1.1==8 then
    Option.bind (Zgp (u3 r1.1.1 r3.1.1) r2.1.1) fun r4=>
    bif Nat.ble (r3.1.2.1.length+r4.1.1.length) 1073741824 then
     Option.bind (Zdk (u3 r1.1.1 r3.1.1) r2.1.1 (g3 (g3 n_0))) fun r5=>
     Option.bind (Qqp (u4 (u3 r1.1.1 r3.1.1) r5.1.1)) fun r6=>
     Option.bind (Z5g (u4 (u3 r1.1.1 r3.1.1) r5.1.1) (g4 n_0)) fun r7=>
     bif Nat.ble ((r3.1.2.1++r4.1.1).length+r7.1.1.length) 1073741824 then
      some ((r6.1.1,(r3.1.2.1++r4.1.1)++r7.1.1,()),())
     else none
    else none
   else
    Option.bind (Zdk (u3 r1.1.1 r3.1.1) r2.1.1 (g3 (g3 n_0))) fun r8=>
    Option.bind (Qqp (u4 (u3 r1.1.1 r3.1.1) r8.1.1)) fun r9=>
    Option.bind (Z5g (u4 (u3 r1.1.1 r3.1.1) r8.1.1) (g4 n_0)) fun r10=>
    bif Nat.ble (r3.1.2.1.length+r10.1.1.length) 1073741824 then
     some ((r9.1.1,r3.1.2.1++r10.1.1,()),())
    else none
noncomputable def Zeq:Ent:=⟨[.val t38,.val t25],[⟨t38,(nF 24),none⟩,⟨t48,[true],none⟩],fun x=>Qtv x.1 x.2.1⟩
theorem Z8p:GD 18 Zeq:=fnk 1 (fo [[1,2,4,25,26,27,28,29,30],[1,2,4,6,25,26,27,28,29,30],[1,2,4,6,15,25,26,27,28,29,30],[4,5],[2,4,6,7,8,25,26,27,28,29,30],[2,4,6,7,31],[4,6],[4,5],[2,4,6,7,9,10],[2,4,6,7,10],[2,4,6,7,10,53],[2,4,6,7,10],[2,4,6,10],[4,5]]) (Qjy Quq (Qjy Zl4 (Qjy Ziu (Qjy Zfv (Qjy Zhv (Qjy Z47 Qk3)))))) Tryz.func18
noncomputable def Zjx (n_0:Bool × Int × ByteArray × Qt7 × Z2k × Int):Option ((Zrn × Unit) × Unit):=
 bif !n_0.1 then
  Option.bind (Qqp n_0) fun r1=>
  some ((r1.1.1,()),())
 else
  some (((u4 (u3 (u2 (u0 n_0 false) (⟨#[]⟩:ByteArray)) Ztb) (0,0,[],[],[],0,0)),()),())
noncomputable def Zlw:Ent:=⟨[.val t38],[⟨t38,(nF 24),none⟩],fun x=>Zjx x.1⟩
theorem Zhf:GD 33 Zlw:=fnk 1 (fo [[1,2],[1,2,5],[2],[2]]) (Qjy Quq Qk3) Tryz.func33
noncomputable def Qxy  : Option ((Bool × Unit) × Unit):=
 Option.bind (Zi7 Zu7 1 (⟨#[97]⟩:ByteArray) 0) fun r1=>
 Option.bind (Zi7 r1.1.1 1 (⟨#[97]⟩:ByteArray) 0) fun r2=>
 Option.bind (Zox r1.1.1 (⟨#[120]⟩:ByteArray)) fun r3=>
 Option.bind (Qtv r1.1.1 [121]) fun r4=>
 Option.bind (Zjx r1.1.1) fun r5=>
 bif r1.1.2.1 then
  bif r1.1.1.1 then
   bif r1.1.1.2.1==1 then
    bif !r2.1.2.1 then
     bif r3.1.2.2.1 then
      bif (r3.1.2.1.length:Int)==0 then
       bif ((g4 (g4 r3.1.1)).length:Int)==1 then
        bif (h5 r4.1.1)==1 then
         bif (r4.1.2.1.length:Int)==0 then
          bif !r5.1.1.1 then
           some ((r5.1.1.2.1==1,()),())
          else
           some ((false,()),())
         else
          some ((false,()),())
        else
         some ((false,()),())
       else
        some ((false,()),())
      else
       some ((false,()),())
     else
      some ((false,()),())
    else
     some ((false,()),())
   else
    some ((false,()),())
  else
   some ((false,()),())
 else
  some ((false,()),())
noncomputable def Z0q:Ent:=⟨[],[⟨t4,[false],none⟩],fun x=>Qxy⟩
theorem Z7b:GD 10 Z0q:=fnk 1 (fo [[38,39,42,43,44,47,48,51,54,55,56,59,60,61,62,63,66,67,68,71,72,73,76,77,78,81,82,83],[1,2,38,39,42,43,44,47,48,51,54,55,56,59,60,61,62,63,66,67,68,71,72,73,76,77,78,81,82,83],[1,2,4,38,39,42,43,44,47,48,51,54,55,56,59,60,61,62,63,66,67,68,71,72,73,76,77,78,81,82,83],[1,2,4,5,6,7,38,39,42,43,44,47,48,51,54,55,56,59,60,61,62,63,66,67,68,71,72,73,76,77,78,81,82,83],[1,2,4,5,6,7,8,9,38,39,42,43,44,47,48,51,54,55,56,59,60,61,62,63,66,67,68,71,72,73,76,77,78,81,82,83],[1,2,4,5,6,7,8,9,10,38,39,42,43,44,47,48,51,54,55,56,59,60,61,62,63,66,67,68,71,72,73,76,77,78,81,82,83],[0]]) (Qjy Zit (Qjy Z8p (Qjy Zkv (Qjy Zhf Qk3)))) Tryz.func10
noncomputable def Qrk (l_0:List Int):Option ((Zfr × Unit) × Unit):=
 some (((l_0,0),()),())
noncomputable def Z4l:Ent:=⟨[.val t25],[⟨t74,[false,false],some 75⟩],fun x=>Qrk x.1⟩
theorem Qzr:GD 11 Z4l:=fnk 1 (fo [[0],[2]]) Qk3 Tryz.func11
noncomputable def Qk5 (p_0:(List Int) × Int) (m_1:Int):Option ((Int × Unit) × (Zfr × Unit)):=
 bif decide (p_0.2 ≥ (p_0.1.length:Int)) then
  some ((0,()),(p_0,()))
 else
 bif decide (m_1<1) then
  some ((0,()),(p_0,()))
 else
 bif decide (0≤IntKind.wrap .i64 ((IntKind.wrap .i64 (p_0.2+1)) - 1))&&decide (IntKind.wrap .i64 ((IntKind.wrap .i64 (p_0.2+1)) - 1)<(p_0.1.length:Int)) then
  bif !(m_1==0) then
   some ((Int.tmod (IntKind.wrap .i64 (List.getD p_0.1 ((IntKind.wrap .i64 ((IntKind.wrap .i64 (p_0.2+1)) - 1)).toNat) 0)) m_1,()),((p_0.1,IntKind.wrap .i64 (p_0.2+1)),()))
  else none
 else none
noncomputable def Qq6:Ent:=⟨[.box 75 t74 [false,false],.val t2],[⟨t2,[false],none⟩],fun x=>Qk5 x.1 x.2.1⟩
theorem Ql4:GD 26 Qq6:=fnk 1 (fo [[0,1,16,17],[0,1,18],[0,4],[0,1],[0,4]]) Qk3 Tryz.func26
abbrev Qlj:Type:=(Int × Int × Unit) × Unit
noncomputable def Zay:Ctx:=[]
def Qzj:Fi:=fo [[0,19,20,28,29,37,38,56,57,58,59,73,74,77,78,79,80,81,82],[0,4,19,20,28,29,37,38,56,57,58,59,73,74,77,78,79,80,81,82],[0,4,19,20,28,29,37,38,56,57,58,59,73,74,77,78,79,80,81,82],[2,3],[0,4,11,19,20,28,29,37,38,56,57,58,59,73,74,77,78,79,80,81,82],[2,3],[0,4,15,28,29,37,38,56,57,58,59,73,74,77,78,79,80,81,82],[0,4,5,6,56,57,58,59,73,74,77,78,79,80,81,82],[0,4,24,37,38,56,57,58,59,73,74,77,78,79,80,81,82],[0,4,5,6,56,57,58,59,73,74,77,78,79,80,81,82],[0,4,33,56,57,58,59,73,74,77,78,79,80,81,82],[0,4,5,6,56,57,58,59,73,74,77,78,79,80,81,82],[0,4,5,6,45,56,57,58,59,73,74,77,78,79,80,81,82],[2,3],[0,4,5,6,7,56,57,58,59,73,74,77,78,79,80,81,82],[0,4,5,6,7,48,56,57,58,59,73,74,77,78,79,80,81,82],[0,4,5,6,7,56,57,58,59,73,74,77,78,79,80,81,82],[0,4,5,6,7,56,57,58,59,60,73,74,77,78,79,80,81,82],[2,3],[0,4,5,6,7,56,57,58,59,73,74,77,78,79,80,81,82],[4,5,83],[2,3],[2,3]]
abbrev Qou:Type:=ByteArray→Int→Int→Int→Int→Option Qlj
noncomputable def Z04 (s_0:ByteArray) (L1:Qou):Option Qlj:=
 bif decide (IntKind.wrap .i64 ((s_0.data.getD 0 0).toNat:Int) ≥ 240) then
  bif decide (IntKind.wrap .i64 ((s_0.data.getD 0 0).toNat:Int)≤244) then
   bif decide ((s_0.size:Int)<4) then
    some (((-1),1,()),())
   else
    L1 s_0 (IntKind.wrap .i64 ((IntKind.wrap .i64 ((s_0.data.getD 0 0).toNat:Int)) - 240)) 4 65536 1
  else
   some (((-1),1,()),())
 else
  some (((-1),1,()),())
noncomputable def Qzc (s_0:ByteArray) (L1:Qou):Option Qlj:=
 bif decide (IntKind.wrap .i64 ((s_0.data.getD 0 0).toNat:Int) ≥ 224) then
  bif decide (IntKind.wrap .i64 ((s_0.data.getD 0 0).toNat:Int)≤239) then
   bif decide ((s_0.size:Int)<3) then
    some (((-1),1,()),())
   else
    L1 s_0 (IntKind.wrap .i64 ((IntKind.wrap .i64 ((s_0.data.getD 0 0).toNat:Int)) - 224)) 3 2048 1
  else
   Z04 s_0 L1
 else
  Z04 s_0 L1
noncomputable def Z05 (L1:Qou) (v1:ByteArray) (v2 v3 v4 v5:Int):Option Qlj:=
 bif decide (v5<v3) then
  bif decide (0≤v5)&&decide (v5<(v1.size:Int)) then
   bif decide (((v1.data.getD v5.toNat 0).toNat:Int)<128) then
    some (((-1),1,()),())
   else
   bif decide (0≤v5)&&decide (v5<(v1.size:Int)) then
    bif decide (((v1.data.getD v5.toNat 0).toNat:Int)>191) then
     some (((-1),1,()),())
    else
    bif decide (0≤v5)&&decide (v5<(v1.size:Int)) then
     L1 v1 (IntKind.wrap .i64 ((IntKind.wrap .i64 ((IntKind.wrap .i64 (v2*64))+(IntKind.wrap .i64 ((v1.data.getD v5.toNat 0).toNat:Int)))) - 128)) v3 v4 (IntKind.wrap .i64 (v5+1))
    else none
   else none
  else none
 else
 bif decide (v2<v4) then
  some (((-1),1,()),())
 else
 bif decide (v2>1114111) then
  some (((-1),1,()),())
 else
 bif decide (v2 ≥ 55296) then
  bif decide (v2≤57343) then
   some (((-1),1,()),())
  else
   some ((v2,v3,()),())
 else
  some ((v2,v3,()),())
noncomputable def Z1o (L1:Qou) (s_0:ByteArray):Option Qlj:=
 bif decide (0<(s_0.size:Int)) then
  bif decide (IntKind.wrap .i64 ((s_0.data.getD 0 0).toNat:Int)<128) then
   some ((IntKind.wrap .i64 ((s_0.data.getD 0 0).toNat:Int),1,()),())
  else
  bif decide (IntKind.wrap .i64 ((s_0.data.getD 0 0).toNat:Int) ≥ 194) then
   bif decide (IntKind.wrap .i64 ((s_0.data.getD 0 0).toNat:Int)≤223) then
    bif decide ((s_0.size:Int)<2) then
     some (((-1),1,()),())
    else
     L1 s_0 (IntKind.wrap .i64 ((IntKind.wrap .i64 ((s_0.data.getD 0 0).toNat:Int)) - 192)) 2 128 1
   else
    Qzc s_0 L1
  else
   Qzc s_0 L1
 else none
noncomputable def Qz8 (n:Nat):Nat→Qou:=iter (fun _ _ _ _ _=>none) fun L=>Z05 L
noncomputable def Qr9 (n m:Nat) (v1:ByteArray) (v2 v3 v4 v5:Int):Option Qlj:=
 Qjv Zay tab (fiB [.val t9] Qzj) n [.val t9] [⟨t2,[false],none⟩,⟨t2,[false],none⟩] Tryz.f145 [1,1,1,1,1,0,1,0] [] [0,4,5,6,7] m
 ⟨[(0,Vp t9 v1),(4,Vp t2 v2),(5,Vp t2 v3),(6,Vp t2 v4),(7,Vp t2 v5)],[]⟩
theorem Qye (n:Nat):∀ m,Qr9 n m=Qz8 n m
 | 0=>rfl
 | m+1=>by rw [show Qr9 n (m+1)=Z05 (Qr9 n m) from by kernel_rfl,Qye n m];rfl
noncomputable def Z1t (n:Nat) (s_0:ByteArray):Option Qlj:=Z1o (Qz8 n n) s_0
noncomputable def Z4a (s_0:ByteArray):Option Qlj:=Z1t 1099511627776 s_0
noncomputable def Z1i:Ent:=⟨[.val t9],[⟨t2,[false],none⟩,⟨t2,[false],none⟩],fun x=>Z4a x.1⟩
theorem Z75:GD 145 Z1i:=fnl Qzj (fun n x=>Z1t n x.1) Qk3 Tryz.func145 fun n x=>Eq.trans (b:=Z1o (Qr9 n n) x.1) (by kernel_rfl) (by rw [Qye n n];rfl)
abbrev Qn1:Type:=((List Int) × Unit) × Unit
noncomputable def Z9k:Ctx:=[(145,Z1i)]
def Qyl:Fi:={ keep:=[],vty:=[(3,28)],vals:=[],live:=[(0,[0]),(1,[0,3]),(2,[0,3,8]),(3,[0,3,4,5]),(4,[0,3]),(5,[2])] }
abbrev Qtj:Type:=ByteArray→List Int→Option Qn1
noncomputable def Qy9 (L1:Qtj) (v1:ByteArray) (v2:List Int):Option Qn1:=
 bif decide ((v1.size:Int)>0) then
  Option.bind (Z4a v1) fun r3=>
  bif Nat.ble (v2.length+1) 1073741824 then
   bif (decide (0≤r3.1.2.1)&&decide (r3.1.2.1≤(v1.size:Int)))&&decide ((v1.size:Int)≤(v1.size:Int)) then
    L1 (v1.extract r3.1.2.1.toNat ((v1.size:Int).toNat)) (v2++[r3.1.1])
   else none
  else none
 else
  some ((v2,()),())
noncomputable def Qzw (L1:Qtj) (s_0:ByteArray):Option Qn1:=
 L1 s_0 []
noncomputable def Qyn (n:Nat):Nat→Qtj:=iter (fun _ _=>none) fun L=>Qy9 L
noncomputable def Qqq (n m:Nat) (v1:ByteArray) (v2:List Int):Option Qn1:=
 Qjv Z9k tab (fiB [.val t9] Qyl) n [.val t9] [⟨t28,[true],none⟩] Tryz.f80 [1,1,0,0] [] [0,3] m
 ⟨[(0,Vp t9 v1),(3,V1 (.ref (888888,3)))],[((888888,3),Ob.row 3 t2 v2)]⟩
theorem Qxc (n:Nat):∀ m,Qqq n m=Qyn n m
 | 0=>rfl
 | m+1=>by rw [show Qqq n (m+1)=Qy9 (Qqq n m) from by kernel_rfl,Qxc n m];rfl
noncomputable def Qzn (n:Nat) (s_0:ByteArray):Option Qn1:=Qzw (Qyn n n) s_0
noncomputable def Z39 (s_0:ByteArray):Option Qn1:=Qzn 1099511627776 s_0
noncomputable def Qzv:Ent:=⟨[.val t9],[⟨t28,[true],none⟩],fun x=>Z39 x.1⟩
theorem Z5u:GD 80 Qzv:=fnl Qyl (fun n x=>Qzn n x.1) (Qjy Z75 Qk3) Tryz.func80 fun n x=>Eq.trans (b:=Qzw (Qqq n n) x.1) (by kernel_rfl) (by rw [Qxc n n];rfl)
abbrev Qph:Type:=(Bool × Unit) × Unit
noncomputable def Ze0:Ctx:=[(80,Qzv)]
def Z2u:Fi:=fo [[0,19,20,21,22,23,24,25,26,27,28,29,30,36,37,38],[3,19,20,21,22,23,24,25,26,27,28,29,30,36,37,38],[3,4,19,20,21,22,23,24,25,26,27,28,29,30,36,37,38],[3,4,10,19,20,21,22,23,24,25,26,27,28,29,30,36,37,38],[3,4,19,20,21,22,23,24,25,26,27,28,29,30,36,37,38],[3,4,19,20,21,22,23,24,25,26,27,28,29,30,31,36,37,38],[2],[2]]
abbrev Qw9:Type:=Int→List Int→Option Qph
noncomputable def Z2t (L1:Qw9) (v2:Int) (v3:List Int):Option Qph:=
 bif decide (v2<(v3.length:Int)) then
  bif decide (0≤v2)&&decide (v2<(v3.length:Int)) then
   bif decide (0≤v2)&&decide (v2<(v3.length:Int)) then
    bif decide (List.getD v3 v2.toNat 0<33) then
     some ((false,()),())
    else
    bif decide (0≤v2)&&decide (v2<(v3.length:Int)) then
     bif decide (0≤v2)&&decide (v2<(v3.length:Int)) then
      bif decide (List.getD v3 v2.toNat 0 ≥ 127) then
       bif decide (0≤v2)&&decide (v2<(v3.length:Int)) then
        bif decide (0≤v2)&&decide (v2<(v3.length:Int)) then
         bif decide (List.getD v3 v2.toNat 0≤159) then
          some ((false,()),())
         else
          L1 (IntKind.wrap .i64 (v2+1)) v3
        else none
       else none
      else
       L1 (IntKind.wrap .i64 (v2+1)) v3
     else none
    else none
   else none
  else none
 else
 bif decide ((v3.length:Int) ≥ 1) then
  some ((decide ((v3.length:Int)≤8),()),())
 else
  some ((false,()),())
noncomputable def Z58 (L1:Qw9) (s_0:ByteArray):Option Qph:=
 Option.bind (Z39 s_0) fun r1=>
 L1 0 r1.1.1
noncomputable def Z29 (n:Nat):Nat→Qw9:=iter (fun _ _=>none) fun L=>Z2t L
noncomputable def Qsv (n m:Nat) (v2:Int) (v3:List Int):Option Qph:=
 Qjv Ze0 tab (fiB [.val t9] Z2u) n [.val t9] [⟨t4,[false],none⟩] Tryz.f37 [1,1,0,1,0] [] [3,4] m
 ⟨[(3,V1 (.ref (888888,3))),(4,Vp t2 v2)],[((888888,3),Ob.row 3 t2 v3)]⟩
theorem Z12 (n:Nat):∀ m,Qsv n m=Z29 n m
 | 0=>rfl
 | m+1=>by rw [show Qsv n (m+1)=Z2t (Qsv n m) from by kernel_rfl,Z12 n m];rfl
noncomputable def Z4x (n:Nat) (s_0:ByteArray):Option Qph:=Z58 (Z29 n n) s_0
noncomputable def Z0v (s_0:ByteArray):Option Qph:=Z4x 1099511627776 s_0
noncomputable def Zdv:Ent:=⟨[.val t9],[⟨t4,[false],none⟩],fun x=>Z0v x.1⟩
theorem Z9r:GD 37 Zdv:=fnl Z2u (fun n x=>Z4x n x.1) (Qjy Z5u Qk3) Tryz.func37 fun n x=>Eq.trans (b:=Z58 (Qsv n n) x.1) (by kernel_rfl) (by rw [Z12 n n];rfl)
noncomputable def Qtf (id_0 inc_1 now_2 grand_3:Int):Option ((Qt7 × Unit) × Unit):=
 bif id_0==1 then
  some (((id_0,inc_1,now_2,0,0,grand_3,[1],0,now_2,0,0,0,[]),()),())
 else
  some (((id_0,inc_1,now_2,0,0,grand_3,[],0,0,0,0,0,[]),()),())
noncomputable def Z4m:Ent:=⟨[.val t2,.val t2,.val t2,.val t2],[⟨t30,(nF 6++[true,false,false,false,false,false,true]),none⟩],fun x=>Qtf x.1 x.2.1 x.2.2.1 x.2.2.2.1⟩
theorem Z02:GD 38 Z4m:=fnk 1 (fo [[0,1,2,3,8],[0,2,8,9],[2,8,9,16],[8,9],[8]]) Qk3 Tryz.func38
noncomputable def Quv (n_0:Bool × Int × ByteArray × Qt7 × Z2k × Int) (id_1:Int) (name_2:ByteArray) (grand_3:Int):Option ((Zrn × Bool × Unit) × Unit):=
 bif n_0.1 then
  some ((n_0,false,()),())
 else
  Option.bind (Z0v name_2) fun r1=>
  bif !r1.1.1 then
   some ((n_0,false,()),())
  else
  bif decide (id_1<1) then
   some ((n_0,false,()),())
  else
  bif decide (id_1>8) then
   some ((n_0,false,()),())
  else
  bif decide (n_0.2.1 ≥ 1073741824) then
   some ((n_0,false,()),())
  else
   Option.bind (Qtf id_1 (IntKind.wrap .i64 (n_0.2.1+1)) 0 grand_3) fun r2=>
   some (((true,IntKind.wrap .i64 (n_0.2.1+1),name_2,r2.1.1,(0,0,[],[],[],0,0),0),true,()),())
noncomputable def Zcg:Ent:=⟨[.val t38,.val t2,.val t9,.val t2],[⟨t38,(nF 24),none⟩,⟨t4,[false],none⟩],fun x=>Quv x.1 x.2.1 x.2.2.1 x.2.2.2.1⟩
theorem Z7t:GD 14 Zcg:=fnk 1 (fo [[1,2,3,4,8,13,14,15,18,19,22,23,26,27,28],[1,2,3,4,8,29],[8,9],[8,9]]) (Qjy Z9r (Qjy Z02 Qk3)) Tryz.func14
noncomputable def Qnv (p_0:(List Int) × Int):Option ((Bool × Unit) × (Zfr × Unit)):=
 some ((decide (p_0.2 ≥ (p_0.1.length:Int)),()),(p_0,()))
noncomputable def Qsg:Ent:=⟨[.box 75 t74 [false,false]],[⟨t4,[false],none⟩],fun x=>Qnv x.1⟩
theorem Qu2:GD 25 Qsg:=fnk 1 (fo [[0],[0,2]]) Qk3 Tryz.func25
abbrev Qok:Type:=(Z22 × Unit) × Unit
noncomputable def Zbl:Ctx:=[]
def Z1z:Fi:={ keep:=[],vty:=[(5,29)],vals:=[],live:=[(0,[0,1]),(1,[0,1,5]),(2,[0,1,5,6]),(3,[0,1,5,6,10]),(4,[0,1,5,6]),(5,[0,1,5,6,20]),(6,[0,1,5,6]),(7,[4])] }
abbrev Qv0:Type:=Z22→Int→Int→Z22→Option Qok
noncomputable def Qno (L1:Qv0) (v1:List Qky) (v2 v3:Int) (v4:List Qky):Option Qok:=
 bif decide (v3<(v1.length:Int)) then
  bif decide (0≤v3)&&decide (v3<(v1.length:Int)) then
   bif decide (IntKind.wrap .i64 (v2 - (((List.getD v1 v3.toNat (0,0,0)).2).2))≤20) then
    bif decide (0≤v3)&&decide (v3<(v1.length:Int)) then
     bif Nat.ble (v4.length+1) 1073741824 then
      L1 v1 v2 (IntKind.wrap .i64 (v3+1)) (v4++[(List.getD v1 v3.toNat (0,0,0))])
     else none
    else none
   else
    L1 v1 v2 (IntKind.wrap .i64 (v3+1)) v4
  else none
 else
  some ((v4,()),())
noncomputable def Z37 (L1:Qv0) (l_0:List Qky) (now_1:Int):Option Qok:=
 L1 l_0 now_1 0 []
noncomputable def Qpm (n:Nat):Nat→Qv0:=iter (fun _ _ _ _=>none) fun L=>Qno L
noncomputable def Qs3 (n m:Nat) (v1:List Qky) (v2 v3:Int) (v4:List Qky):Option Qok:=
 Qjv Zbl tab (fiB [.val t29,.val t2] Z1z) n [.val t29,.val t2] [⟨t29,[true],none⟩] Tryz.f123 [1,1,0,1,0] [] [0,1,5,6] m
 ⟨[(0,Vp t29 v1),(1,Vp t2 v2),(5,V1 (.ref (888888,5))),(6,Vp t2 v3)],[((888888,5),Ob.row 53 t52 v4)]⟩
theorem Qzp (n:Nat):∀ m,Qs3 n m=Qpm n m
 | 0=>rfl
 | m+1=>by rw [show Qs3 n (m+1)=Qno (Qs3 n m) from by kernel_rfl,Qzp n m];rfl
noncomputable def Z2z (n:Nat) (l_0:List Qky) (now_1:Int):Option Qok:=Z37 (Qpm n n) l_0 now_1
noncomputable def Qz0 (l_0:List Qky) (now_1:Int):Option Qok:=Z2z 1099511627776 l_0 now_1
noncomputable def Z2p:Ent:=⟨[.val t29,.val t2],[⟨t29,[true],none⟩],fun x=>Qz0 x.1 x.2.1⟩
theorem Z8b:GD 123 Z2p:=fnl Z1z (fun n x=>Z2z n x.1 x.2.1) Qk3 Tryz.func123 fun n x=>Eq.trans (b:=Z37 (Qs3 n n) x.1 x.2.1) (by kernel_rfl) (by rw [Qzp n n];rfl)
end Go.PE
