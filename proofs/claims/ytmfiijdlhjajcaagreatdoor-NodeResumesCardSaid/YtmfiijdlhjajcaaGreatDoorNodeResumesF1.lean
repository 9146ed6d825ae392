/-
  Functions of the program, each as the evaluator answers it, and its contract.
  Conditions: none.
-/
import Derived.Test.YtmfiijdlhjajcaaGreatDoorNodeResumesT
import Derived.WalkKit
import Derived.BigCall
import Derived.Lib.OthersKept
set_option linter.unusedVariables false
set_option maxRecDepth 100000
namespace Go.PE
open Go.Proofs
noncomputable def Qua (r_0:Int):Option ((Int × Unit) × Unit):=
 bif decide (r_0<0) then
  some (((-1),()),())
 else
 bif decide (r_0≤127) then
  some ((1,()),())
 else
 bif decide (r_0≤2047) then
  some ((2,()),())
 else
 bif decide (55296≤r_0) then
  bif decide (r_0≤57343) then
   some (((-1),()),())
  else
  bif decide (r_0≤65535) then
   some ((3,()),())
  else
  bif decide (r_0≤1114111) then
   some ((4,()),())
  else
   some (((-1),()),())
 else
 bif decide (r_0≤65535) then
  some ((3,()),())
 else
 bif decide (r_0≤1114111) then
  some ((4,()),())
 else
  some (((-1),()),())
noncomputable def Qwx:Ent:=⟨[.val t21],[⟨t2,[false],none⟩],fun x=>Qua x.1⟩
theorem Z3i:GD 174 Qwx:=fnk 1 (fo [[0,16,17],[0,3,16,17],[2],[0,6,16,17],[2],[0,9,16,17],[2],[0,12],[2],[0,19],[2],[22],[2],[2]]) Qk3 Tryz.func174
noncomputable def Qnh (s_0:ByteArray):Option ((Int × Int × Unit) × Unit):=
 bif !(Qeq s_0 (⟨#[]⟩:ByteArray)) then
  bif decide (0<(s_0.size:Int)) then
   bif decide (((s_0.data.getD 0 0).toNat:Int)<128) then
    bif decide (0<(s_0.size:Int)) then
     some ((IntKind.wrap .i32 ((s_0.data.getD 0 0).toNat:Int),1,()),())
    else none
   else none
  else none
 else none
noncomputable def Qqg:Ent:=⟨[.val t9],[⟨t21,[false],none⟩,⟨t2,[false],none⟩],fun x=>Qnh x.1⟩
theorem Qun:GD 175 Qqg:=fnk 1 (fo [[0,7,8,9],[0,10],[2,3],[2,3]]) Qk3 Tryz.func175
noncomputable def Qyt (letter_0 x_1 x_2:Int) (x_3:List Int):Option ((Bool × Unit) × ((List Int) × Unit)):=
 bif Nat.ble (x_3.length+1) 1073741824 then
  some ((true,()),(x_3++[letter_0],()))
 else none
noncomputable def Z2x:Ent:=⟨[.val t2,.val t2,.val t2,.box 28 t28 [true]],[⟨t4,[false],none⟩],fun x=>Qyt x.1 x.2.1 x.2.2.1 x.2.2.2.1⟩
theorem Z77:GD 144 Z2x:=fnk 1 (fo [[3,0],[3],[3,7]]) Qk3 Tryz.func144
section
open Go.RowKit
def Zha (s:ByteArray):Bool:=s.data.toList.all fun b=>Nat.blt b.toNat 128
def Qs5 (s:ByteArray):List Int:=s.data.toList.map fun b=>(b.toNat:Int)
theorem Zkd {s:ByteArray} (h:Zha s=true) {i:Nat} (hi:i<s.size):(s[i]'hi).toNat<128:=by
  have:=List.all_eq_true.1 h (s.data.toList[i]'(by simpa using hi)) (List.getElem_mem _)
  exact Nat.le_of_ble_eq_true this
theorem Zid {s:ByteArray} {i:Nat} (hi:i<s.size):(Qs5 s).take (i+1)=(Qs5 s).take i++[((s[i]'hi).toNat:Int)]:=by
  have hl:i<(Qs5 s).length:=by simpa [Qs5] using hi
  rw [List.take_succ_eq_append_getElem hl]
  simp [Qs5]
  rfl
theorem Zea (s:ByteArray):(Qs5 s).length=s.size:=by simp [Qs5]
abbrev Zrh:Ty:=.sl 3 (.int .i64)
def Zep (w:World) (B:Nat) (xs:List Int) (Bl:List Nat):Prop:=
  Q1v tab.ty (fun _=>False) w Zrh [true] xs (.pointer (some ⟨B,0,none⟩)) Bl
theorem Zdi {S:Nat→Prop} {w w':World}:∀ {xs:List Int} {cs:List Value},Q1 tab.ty S w (.int .i64) xs cs→Q1 tab.ty (fun _=>False) w' (.int .i64) xs cs
  | [],cs,h=>h
  | x::r,cs,h=>by
    obtain ⟨c,cr,hc,h1,h2⟩:=h
    exact ⟨c,cr,hc,h1,Zdi h2⟩
theorem Zep.mv {S:Nat→Prop} {w w':World} {B:Nat} {xs:List Int} {Bl:List Nat} (h:Q1v tab.ty S w Zrh [true] xs (.pointer (some ⟨B,0,none⟩)) Bl) (hk:∀ j∈Bl,w'.heap[j]?=w.heap[j]?):Zep w' B xs Bl:=by
  obtain ⟨b,T,cs,B',hv,hh,hB,hown⟩:=h
  obtain ⟨c,cr,B1,B2,e1,e2,h1,h2⟩:=hown
  obtain ⟨h0,⟨cells,hr,hc⟩,hb⟩:=h1
  subst hB;subst e2;subst hb
  refine ⟨b,T,cs,_,hv,(hk b (by simp)).trans hh,rfl,c,cr,_,B2,e1,rfl,⟨h0,⟨cells,⟨hr.1,?_⟩,Zdi hc⟩,rfl⟩,h2⟩
  rcases hr.2 with hn | ⟨g,cap,cur,rfl,hg,hh',rest⟩
  · exact .inl hn
  · exact .inr ⟨g,cap,cur,rfl,hg,(hk g (by simp [blk])).trans hh',rest⟩
theorem Zn7 (c:Nat) (hc:c<128) (W:World):Calls Tryz.prog 174 #[.int .i32 (c:Int)] W fun e W'=>e=.returned (.int .i64 1)∧Fr (fun _=>False) W W':=by
  have hG:Qwx.G ((c:Int),())=some (((1:Int),()),()):=by
    show Qua (c:Int)=_
    unfold Qua
    rw [show decide ((c:Int)<0)=false from decide_eq_false (by omega),show decide ((c:Int)≤127)=true from decide_eq_true (by omega)]
    rfl
  refine (Z3i.2 W (fun _=>False) ((c:Int),()) [.int .i32 (c:Int)] [] (((1:Int),()),()) (fun _ h=>h.elim) ⟨_,_,[],[],rfl,rfl,⟨.inr ⟨rfl,rfl⟩,rfl⟩,rfl,rfl⟩ List.nodup_nil (by simp) hG).mono ?_
  rintro e W' ⟨vs,S',B1,B2,rfl,hr,_,_,_,_,_,hf⟩
  obtain ⟨v,vr,b1,b2,rfl,_,h1,rfl,_⟩:=hr
  obtain ⟨cs,_,hcs,hcs2⟩:=h1
  have:=hcs rfl;subst this
  obtain ⟨c1,cr,_,_,e1,_,h3,_⟩:=hcs2
  have h3:Rep tab.ty S' W' (.int .i64) (1:Int) [c1]∧_=[]:=h3
  obtain ⟨rfl,_⟩:=List.cons.inj e1
  have h4:[v]=[Value.int .i64 1]:=h3.1
  obtain ⟨rfl,_⟩:=List.cons.inj h4
  exact ⟨rfl,hf.mono (fun k hk=>by cases hk)⟩
theorem Zp6 (s:ByteArray) (c:Nat) (h0:s.size≠0) (hs:(s.data.getD 0 0).toNat=c) (hc:c<128) (W:World):Calls Tryz.prog 175 #[.string s] W fun e W'=>e=.returned (.tuple #[.int .i32 (c:Int),.int .i64 1])∧Fr (fun _=>False) W W':=by
  have hG:Qqg.G (s,())=some (((c:Int),(1:Int),()),()):=by
    show Qnh s=_
    unfold Qnh
    have e1:Qeq s (⟨#[]⟩:ByteArray)=false:=by
      rw [← Bool.not_eq_true]
      intro h
      have:s.data.toList=[]:=by simpa [Qeq] using h
      exact h0 (by have:=congrArg List.length this;rw [Array.length_toList] at this;exact this)
    rw [e1,show decide (0<(s.size:Int))=true from decide_eq_true (by omega),hs,show decide ((c:Int)<128)=true from decide_eq_true (by omega)]
    have:IntKind.wrap .i32 (c:Int)=(c:Int):=by
      have h1:(c:Int) % 4294967296=c:=by omega
      rw [IntKind.wrap_i32];omega
    rw [this]
    rfl
  refine (Qun.2 W (fun _=>False) (s,()) [.string s] [] (((c:Int),(1:Int),()),()) (fun _ h=>h.elim) ⟨_,_,[],[],rfl,rfl,⟨.inr ⟨rfl,rfl⟩,rfl⟩,rfl,rfl⟩ List.nodup_nil (by simp) hG).mono ?_
  rintro e W' ⟨vs,S',B1,B2,rfl,hr,_,_,_,_,_,hf⟩
  obtain ⟨v,vr,b1,b2,rfl,_,h1,v2,vr2,_,_,rfl,_,h2,rfl,_⟩:=hr
  obtain ⟨cs,_,hcs,hcs2⟩:=h1
  have:=hcs rfl;subst this
  obtain ⟨c1,cr,_,_,e1,_,h3,_⟩:=hcs2
  have h3:Rep tab.ty S' W' (.int .i32) (c:Int) [c1]∧_=[]:=h3
  obtain ⟨rfl,_⟩:=List.cons.inj e1
  have h4:[v]=[Value.int .i32 (c:Int)]:=h3.1
  obtain ⟨rfl,_⟩:=List.cons.inj h4
  obtain ⟨cs,_,hcs,hcs2⟩:=h2
  have:=hcs rfl;subst this
  obtain ⟨c1,cr,_,_,e1,_,h3,_⟩:=hcs2
  have h3:Rep tab.ty S' W' (.int .i64) (1:Int) [c1]∧_=[]:=h3
  obtain ⟨rfl,_⟩:=List.cons.inj e1
  have h4:[v2]=[Value.int .i64 1]:=h3.1
  obtain ⟨rfl,_⟩:=List.cons.inj h4
  exact ⟨rfl,hf.mono (fun k hk=>by cases hk)⟩
theorem Zrg (x a b:Int) (B:Nat) (xs:List Int) (Bl:List Nat) (W:World) (hB:Zep W B xs Bl) (hn:Bl.Nodup) (hlt:∀ j∈Bl,j<W.heap.size) (hx:xs.length+1≤1073741824) :
    Calls Tryz.prog 144 #[.int .i64 x,.int .i64 a,.int .i64 b,.pointer (some ⟨B,0,none⟩)] W fun e W'=>e=.returned (.bool true)∧∃ Bl',Zep W' B (xs++[x]) Bl'∧Bl'.Nodup∧(∀ j∈Bl',j<W'.heap.size∧(W.heap.size≤j∨j∈Bl))∧Fr (fun j=>j∈Bl) W W':=by
  have hG:Z2x.G (x,a,b,xs,())=some ((true,()),(xs++[x],())):=by
    show Qyt x a b xs=_
    unfold Qyt
    rw [show Nat.ble (xs.length+1) 1073741824=true from Q2.2 hx]
    rfl
  refine (Z77.2 W (fun _=>False) (x,a,b,xs,()) [.int .i64 x,.int .i64 a,.int .i64 b,.pointer (some ⟨B,0,none⟩)] Bl ((true,()),(xs++[x],())) (fun _ h=>h.elim)
    ⟨_,_,[],Bl,rfl,rfl,⟨.inr ⟨rfl,rfl⟩,rfl⟩,_,_,[],Bl,rfl,rfl,⟨.inr ⟨rfl,rfl⟩,rfl⟩,_,_,[],Bl,rfl,rfl,⟨.inr ⟨rfl,rfl⟩,rfl⟩,_,_,Bl,[],rfl,(List.append_nil _).symm,hB,rfl,rfl⟩ hn (fun k hk=>⟨fun h=>h,hlt k hk⟩) hG).mono ?_
  rintro e W' ⟨vs,S',B1,B2,rfl,hr,ho,hnd,hbl,_,_,hf⟩
  obtain ⟨v,vr,b1,b2,rfl,_,h1,rfl,_⟩:=hr
  obtain ⟨cs,_,hcs,hcs2⟩:=h1
  have:=hcs rfl;subst this
  obtain ⟨c1,cr,_,_,e1,_,h3,_⟩:=hcs2
  have h3:Rep tab.ty S' W' .bool true [c1]∧_=[]:=h3
  obtain ⟨rfl,_⟩:=List.cons.inj e1
  have h4:[v]=[Value.bool true]:=h3.1
  obtain ⟨rfl,_⟩:=List.cons.inj h4
  obtain ⟨v3,vr3,c1,c2,e3,rfl,hv3,hc2⟩:=ho
  have hc2:c2=[]:=hc2
  subst hc2
  obtain ⟨rfl,_⟩:=List.cons.inj (show [Value.pointer (some ⟨B,0,none⟩)]=v3::vr3 from e3)
  refine ⟨rfl,c1,Zep.mv hv3 (fun _ _=>rfl),?_,fun j hj=>?_,hf⟩
  · have:=(List.nodup_append.1 hnd).2.1
    simpa using this
  · have:=hbl j (List.mem_append.2 (.inr (List.mem_append.2 (.inl hj))))
    exact this.2
set_option maxHeartbeats 4000000 in
set_option maxRecDepth 1000000 in
theorem Zqx (s:ByteArray) (ha:Zha s=true) (hs:s.size≤1073741824) (w:World) (B:Nat) (Bl:List Nat) (hB:Zep w B [] Bl) (hn:Bl.Nodup) (hlt:∀ j∈Bl,j<w.heap.size) :
    Calls Tryz.prog 143 #[.string s,.func (.func 144) #[] #[.pointer (some ⟨B,0,none⟩)]] w fun e w'=>e=.returned (.tuple #[])∧∃ Bl',Zep w' B (Qs5 s) Bl'∧Bl'.Nodup∧(∀ j∈Bl',j<w'.heap.size∧(w.heap.size≤j∨j∈Bl))∧Fr (fun j=>j∈Bl) w w':=by
  go_enter Tryz.func143,Tryz.ntmps143
  go_wp2
  go_loopw [] (fun wr=>∃ (pos:Nat) (Bl':List Nat),wr.heap[w.heap.size]?=some (.stringIter s pos)∧pos≤s.size∧Zep wr B ((Qs5 s).take pos) Bl'∧Bl'.Nodup∧(∀ j∈Bl',j<wr.heap.size∧(w.heap.size<j∨j∈Bl))∧Fr (fun j=>j∈Bl) w wr) (fun wr=>s.size - wr.iterPos (w.heap.size))
  case atStart=>
    refine ⟨0,Bl,World.iter_heap w s 0,Nat.zero_le _,?_,hn,fun j hj=>⟨?_,.inr hj⟩,?_⟩
    · rw [List.take_zero];exact Zep.mv hB (fun j hj=>RowKit.Below.heap_alloc w _ j (hlt j hj))
    · have:=hlt j hj;simp [World.iter];omega
    · exact (Fr.alloc _ w _)
  case round=>
    obtain ⟨pos,Bl',hit,hpl,hb,hn',hbl,hf⟩:=hrel
    have hk:w.heap.size<wr.heap.size:=(Array.getElem?_eq_some_iff.1 hit).1
    have hkB:w.heap.size ∉ Bl':=fun h=>by
      rcases (hbl _ h).2 with h | h
      · omega
      · exact absurd (hlt _ h) (by omega)
    by_cases hp:pos<s.size
    · have hnx:∀ ty,(Instr.next (.pointer (some ⟨w.heap.size,0,none⟩)) true ty).run Tryz.prog wr=_:=fun ty=>Lib.run_next_ascii_at wr w.heap.size s pos ty hit hp (Zkd ha hp)
      generalize hc:(s[pos]'hp).toNat=c at hnx
      have hc128:c<128:=by rw [← hc];exact Zkd ha hp
      have hit2:=Lib.iterAt_heap wr w.heap.size s pos (pos+1) hit
      go_wp2_with (go_at_call 174;refine (Zn7 c hc128 _).mono ?_)
      rintro e W1 ⟨rfl,f1⟩
      have hsz:(s.extract pos s.size).size=s.size - pos:=by simp
      have hd0:((s.extract pos s.size).data.getD 0 0).toNat=c:=by
        rw [← hc]
        have e1:(s.extract pos s.size).data[0]?=some (s[pos]'hp):=by
          rw [ByteArray.data_extract,Array.getElem?_extract]
          rw [if_pos (by simp;omega)]
          simp only [Nat.add_zero]
          exact Array.getElem?_eq_getElem hp
        rw [Array.getD_eq_getD_getElem?,e1]
        rfl
      have f0:Fr (fun j=>j∈Bl) w (wr.iterAt w.heap.size s (pos+1)):=hf.trans' (Y:=fun j=>j=w.heap.size) ⟨rfl,rfl,rfl,by rw [Lib.iterAt_size];exact Nat.le_refl _,fun j _ hj=>Lib.iterAt_other _ _ _ _ _ hj⟩ (fun j h1 h2=>absurd h2 (by omega))
      go_wp2_with (go_at_call 175;refine (Zp6 _ c (by rw [hsz];omega) hd0 hc128 _).mono ?_)
      rintro e W2 ⟨rfl,f2⟩
      have hb2:Zep W2 B ((Qs5 s).take pos) Bl':=Zep.mv hb (fun j hj=>by
        have h1:j<wr.heap.size:=(hbl j hj).1
        have h2:j<(wr.iterAt w.heap.size s (pos+1)).heap.size:=by rw [Lib.iterAt_size];exact h1
        rw [f2.block (Nat.lt_of_lt_of_le h2 f1.size) (fun x=>x),f1.block h2 (fun x=>x)]
        exact Lib.iterAt_other _ _ _ _ _ (fun e=>hkB (by rw [← e];exact hj)))
      have hw2:wr.heap.size≤W2.heap.size:=by
        have:=f1.size;have:=f2.size;rw [Lib.iterAt_size] at *;omega
      have hit3:W2.heap[w.heap.size]?=some (.stringIter s (pos+1)):=by
        have h2:w.heap.size<(wr.iterAt w.heap.size s (pos+1)).heap.size:=by rw [Lib.iterAt_size];exact hk
        rw [f2.block (Nat.lt_of_lt_of_le h2 f1.size) (fun x=>x),f1.block h2 (fun x=>x)]
        exact hit2
      have c65:¬ ((c:Int)=65533):=by omega
      have fn1h:=fun (a b:Int)=>Zrg (c:Int) a b B ((Qs5 s).take pos) Bl' W2 hb2 hn' (fun j hj=>Nat.lt_of_lt_of_le (hbl j hj).1 hw2) (by rw [List.length_take,Zea];omega)
      go_wp2_with (go_at_call 144;refine (fn1h _ _).mono ?_)
      rintro e W3 ⟨rfl,Bl3,hb3,hn3,hbl3,f3⟩
      go_wp2
      go_roundw
      case rel=>
        have hk3:W3.heap[w.heap.size]?=some (.stringIter s (pos+1)):=by
          rw [f3.block (by omega) hkB];exact hit3
        refine ⟨pos+1,Bl3,hk3,hp,by rw [Zid hp,hc];exact hb3,hn3,fun j hj=>⟨(hbl3 j hj).1,?_⟩,?_⟩
        · rcases (hbl3 j hj).2 with h | h
          · exact .inl (by omega)
          · exact (hbl j h).2
        · refine ((f0.trans' f1 (fun _ _ x=>x.elim)).trans' f2 (fun _ _ x=>x.elim)).trans' f3 (fun j h1 h2=>?_)
          rcases (hbl j h2).2 with h | h
          · omega
          · exact h
      case measure=>
        have hk3:W3.heap[w.heap.size]?=some (.stringIter s (pos+1)):=by
          rw [f3.block (by omega) hkB];exact hit3
        simp only [World.iterPos,hk3,hit]
        omega
    · have hnx:∀ ty,(Instr.next (.pointer (some ⟨w.heap.size,0,none⟩)) true ty).run Tryz.prog wr=_:=fun ty=>Lib.run_next_end_at wr w.heap.size s pos ty hit hp
      go_wp2
      go_end0
      have:pos=s.size:=by omega
      subst this
      rw [List.take_of_length_le (by rw [Zea];exact Nat.le_refl _)] at hb
      exact ⟨rfl,Bl',hb,hn',fun j hj=>⟨(hbl j hj).1,(hbl j hj).2.imp Nat.le_of_lt id⟩,hf⟩
set_option maxHeartbeats 4000000 in
set_option maxRecDepth 1000000 in
theorem Zmu (s:ByteArray) (ha:Zha s=true) (hs:s.size≤1073741824) (w:World) :
    Calls Tryz.prog 75 #[.string s] w fun e w'=>∃ v Bl,e=.returned v∧Q13 tab.ty (fun _=>False) w' 3 (.int .i64) (Qs5 s) v Bl∧(∀ j∈Bl,j<w'.heap.size∧w.heap.size≤j)∧Fr (fun _=>False) w w':=by
  have hE:=fun W B Bl h1 h2 h3=>Zqx s ha hs W B Bl h1 h2 h3
  go_enter Tryz.func75,Tryz.ntmps75
  have hB0:Zep (w.alloc (.cells #[.slice none 0 0] 28)) w.heap.size [] [w.heap.size]:=
    ⟨w.heap.size,28,#[.slice none 0 0],[],rfl,(by show (w.heap.push _)[w.heap.size]?=_;simp),rfl,.slice none 0 0,[],[],[],rfl,rfl,⟨Nat.zero_lt_one,⟨[],World.ownsRow_nil _ 0 3 1,rfl⟩,rfl⟩,rfl,rfl⟩
  go_wp2_with (go_at_call 143;refine (hE _ _ _ hB0 (by simp) (by simp)).mono ?_)
  rintro e W1 ⟨rfl,Bl1,hb1,hn1,hbl1,f1⟩
  obtain ⟨b,T,cs,B',hv,hh,hB,hown⟩:=hb1
  obtain ⟨c,cr,B1,B2,e1,e2,h1,h2⟩:=hown
  obtain ⟨rfl,rfl⟩:cr=[]∧B2=[]:=h2
  obtain ⟨h0,⟨cells,hr,hc⟩,hb⟩:Q13 tab.ty (fun _=>False) W1 3 (.int .i64) (Qs5 s) c B1:=h1
  have hcs:cs=#[c]:=by apply Array.ext';exact e1
  subst hcs
  obtain ⟨rfl⟩:w.heap.size=b:=by injection hv with e;injection e with e;injection e
  have hcell:W1.cell? ⟨w.heap.size,0,none⟩=some c:=by simp [World.cell?,hh]
  have hfro:W1.frozen? ⟨w.heap.size,0,none⟩=false:=by simp [World.frozen?,hh]
  obtain ⟨A,n,cp,rfl⟩:=X1 hr
  subst hB;subst e2;subst hb
  have hne:∀ j∈(blk (Value.slice A n cp)).toList,j≠w.heap.size:=fun j hj e=>by
    have:=(List.nodup_cons.1 hn1).1
    exact this (by rw [← e];simpa using hj)
  have hh2:(W1.setCell ⟨w.heap.size,0,none⟩ (.slice A n cp)).heap[w.heap.size]?=some (.cells #[.slice A n cp] T (0,0)):=by
    obtain ⟨hlt2,hk2⟩:=Array.getElem?_eq_some_iff.1 hh
    show (W1.heap.modify w.heap.size _)[w.heap.size]?=_
    rw [Array.getElem?_eq_getElem (by rw [Array.size_modify];exact hlt2),Array.getElem_modify_self,hk2]
    rfl
  have hcell2:(W1.setCell ⟨w.heap.size,0,none⟩ (.slice A n cp)).cell? ⟨w.heap.size,0,none⟩=some (.slice A n cp):=by simp [World.cell?,hh2]
  go_wp2
  (try simp only [Exit.inBlock,Exit.then])
  refine bodyPost_ret (v:=.slice A n cp) (by simp only [results,show Tryz.f75.results=#[.cell 2 28] from rfl];go_simp) rfl ?_
  refine ⟨_,_,rfl,⟨h0,⟨cells,⟨hr.1,?_⟩,Zdi hc⟩,rfl⟩,fun j hj=>⟨?_,?_⟩,?_⟩
  · rcases hr.2 with hn | ⟨g,cap,cur,e,hg,hh',rest⟩
    · exact .inl hn
    · refine .inr ⟨g,cap,cur,e,hg,?_,rest⟩
      injection e with e _ _
      subst e
      exact (RowKit.Below.heap_setCell W1 _ _ g (hne g (by simp [blk]))).trans hh'
  · have:=(hbl1 j (by simp only [List.mem_cons];exact .inr (by simpa using hj))).1
    simpa using this
  · rcases (hbl1 j (by simp only [List.mem_cons];exact .inr (by simpa using hj))).2 with h | h
    · simp at h;omega
    · simp at h;omega
  · exact ((Fr.alloc (fun _=>False) w _).trans' f1 (fun j h1 h2=>by simp at h2;omega)).trans' (Fr.setCell W1 _ _) (fun j h1 h2=>by simp at h2;omega)
noncomputable def Zdq (s_0:ByteArray):Option (((List Int) × Unit) × Unit):=bif Zha s_0&&Nat.ble s_0.size 1073741824 then some ((Qs5 s_0,()),()) else none
noncomputable def Z9t:Ent:=⟨[.val t9],[⟨t28,[true],none⟩],fun x=>Zdq x.1⟩
theorem Zdb:Q4u tab.ty Tryz.prog 75 Z9t:=by
  refine ⟨⟨_,Tryz.func75,by kernel_rfl,by kernel_rfl⟩,fun w S x vals B r hS ha hn hB hG=>?_⟩
  obtain ⟨s,u⟩:=x
  obtain ⟨v,vr,b1,b2,rfl,rfl,⟨hv,rfl⟩,rfl,rfl⟩:=ha
  have hG:(bif Zha s&&Nat.ble s.size 1073741824 then some ((Qs5 s,()),()) else none)=some r:=hG
  cases hq:(Zha s&&Nat.ble s.size 1073741824) with
  | false=>rw [hq] at hG;cases hG
  | true=>
  rw [hq] at hG
  have hG:=Option.some.inj hG
  subst hG
  simp only [Bool.and_eq_true] at hq
  obtain ⟨hq1,hq2⟩:=hq
  have hv2:v=.string s:=by
    rcases hv with ⟨h,_⟩ | ⟨_,h⟩
    · cases h
    · have h:[v]=[Value.string s]:=h
      injection h
  subst hv2
  refine (Zmu s hq1 (Q2.1 hq2) w).mono ?_
  rintro e w' ⟨v,Bl,rfl,hr,hbl,hf⟩
  obtain ⟨h0,⟨cells,hr,hc⟩,rfl⟩:=hr
  refine ⟨[v],S,(blk v).toList,[],rfl,⟨v,[],(blk v).toList,[],rfl,by simp,⟨[v],(fun h=>by cases h),(fun _=>rfl),v,[],(blk v).toList,[],rfl,by simp,⟨h0,⟨cells,hr,?_⟩,rfl⟩,rfl,rfl⟩,rfl,rfl⟩,rfl,?_,fun k hk=>?_,fun _ h=>h,fun k hk=>⟨Nat.lt_of_lt_of_le (hS k hk) hf.size,.inl hk⟩,hf.mono (fun _ h=>h.elim)⟩
  · exact hc.frame (fun _ h=>h.elim) (Nat.le_refl _) (fun _ _ _=>rfl)
  · cases blk v<;>simp
  · have h1:=hbl k (by simpa using hk)
    exact ⟨fun h=>by have:=hS k h;omega,h1.1,.inl h1.2⟩
end
abbrev Qxg:Type:=(Bool × Unit) × Unit
noncomputable def Zlz:Ctx:=[(75,Z9t)]
def Zdw:Fi:=fo [[0,17,18,19,20,21,22,29,30,31],[3,17,18,19,20,21,22,29,30,31],[3,8,9,10,17,18,19,20,21,22,29,30,31],[3,8,9,10,11,17,18,19,20,21,22,29,30,31],[3,5,8,9,10,17,18,19,20,21,22,29,30,31],[3,8,9,10,17,18,19,20,21,22,23,29,30,31],[2],[3,8,9,10,17,18,19,20,21,22,29,30,31],[2]]
abbrev Z7i:Type:=Int→Int→List Int→Option Qxg
noncomputable def Ze9 (L1:Z7i) (v2 v3:Int) (v4:List Int):Option Qxg:=
 bif decide (v3<v2) then
  bif decide (0≤v3)&&decide (v3<(v4.length:Int)) then
   bif decide (0≤v3)&&decide (v3<(v4.length:Int)) then
    bif decide (List.getD v4 v3.toNat 0≤32) then
     some ((false,()),())
    else
    bif decide (List.getD v4 v3.toNat 0 ≥ 127) then
     bif decide (List.getD v4 v3.toNat 0≤159) then
      some ((false,()),())
     else
      L1 v2 (IntKind.wrap .i64 (v3+1)) v4
    else
     L1 v2 (IntKind.wrap .i64 (v3+1)) v4
   else none
  else none
 else
 bif decide ((v4.length:Int) ≥ 1) then
  some ((decide ((v4.length:Int)≤8),()),())
 else
  some ((false,()),())
noncomputable def Zfa (L1:Z7i) (s_0:ByteArray):Option Qxg:=
 Option.bind (Zdq s_0) fun r1=>
 L1 (r1.1.1.length:Int) 0 r1.1.1
noncomputable def Zdn (n:Nat):Nat→Z7i:=iter (fun _ _ _=>none) fun L=>Ze9 L
noncomputable def Z31 (n m:Nat) (v2 v3:Int) (v4:List Int):Option Qxg:=
 Qjv Zlz tab (fiB [.val t9] Zdw) n [.val t9] [⟨t4,[false],none⟩] Tryz.f34 [1,1,0,1,0] [] [3,8,9,10] m
 ⟨[(3,V1 (.ref (888888,8))),(8,V1 (.ref (888888,8))),(9,Vp t2 v2),(10,Vp t2 v3)],[((888888,8),Ob.row 3 t2 v4)]⟩
theorem Zb8 (n:Nat):∀ m,Z31 n m=Zdn n m
 | 0=>rfl
 | m+1=>by rw [show Z31 n (m+1)=Ze9 (Z31 n m) from by kernel_rfl,Zb8 n m];rfl
noncomputable def Zf0 (n:Nat) (s_0:ByteArray):Option Qxg:=Zfa (Zdn n n) s_0
noncomputable def Zjk (s_0:ByteArray):Option Qxg:=Zf0 1099511627776 s_0
noncomputable def Zlt:Ent:=⟨[.val t9],[⟨t4,[false],none⟩],fun x=>Zjk x.1⟩
theorem Zgy:GD 34 Zlt:=fnl Zdw (fun n x=>Zf0 n x.1) (Qjy Zdb Qk3) Tryz.func34 fun n x=>Eq.trans (b:=Zfa (Z31 n n) x.1) (by kernel_rfl) (by rw [Zb8 n n];rfl)
noncomputable def Qn9 (s:List Int):Option (((List Int) × Unit) × Unit):=bif Nat.ble s.length 1073741824 then some ((s,()),()) else none
theorem Z8x (s:List Int):Qde [] tab (Qk4 Tryz.f76 []) 1 [.val t28] [⟨t28,[true],none⟩] Tryz.f76 (s,())=bif !(List.isEmpty s) then bif Nat.ble (0+s.length) 1073741824 then some (([]++s,()),()) else none
 else Q3f (some (([],()),())) (bif Nat.ble (0+s.length) 1073741824 then some (([]++s,()),()) else none):=by kernel_rfl
theorem Za8 (s:List Int):Qde [] tab (Qk4 Tryz.f76 []) 1 [.val t28] [⟨t28,[true],none⟩] Tryz.f76 (s,())=Qn9 s:=by
  rw [Z8x]
  cases s with
  | nil=>exact Qcu _
  | cons x q=>rw [Nat.zero_add];rfl
noncomputable def Zbi:Ent:=⟨[.val t28],[⟨t28,[true],none⟩],fun x=>Qn9 x.1⟩
theorem Qqd:Q4u tab.ty Tryz.prog 76 Zbi:=by
  refine Qjk (Γ:=[]) (fi:=Qk4 Tryz.f76 []) (n:=1) follows Qk3 Zff Tryz.func76 (by kernel_rfl) (by kernel_rfl) (fun x r h=>?_)
  obtain ⟨s,_u⟩:=x
  exact (Za8 s).trans h
noncomputable def Qna (s:List Qlf):Option ((Z6m × Unit) × Unit):=bif Nat.ble s.length 1073741824 then some ((s,()),()) else none
theorem Z94 (s:List Qlf):Qde [] tab (Qk4 Tryz.f77 []) 1 [.val t29] [⟨t29,[true],none⟩] Tryz.f77 (s,())=bif !(List.isEmpty s) then bif Nat.ble (0+s.length) 1073741824 then some (([]++s,()),()) else none
 else Q3f (some (([],()),())) (bif Nat.ble (0+s.length) 1073741824 then some (([]++s,()),()) else none):=by kernel_rfl
theorem Zah (s:List Qlf):Qde [] tab (Qk4 Tryz.f77 []) 1 [.val t29] [⟨t29,[true],none⟩] Tryz.f77 (s,())=Qna s:=by
  rw [Z94]
  cases s with
  | nil=>exact Qcu _
  | cons x q=>rw [Nat.zero_add];rfl
noncomputable def Zas:Ent:=⟨[.val t29],[⟨t29,[true],none⟩],fun x=>Qna x.1⟩
theorem Qq9:Q4u tab.ty Tryz.prog 77 Zas:=by
  refine Qjk (Γ:=[]) (fi:=Qk4 Tryz.f77 []) (n:=1) follows Qk3 Zff Tryz.func77 (by kernel_rfl) (by kernel_rfl) (fun x r h=>?_)
  obtain ⟨s,_u⟩:=x
  exact (Zah s).trans h
noncomputable def Qkh (s:List Qlw):Option ((Qlh × Unit) × Unit):=bif Nat.ble s.length 1073741824 then some ((s,()),()) else none
theorem Z79 (s:List Qlw):Qde [] tab (Qk4 Tryz.f78 []) 1 [.val t32] [⟨t32,[true],none⟩] Tryz.f78 (s,())=bif !(List.isEmpty s) then bif Nat.ble (0+s.length) 1073741824 then some (([]++s,()),()) else none
 else Q3f (some (([],()),())) (bif Nat.ble (0+s.length) 1073741824 then some (([]++s,()),()) else none):=by kernel_rfl
theorem Z8p (s:List Qlw):Qde [] tab (Qk4 Tryz.f78 []) 1 [.val t32] [⟨t32,[true],none⟩] Tryz.f78 (s,())=Qkh s:=by
  rw [Z79]
  cases s with
  | nil=>exact Qcu _
  | cons x q=>rw [Nat.zero_add];rfl
noncomputable def Zad:Ent:=⟨[.val t32],[⟨t32,[true],none⟩],fun x=>Qkh x.1⟩
theorem Qma:Q4u tab.ty Tryz.prog 78 Zad:=by
  refine Qjk (Γ:=[]) (fi:=Qk4 Tryz.f78 []) (n:=1) follows Qk3 Zff Tryz.func78 (by kernel_rfl) (by kernel_rfl) (fun x r h=>?_)
  obtain ⟨s,_u⟩:=x
  exact (Z8p s).trans h
noncomputable def Ql2 (s:List Qtb):Option ((Qto × Unit) × Unit):=bif Nat.ble s.length 1073741824 then some ((s,()),()) else none
theorem Z61 (s:List Qtb):Qde [] tab (Qk4 Tryz.f79 []) 1 [.val t33] [⟨t33,[true],none⟩] Tryz.f79 (s,())=bif !(List.isEmpty s) then bif Nat.ble (0+s.length) 1073741824 then some (([]++s,()),()) else none
 else Q3f (some (([],()),())) (bif Nat.ble (0+s.length) 1073741824 then some (([]++s,()),()) else none):=by kernel_rfl
theorem Z7f (s:List Qtb):Qde [] tab (Qk4 Tryz.f79 []) 1 [.val t33] [⟨t33,[true],none⟩] Tryz.f79 (s,())=Ql2 s:=by
  rw [Z61]
  cases s with
  | nil=>exact Qcu _
  | cons x q=>rw [Nat.zero_add];rfl
noncomputable def Z8o:Ent:=⟨[.val t33],[⟨t33,[true],none⟩],fun x=>Ql2 x.1⟩
theorem Qly:Q4u tab.ty Tryz.prog 79 Z8o:=by
  refine Qjk (Γ:=[]) (fi:=Qk4 Tryz.f79 []) (n:=1) follows Qk3 Zff Tryz.func79 (by kernel_rfl) (by kernel_rfl) (fun x r h=>?_)
  obtain ⟨s,_u⟩:=x
  exact (Z7f s).trans h
noncomputable def Qrb (n_0:Bool × Int × ByteArray × Qwp × Z5u × Int):Option ((Zqd × Unit) × Unit):=
 Option.bind (Qn9 (g6 (g3 n_0))) fun r1=>
 Option.bind (Qna (h12 (g3 n_0))) fun r2=>
 Option.bind (Qkh (g4 n_0).2.2.1) fun r3=>
 Option.bind (Qkh (g3 (g4 n_0))) fun r4=>
 Option.bind (Ql2 (g4 (g4 n_0))) fun r5=>
 some (((u4 (u3 n_0 (e12 (u6 (g3 n_0) r1.1.1) r2.1.1)) (u4 (u3 (u2 (g4 n_0) r3.1.1) r4.1.1) r5.1.1)),()),())
noncomputable def Zlj:Ent:=⟨[.val t38],[⟨t38,(nF 24),none⟩],fun x=>Qrb x.1⟩
theorem Qxx:GD 35 Zlj:=fnk 1 (fo [[1,2],[1,2],[1,2],[2]]) (Qjy Qqd (Qjy Qq9 (Qjy Qma (Qjy Qly Qk3)))) Tryz.func35
noncomputable def Zok (id_0 inc_1 now_2 grand_3:Int):Option ((Qwp × Unit) × Unit):=
 bif id_0==1 then
  some (((id_0,inc_1,now_2,0,0,grand_3,[1],0,now_2,0,0,0,[]),()),())
 else
  some (((id_0,inc_1,now_2,0,0,grand_3,[],0,0,0,0,0,[]),()),())
noncomputable def Zoq:Ent:=⟨[.val t2,.val t2,.val t2,.val t2],[⟨t30,(nF 6++[true,false,false,false,false,false,true]),none⟩],fun x=>Zok x.1 x.2.1 x.2.2.1 x.2.2.2.1⟩
theorem Zk1:GD 36 Zoq:=fnk 1 (fo [[0,1,2,3,8],[0,2,8,9],[2,8,9,16],[8,9],[8]]) Qk3 Tryz.func36
noncomputable def Zfu (n_0:Bool × Int × ByteArray × Qwp × Z5u × Int) (id_1:Int) (name_2:ByteArray) (grand_3:Int):Option ((Zqd × Bool × Unit) × Unit):=
 bif n_0.1 then
  Option.bind (Qrb n_0) fun r1=>
  some ((r1.1.1,false,()),())
 else
  Option.bind (Zjk name_2) fun r2=>
  bif !r2.1.1 then
   Option.bind (Qrb n_0) fun r3=>
   some ((r3.1.1,false,()),())
  else
  bif decide (id_1<1) then
   Option.bind (Qrb n_0) fun r4=>
   some ((r4.1.1,false,()),())
  else
  bif decide (id_1>8) then
   Option.bind (Qrb n_0) fun r5=>
   some ((r5.1.1,false,()),())
  else
  bif decide (n_0.2.1 ≥ 1073741824) then
   Option.bind (Qrb n_0) fun r6=>
   some ((r6.1.1,false,()),())
  else
   Option.bind (Zok id_1 (IntKind.wrap .i64 (n_0.2.1+1)) 0 grand_3) fun r7=>
   some (((true,IntKind.wrap .i64 (n_0.2.1+1),name_2,r7.1.1,(0,0,[],[],[],0,0),0),true,()),())
noncomputable def Zlk:Ent:=⟨[.val t38,.val t2,.val t9,.val t2],[⟨t38,(nF 24),none⟩,⟨t4,[false],none⟩],fun x=>Zfu x.1 x.2.1 x.2.2.1 x.2.2.2.1⟩
theorem Zh6:GD 13 Zlk:=fnk 1 (fo [[1,2,3,4,8,14,15,16,19,20,23,24,27,28,29],[1,2,3,4,8,30],[8,9],[1,2,3,8,10],[8,9]]) (Qjy Zgy (Qjy Qxx (Qjy Zk1 Qk3))) Tryz.func13
noncomputable def Qqh (f_0:Int × Int × Qlh × Qlh × Qto × Int × Int):Option ((Z5u × Unit) × Unit):=
 Option.bind (Qkh f_0.2.2.1) fun r1=>
 Option.bind (Qkh (g3 f_0)) fun r2=>
 Option.bind (Ql2 (g4 f_0)) fun r3=>
 some (((u4 (u3 (u2 f_0 r1.1.1) r2.1.1) r3.1.1),()),())
noncomputable def Zku:Ent:=⟨[.val t36],[⟨t36,[false,false,true,true,true,false,false],none⟩],fun x=>Qqh x.1⟩
theorem Quk:GD 116 Zku:=fnk 1 (fo [[1,2],[1,2],[2]]) (Qjy Qma (Qjy Qly Qk3)) Tryz.func116
noncomputable def Z8l (l_0:List Qtb) (seq_1:Int) (text_2:ByteArray):Option ((Qto × Unit) × Unit):=
 Option.bind (Ql2 l_0) fun r1=>
 bif Nat.ble (r1.1.1.length+1) 1073741824 then
  some ((r1.1.1++[(1,seq_1,seq_1,text_2,0)],()),())
 else none
noncomputable def Zhl:Ent:=⟨[.val t33,.val t2,.val t9],[⟨t33,[true],none⟩],fun x=>Z8l x.1 x.2.1 x.2.2.1⟩
theorem Zb4:GD 121 Zhl:=fnk 1 (fo [[0,1,2],[6]]) (Qjy Qly Qk3) Tryz.func121
noncomputable def Z5m (r1:(Qlh × Unit) × Unit) (i_1:Int × ByteArray):Option ((Qlh × Unit) × Unit):=
 bif Nat.ble (r1.1.1.length+1) 1073741824 then
  bif (decide (0≤(if 0>IntKind.wrap .i64 (((r1.1.1++[i_1]).length:Int) - 6) then 0 else IntKind.wrap .i64 (((r1.1.1++[i_1]).length:Int) - 6)))&&decide ((if 0>IntKind.wrap .i64 (((r1.1.1++[i_1]).length:Int) - 6) then 0 else IntKind.wrap .i64 (((r1.1.1++[i_1]).length:Int) - 6))≤((r1.1.1++[i_1]).length:Int)))&&decide (((r1.1.1++[i_1]).length:Int)≤((r1.1.1++[i_1]).length:Int)) then
   Option.bind (Qkh (List.drop ((if 0>IntKind.wrap .i64 (((r1.1.1++[i_1]).length:Int) - 6) then 0 else IntKind.wrap .i64 (((r1.1.1++[i_1]).length:Int) - 6)).toNat) (List.take (((r1.1.1++[i_1]).length:Int).toNat) (r1.1.1++[i_1])))) fun r2=>
   some ((r2.1.1,()),())
  else none
 else none
noncomputable def Z8g (l_0:List Qlw) (i_1:Int × ByteArray):Option ((Qlh × Unit) × Unit):=
 Option.bind (Qkh l_0) fun r1=>
 bif decide ((l_0.length:Int)>0) then
  bif decide (0≤IntKind.wrap .i64 ((l_0.length:Int) - 1))&&decide (IntKind.wrap .i64 ((l_0.length:Int) - 1)<(l_0.length:Int)) then
   bif decide (i_1.1≤(List.getD l_0 ((IntKind.wrap .i64 ((l_0.length:Int) - 1)).toNat) (0,(⟨#[]⟩:ByteArray))).1) then
    some ((r1.1.1,()),())
   else
    Z5m r1 i_1
  else none
 else
  Z5m r1 i_1
noncomputable def Zhh:Ent:=⟨[.val t32,.val t58],[⟨t32,[true],none⟩],fun x=>Z8g x.1 x.2.1⟩
theorem Zc7:GD 122 Zhh:=fnk 1 (fo [[0,3,12,13,14,15,16,17,18,19,20,21],[0,3,5,12,13,14,15,16,17,18,19,20,21],[3,5,22],[4],[5],[4]]) (Qjy Qma Qk3) Tryz.func122
noncomputable def Zm7 (f_0:Int × Int × Qlh × Qlh × Qto × Int × Int) (text_1:ByteArray):Option ((Z5u × Bool × Unit) × Unit):=
 Option.bind (Qqh f_0) fun r1=>
 bif decide ((text_1.size:Int)>12) then
  some ((r1.1.1,false,()),())
 else
 bif decide ((if 1>r1.1.1.1 then 1 else r1.1.1.1)>1000000) then
  some ((r1.1.1,false,()),())
 else
  Option.bind (Z8l (g4 r1.1.1) (if 1>r1.1.1.1 then 1 else r1.1.1.1) text_1) fun r2=>
  Option.bind (Z8g r1.1.1.2.2.1 (if 1>r1.1.1.1 then 1 else r1.1.1.1,text_1)) fun r3=>
  some (((u4 (u2 (u1 (u0 r1.1.1 (IntKind.wrap .i64 ((if 1>r1.1.1.1 then 1 else r1.1.1.1)+1))) (if 1>r1.1.1.1 then 1 else r1.1.1.1)) r3.1.1) r2.1.1),true,()),())
noncomputable def Zn2:Ent:=⟨[.val t36,.val t9],[⟨t36,(nF 7),none⟩,⟨t4,[false],none⟩],fun x=>Zm7 x.1 x.2.1⟩
theorem Zi8:GD 59 Zn2:=fnk 1 (fo [[1,2,4,16,17],[1,2,4,16,17],[1,2,4,6,16,17],[1,2,4,6,18],[4,5],[2,4,6],[2,4],[4,5]]) (Qjy Quk (Qjy Zb4 (Qjy Zc7 Qk3))) Tryz.func59
noncomputable def Z8d (f_0 old_1:Int × Int × Qlh × Qlh × Qto × Int × Int):Option ((Qto × Unit) × Unit):=
 bif (decide (0≤(if ((g4 f_0).length:Int)<((g4 old_1).length:Int) then ((g4 f_0).length:Int) else ((g4 old_1).length:Int)))&&decide ((if ((g4 f_0).length:Int)<((g4 old_1).length:Int) then ((g4 f_0).length:Int) else ((g4 old_1).length:Int))≤((g4 f_0).length:Int)))&&decide (((g4 f_0).length:Int)≤((g4 f_0).length:Int)) then
  Option.bind (Ql2 (List.drop ((if ((g4 f_0).length:Int)<((g4 old_1).length:Int) then ((g4 f_0).length:Int) else ((g4 old_1).length:Int)).toNat) (List.take (((g4 f_0).length:Int).toNat) (g4 f_0)))) fun r1=>
  some ((r1.1.1,()),())
 else none
noncomputable def Ze0:Ent:=⟨[.val t36,.val t36],[⟨t33,[true],none⟩],fun x=>Z8d x.1 x.2.1⟩
theorem Zfl:GD 104 Ze0:=fnk 1 (fo [[2,3],[4]]) (Qjy Qly Qk3) Tryz.func104
noncomputable def Qtj (n_0:Bool × Int × ByteArray × Qwp × Z5u × Int) (kind_1 to_2 lo_3 hi_4:Int) (s_5:ByteArray):Option ((Z59 × Unit) × Unit):=
 some (((kind_1,(g3 n_0).1,to_2,(g3 n_0).2.1,0,0,[],lo_3,hi_4,s_5),()),())
noncomputable def Z6o:Ent:=⟨[.val t38,.val t2,.val t2,.val t2,.val t2,.val t9],[⟨t45,(nF 6++[true,false,false,false]),none⟩],fun x=>Qtj x.1 x.2.1 x.2.2.1 x.2.2.2.1 x.2.2.2.2.1 x.2.2.2.2.2.1⟩
theorem Z84:GD 58 Z6o:=fnk 1 (fo [[1,2,3,4,5,6,12],[12]]) Qk3 Tryz.func58
abbrev Qqo:Type:=(Zd7 × Unit) × Unit
noncomputable def Zga:Ctx:=[(58,Z6o),(104,Ze0)]
def Z7d:Fi:={ keep:=[],vty:=[(4,48)],vals:=[],live:=[(0,[2,3,4]),(1,[2,4,12,13,14]),(2,[2,4,12,13,14,15]),(3,[2,4,6,12,13,14]),(4,[2,4,6,12,13,14,20,21,22]),(5,[2,4,6,12,13,14,20,21,22,23]),(6,[2,4,6,8,12,13,14,20,21,22]),(7,[2,4,6,8,12,13,14,20,21,22,28]),(8,[2,4,6,12,13,14,20,21,22]),(9,[2,4,6,12,13,14,20,21,22]),(10,[2,4,6,12,13,14,20,21,22]),(11,[2,4,12,13,14]),(12,[4])] }
abbrev Z2q:Type:=Int→Int→Bool→Int→ByteArray→Int→Int→Int→Int→Int→Int→List Int→Int→Int→Int→Int→Int→Z6m→Int→Int→Qlh→Qlh→Qto→Int→Int→Int→Zd7→Qto→Option Qqo
abbrev Z2h:Type:=Int→Int→Z6m→Int→Int→Bool→Int→ByteArray→Int→Int→Int→Int→Int→Int→List Int→Int→Int→Int→Int→Int→Z6m→Int→Int→Qlh→Qlh→Qto→Int→Int→Int→Zd7→Int→Int→Int→ByteArray→Int→Qto→Option Qqo
noncomputable def Z72 (v59:List Z59) (L2:Z2h) (v30 v31:Int) (v32:List Qlf) (v33 v34:Int) (v35:Bool) (v36:Int) (v37:ByteArray) (v38 v39 v40 v41 v42 v43:Int) (v44:List Int) (v45 v46 v47 v48 v49:Int) (v50:List Qlf) (v51 v52:Int) (v53 v54:List Qlw) (v55:List Qtb) (v56 v57 v58:Int) (r66:(Z59 × Unit) × Unit) (v60 v61 v62:Int) (v63:ByteArray) (v64:Int) (v65:List Qtb):Option Qqo:=
 bif Nat.ble (v59.length+1) 1073741824 then
  L2 v30 v31 v32 v33 (IntKind.wrap .i64 (v34+1)) v35 v36 v37 v38 v39 v40 v41 v42 v43 v44 v45 v46 v47 v48 v49 v50 v51 v52 v53 v54 v55 v56 v57 v58 (v59++[r66.1.1]) v60 v61 v62 v63 v64 v65
 else none
noncomputable def Qvc (L2:Z2h) (v2 v3:Int) (v4:Bool) (v5:Int) (v6:ByteArray) (v7 v8 v9 v10 v11 v12:Int) (v13:List Int) (v14 v15 v16 v17 v18:Int) (v19:List Qlf) (v20 v21:Int) (v22 v23:List Qlw) (v24:List Qtb) (v25 v26 v27:Int) (v28:List Z59) (v29:List Qtb):Option Qqo:=
 bif decide (v3<v2) then
  bif decide (0≤v3)&&decide (v3<(v29.length:Int)) then
   bif decide (0≤v3)&&decide (v3<(v29.length:Int)) then
    L2 v2 v3 v19 (v19.length:Int) 0 v4 v5 v6 v7 v8 v9 v10 v11 v12 v13 v14 v15 v16 v17 v18 v19 v20 v21 v22 v23 v24 v25 v26 v27 v28 ((List.getD v29 v3.toNat Zl6).1) (((List.getD v29 v3.toNat Zl6).2).1) ((((List.getD v29 v3.toNat Zl6).2).2).1) (((((List.getD v29 v3.toNat Zl6).2).2).2).1) (((((List.getD v29 v3.toNat Zl6).2).2).2).2) v29
   else none
  else none
 else
  some ((v28,()),())
noncomputable def Qvl (L2:Z2h) (L1:Z2q) (v30 v31:Int) (v32:List Qlf) (v33 v34:Int) (v35:Bool) (v36:Int) (v37:ByteArray) (v38 v39 v40 v41 v42 v43:Int) (v44:List Int) (v45 v46 v47 v48 v49:Int) (v50:List Qlf) (v51 v52:Int) (v53 v54:List Qlw) (v55:List Qtb) (v56 v57 v58:Int) (v59:List Z59) (v60 v61 v62:Int) (v63:ByteArray) (v64:Int) (v65:List Qtb):Option Qqo:=
 bif decide (v34<v33) then
  bif decide (0≤v34)&&decide (v34<(v32.length:Int)) then
   bif v60==1 then
    Option.bind (Qtj (v35,v36,v37,(v38,v39,v40,v41,v42,v43,v44,v45,v46,v47,v48,v49,v50),(v51,v52,v53,v54,v55,v56,v57),v58) 7 ((List.getD v32 v34.toNat (0,0,0)).1) v61 0 v63) fun r66=>
    Z72 v59 L2 v30 v31 v32 v33 v34 v35 v36 v37 v38 v39 v40 v41 v42 v43 v44 v45 v46 v47 v48 v49 v50 v51 v52 v53 v54 v55 v56 v57 v58 r66 v60 v61 v62 v63 v64 v65
   else
    Option.bind (Qtj (v35,v36,v37,(v38,v39,v40,v41,v42,v43,v44,v45,v46,v47,v48,v49,v50),(v51,v52,v53,v54,v55,v56,v57),v58) 9 ((List.getD v32 v34.toNat (0,0,0)).1) v61 v62 (⟨#[]⟩:ByteArray)) fun r67=>
    Z72 v59 L2 v30 v31 v32 v33 v34 v35 v36 v37 v38 v39 v40 v41 v42 v43 v44 v45 v46 v47 v48 v49 v50 v51 v52 v53 v54 v55 v56 v57 v58 r67 v60 v61 v62 v63 v64 v65
  else none
 else
  L1 v30 (IntKind.wrap .i64 (v31+1)) v35 v36 v37 v38 v39 v40 v41 v42 v43 v44 v45 v46 v47 v48 v49 v50 v51 v52 v53 v54 v55 v56 v57 v58 v59 v65
noncomputable def Z5c (L1:Z2q) (n_0:Bool × Int × ByteArray × Qwp × Z5u × Int) (old_1:Int × Int × Qlh × Qlh × Qto × Int × Int):Option Qqo:=
 Option.bind (Z8d (g4 n_0) old_1) fun r1=>
 L1 (r1.1.1.length:Int) 0 n_0.1 n_0.2.1 n_0.2.2.1 (g3 n_0).1 (g3 n_0).2.1 (g3 n_0).2.2.1 (g3 (g3 n_0)) (g4 (g3 n_0)) (g5 (g3 n_0)) (g6 (g3 n_0)) (g7 (g3 n_0)) (g8 (g3 n_0)) (g9 (g3 n_0)) (g10 (g3 n_0)) (g11 (g3 n_0)) (h12 (g3 n_0)) (g4 n_0).1 (g4 n_0).2.1 (g4 n_0).2.2.1 (g3 (g4 n_0)) (g4 (g4 n_0)) (g5 (g4 n_0)) (h6 (g4 n_0)) (h5 n_0) [] r1.1.1
noncomputable def Qt0 (n:Nat) (m1:Nat) (r1:Z2q):Nat→Z2h:=iter (fun _ _ _ _ _ _ _ _ _ _ _ _ _ _ _ _ _ _ _ _ _ _ _ _ _ _ _ _ _ _ _ _ _ _ _ _=>none) fun L=>Qvl L r1
noncomputable def Qt4 (n:Nat):Nat→Z2q:=Qjg (fun _ _ _ _ _ _ _ _ _ _ _ _ _ _ _ _ _ _ _ _ _ _ _ _ _ _ _ _=>none) fun m L=>Qvc (Qt0 n m L n)
noncomputable def Qy3 (n m:Nat) (v2 v3:Int) (v4:Bool) (v5:Int) (v6:ByteArray) (v7 v8 v9 v10 v11 v12:Int) (v13:List Int) (v14 v15 v16 v17 v18:Int) (v19:List Qlf) (v20 v21:Int) (v22 v23:List Qlw) (v24:List Qtb) (v25 v26 v27:Int) (v28:List Z59) (v29:List Qtb):Option Qqo:=
 Qjv Zga tab (fiB [.val t38,.val t36] Z7d) n [.val t38,.val t36] [⟨t48,[true],none⟩] Tryz.f49 [1,0,1,0] [] [2,4,12,13,14] m
 ⟨[(2,V1 (.ptr (2,0) 0)),(4,V1 (.ref (888888,4))),(12,V1 (.ref (888888,12))),(13,Vp t2 v2),(14,Vp t2 v3)],[((2,0),Ob.box 39 [LV.pure t4 v4,LV.pure t2 v5,LV.pure t9 v6,LV.pure t2 v7,LV.pure t2 v8,LV.pure t2 v9,LV.pure t2 v10,LV.pure t2 v11,LV.pure t2 v12,LV.pure t28 v13,LV.pure t2 v14,LV.pure t2 v15,LV.pure t2 v16,LV.pure t2 v17,LV.pure t2 v18,LV.pure t29 v19,LV.pure t2 v20,LV.pure t2 v21,LV.pure t32 v22,LV.pure t32 v23,LV.pure t33 v24,LV.pure t2 v25,LV.pure t2 v26,LV.pure t2 v27]),((888888,4),Ob.row 46 t45 v28),((888888,12),Ob.row 55 t54 v29)]⟩
noncomputable def Z1w (n m1 m:Nat) (v30 v31:Int) (v32:List Qlf) (v33 v34:Int) (v35:Bool) (v36:Int) (v37:ByteArray) (v38 v39 v40 v41 v42 v43:Int) (v44:List Int) (v45 v46 v47 v48 v49:Int) (v50:List Qlf) (v51 v52:Int) (v53 v54:List Qlw) (v55:List Qtb) (v56 v57 v58:Int) (v59:List Z59) (v60 v61 v62:Int) (v63:ByteArray) (v64:Int) (v65:List Qtb):Option Qqo:=
 Qjv Zga tab (fiB [.val t38,.val t36] Z7d) n [.val t38,.val t36] [⟨t48,[true],none⟩] Tryz.f49 [1,0,1,0,0,1,1,0,0,1,1,0] [(m1,[2,4,12,13,14])] [2,4,6,12,13,14,20,21,22] m
 ⟨[(2,V1 (.ptr (2,0) 0)),(4,V1 (.ref (888888,4))),(6,V1 (.ptr (6,0) 0)),(12,V1 (.ref (888888,12))),(13,Vp t2 v30),(14,Vp t2 v31),(20,Vp t29 v32),(21,Vp t2 v33),(22,Vp t2 v34)],[((2,0),Ob.box 39 [LV.pure t4 v35,LV.pure t2 v36,LV.pure t9 v37,LV.pure t2 v38,LV.pure t2 v39,LV.pure t2 v40,LV.pure t2 v41,LV.pure t2 v42,LV.pure t2 v43,LV.pure t28 v44,LV.pure t2 v45,LV.pure t2 v46,LV.pure t2 v47,LV.pure t2 v48,LV.pure t2 v49,LV.pure t29 v50,LV.pure t2 v51,LV.pure t2 v52,LV.pure t32 v53,LV.pure t32 v54,LV.pure t33 v55,LV.pure t2 v56,LV.pure t2 v57,LV.pure t2 v58]),((888888,4),Ob.row 46 t45 v59),((6,0),Ob.box 55 [LV.pure t2 v60,LV.pure t2 v61,LV.pure t2 v62,LV.pure t9 v63,LV.pure t2 v64]),((888888,12),Ob.row 55 t54 v65)]⟩
theorem Zcc (n m1:Nat):∀ m,Z1w n m1 m=Qt0 n m1 (Qy3 n m1) m
 | 0=>rfl
 | m+1=>by rw [show Z1w n m1 (m+1)=Qvl (Z1w n m1 m) (Qy3 n m1) from by kernel_rfl,Zcc n m1 m];rfl
theorem Zbs (n:Nat):∀ m,Qy3 n m=Qt4 n m
 | 0=>rfl
 | m+1=>by rw [show Qy3 n (m+1)=Qvc (Z1w n m n) from by kernel_rfl,Zcc n m n,Zbs n m];rfl
noncomputable def Zfc (n:Nat) (n_0:Bool × Int × ByteArray × Qwp × Z5u × Int) (old_1:Int × Int × Qlh × Qlh × Qto × Int × Int):Option Qqo:=Z5c (Qt4 n n) n_0 old_1
noncomputable def Z7v (n_0:Bool × Int × ByteArray × Qwp × Z5u × Int) (old_1:Int × Int × Qlh × Qlh × Qto × Int × Int):Option Qqo:=Zfc 1099511627776 n_0 old_1
noncomputable def Zlr:Ent:=⟨[.val t38,.val t36],[⟨t48,[true],none⟩],fun x=>Z7v x.1 x.2.1⟩
theorem Z9l:GD 49 Zlr:=fnl Z7d (fun n x=>Zfc n x.1 x.2.1) (Qjy Z84 (Qjy Zfl Qk3)) Tryz.func49 fun n x=>Eq.trans (b:=Z5c (Qy3 n n) x.1 x.2.1) (by kernel_rfl) (by rw [Zbs n n];rfl)
noncomputable def Zm2 (n_0:Bool × Int × ByteArray × Qwp × Z5u × Int) (s_1:ByteArray):Option ((Zqd × Zd7 × Bool × Unit) × Unit):=
 Option.bind (Qrb n_0) fun r1=>
 bif !n_0.1 then
  some ((r1.1.1,[],false,()),())
 else
 bif (g3 n_0).1 != 1 then
  some ((r1.1.1,[],false,()),())
 else
  Option.bind (Zm7 (g4 n_0) s_1) fun r2=>
  bif !r2.1.2.1 then
   some ((r1.1.1,[],false,()),())
  else
   Option.bind (Z7v (u4 r1.1.1 r2.1.1) (g4 n_0)) fun r3=>
   some (((u4 r1.1.1 r2.1.1),r3.1.1,true,()),())
noncomputable def Znd:Ent:=⟨[.val t38,.val t9],[⟨t38,(nF 24),none⟩,⟨t48,[true],none⟩,⟨t4,[false],none⟩],fun x=>Zm2 x.1 x.2.1⟩
theorem Ziq:GD 23 Znd:=fnk 1 (fo [[1,2,4,16,17,18,19],[1,2,4,7,16,17,18,19],[1,2,4,7,20],[4,5,6],[2,4,7,8,9],[2,4,7,8,30],[4,5,6],[2,4,7],[4,5,6]]) (Qjy Qxx (Qjy Z9l (Qjy Zi8 Qk3))) Tryz.func23
abbrev Qxp:Type:=(Int × Int × IV × Unit) × Unit
noncomputable def Zl9:Ctx:=[]
def Zdj:Fi:=fo [[0,2,3,11,12,33,34,37,38],[0,2,3,11,12,13,33,34,37,38],[0,2,3,5,11,12,33,34,37,38],[0,2,3,5,11,12,33,34,37,38],[0,2,3,5,11,12,33,34,37,38],[0,2,3,5,11,12,29,33,34,37,38],[2,3,39],[2,3,4],[2,3,4]]
abbrev Z82:Type:=List Int→Int→Int→Option Qxp
noncomputable def Z34 (L1:Z82) (v1:List Int) (v2 v3:Int):Option Qxp:=
 bif decide (v3<(v1.length:Int)) then
  bif decide (v3<5) then
   bif decide (0≤v3)&&decide (v3<(v1.length:Int)) then
    bif decide (0≤IntKind.wrap .i64 (7*v3)) then
     bif decide (List.getD v1 v3.toNat 0 ≥ 128) then
      L1 v1 (IntKind.wrap .i64 ((BitVec.ofInt 64 v2 ||| BitVec.ofInt 64 (IntKind.wrap .i64 ((IntKind.wrap .i64 (IntKind.wrap .u8 ((BitVec.ofInt 8 (List.getD v1 v3.toNat 0) &&& BitVec.ofInt 8 127).toNat)))*2 ^ (min ((IntKind.wrap .i64 (7*v3)).toNat) 64)))).toNat)) (IntKind.wrap .i64 (v3+1))
     else
     bif decide (IntKind.wrap .i64 (v3+1)>1) then
      bif (List.getD v1 v3.toNat 0)==0 then
       some ((0,0,IV.mk 216 [],()),())
      else
      bif decide (IntKind.wrap .i64 ((BitVec.ofInt 64 v2 ||| BitVec.ofInt 64 (IntKind.wrap .i64 ((IntKind.wrap .i64 (IntKind.wrap .u8 ((BitVec.ofInt 8 (List.getD v1 v3.toNat 0) &&& BitVec.ofInt 8 127).toNat)))*2 ^ (min ((IntKind.wrap .i64 (7*v3)).toNat) 64)))).toNat)>1073741824) then
       some ((0,0,IV.mk 216 [],()),())
      else
       some ((IntKind.wrap .i64 ((BitVec.ofInt 64 v2 ||| BitVec.ofInt 64 (IntKind.wrap .i64 ((IntKind.wrap .i64 (IntKind.wrap .u8 ((BitVec.ofInt 8 (List.getD v1 v3.toNat 0) &&& BitVec.ofInt 8 127).toNat)))*2 ^ (min ((IntKind.wrap .i64 (7*v3)).toNat) 64)))).toNat),IntKind.wrap .i64 (v3+1),IV.nil,()),())
     else
     bif decide (IntKind.wrap .i64 ((BitVec.ofInt 64 v2 ||| BitVec.ofInt 64 (IntKind.wrap .i64 ((IntKind.wrap .i64 (IntKind.wrap .u8 ((BitVec.ofInt 8 (List.getD v1 v3.toNat 0) &&& BitVec.ofInt 8 127).toNat)))*2 ^ (min ((IntKind.wrap .i64 (7*v3)).toNat) 64)))).toNat)>1073741824) then
      some ((0,0,IV.mk 216 [],()),())
     else
      some ((IntKind.wrap .i64 ((BitVec.ofInt 64 v2 ||| BitVec.ofInt 64 (IntKind.wrap .i64 ((IntKind.wrap .i64 (IntKind.wrap .u8 ((BitVec.ofInt 8 (List.getD v1 v3.toNat 0) &&& BitVec.ofInt 8 127).toNat)))*2 ^ (min ((IntKind.wrap .i64 (7*v3)).toNat) 64)))).toNat),IntKind.wrap .i64 (v3+1),IV.nil,()),())
    else none
   else none
  else
   some ((0,0,IV.mk 216 [],()),())
 else
  some ((0,0,IV.mk 216 [],()),())
noncomputable def Zfp (L1:Z82) (b_0:List Int):Option Qxp:=
 L1 b_0 0 0
noncomputable def Z2v (n:Nat):Nat→Z82:=iter (fun _ _ _=>none) fun L=>Z34 L
noncomputable def Z1r (n m:Nat) (v1:List Int) (v2 v3:Int):Option Qxp:=
 Qjv Zl9 tab (fiB [.val t25] Zdj) n [.val t25] [⟨t2,[false],none⟩,⟨t2,[false],none⟩,⟨t20,[false],none⟩] Tryz.f197 [1,0,0] [] [0,2,3] m
 ⟨[(0,Vp t25 v1),(2,Vp t2 v2),(3,Vp t2 v3)],[]⟩
theorem Zba (n:Nat):∀ m,Z1r n m=Z2v n m
 | 0=>rfl
 | m+1=>by rw [show Z1r n (m+1)=Z34 (Z1r n m) from by kernel_rfl,Zba n m];rfl
noncomputable def Zfn (n:Nat) (b_0:List Int):Option Qxp:=Zfp (Z2v n n) b_0
noncomputable def Zg5 (b_0:List Int):Option Qxp:=Zfn 1099511627776 b_0
noncomputable def Zl8:Ent:=⟨[.val t25],[⟨t2,[false],none⟩,⟨t2,[false],none⟩,⟨t20,[false],none⟩],fun x=>Zg5 x.1⟩
theorem Zgw:GD 197 Zl8:=fnl Zdj (fun n x=>Zfn n x.1) Qk3 Tryz.func197 fun n x=>Eq.trans (b:=Zfp (Z1r n n) x.1) (by kernel_rfl) (by rw [Zba n n];rfl)
noncomputable def Z7c (b_0:List Int):Option ((Int × Int × Bool × Unit) × Unit):=
 Option.bind (Zg5 b_0) fun r1=>
 some ((r1.1.1,r1.1.2.1,!(IV.is r1.1.2.2.1 216),()),())
noncomputable def Zle:Ent:=⟨[.val t25],[⟨t2,[false],none⟩,⟨t2,[false],none⟩,⟨t4,[false],none⟩],fun x=>Z7c x.1⟩
theorem Z9s:GD 176 Zle:=fnk 1 (fo [[0],[2,3,5],[2,3,7],[2,3,4]]) (Qjy Zgw Qk3) Tryz.func176
noncomputable def Qk8 (r_0:(List Int) × IV) (what_1:ByteArray):Option ((Int × Unit) × (Zm0 × Unit)):=
 bif !(IV.isNil r_0.2) then
  some ((0,()),(r_0,()))
 else
  Option.bind (Z7c r_0.1) fun r1=>
  bif !r1.1.2.2.1 then
   bif (decide (0≤r1.1.2.1)&&decide (r1.1.2.1≤(r_0.1.length:Int)))&&decide ((r_0.1.length:Int)≤(r_0.1.length:Int)) then
    some ((r1.1.1,()),((List.drop r1.1.2.1.toNat (List.take ((r_0.1.length:Int).toNat) r_0.1),IV.mk 134 [.str what_1]),()))
   else none
  else
  bif (decide (0≤r1.1.2.1)&&decide (r1.1.2.1≤(r_0.1.length:Int)))&&decide ((r_0.1.length:Int)≤(r_0.1.length:Int)) then
   some ((r1.1.1,()),((List.drop r1.1.2.1.toNat (List.take ((r_0.1.length:Int).toNat) r_0.1),r_0.2),()))
  else none
noncomputable def Z5q:Ent:=⟨[.box 131 Zp9 [false,false],.val t9],[⟨t2,[false],none⟩],fun x=>Qk8 x.1 x.2.1⟩
theorem Za9:GD 146 Z5q:=fnk 1 (fo [[0,1],[0,1,12],[0,4],[0,1,5,6,7],[0,1,5,6,23],[0,5,6],[0,5],[0,4]]) (Qjy Z9s Qk3) Tryz.func146
noncomputable def Z5k (b_0:List Int):Option ((ByteArray × Int × Bool × Unit) × Unit):=
 Option.bind (Z7c b_0) fun r1=>
 bif !r1.1.2.2.1 then
  some (((⟨#[]⟩:ByteArray),0,false,()),())
 else
 bif decide (r1.1.1>IntKind.wrap .i64 ((b_0.length:Int) - r1.1.2.1)) then
  some (((⟨#[]⟩:ByteArray),0,false,()),())
 else
 bif (decide (0≤r1.1.2.1)&&decide (r1.1.2.1≤IntKind.wrap .i64 (r1.1.2.1+r1.1.1)))&&decide (IntKind.wrap .i64 (r1.1.2.1+r1.1.1)≤(b_0.length:Int)) then
  some ((Q5g (List.drop r1.1.2.1.toNat (List.take ((IntKind.wrap .i64 (r1.1.2.1+r1.1.1)).toNat) b_0)),IntKind.wrap .i64 (r1.1.2.1+r1.1.1),true,()),())
 else none
noncomputable def Zfm:Ent:=⟨[.val t25],[⟨t9,[false],none⟩,⟨t2,[false],none⟩,⟨t4,[false],none⟩],fun x=>Z5k x.1⟩
theorem Zbp:GD 177 Zfm:=fnk 1 (fo [[0,15,16,17,18,19,20],[0,3,4,5,15,16,17,18,19,20],[0,3,5,21],[2,3,4],[2,3,4]]) (Qjy Z9s Qk3) Tryz.func177
noncomputable def Qmh (r_0:(List Int) × IV) (what_1:ByteArray):Option (Zpb × (Zm0 × Unit)):=
 bif !(IV.isNil r_0.2) then
  some (((⟨#[]⟩:ByteArray),()),(r_0,()))
 else
  Option.bind (Z5k r_0.1) fun r1=>
  bif !r1.1.2.2.1 then
   bif (decide (0≤r1.1.2.1)&&decide (r1.1.2.1≤(r_0.1.length:Int)))&&decide ((r_0.1.length:Int)≤(r_0.1.length:Int)) then
    some ((r1.1.1,()),((List.drop r1.1.2.1.toNat (List.take ((r_0.1.length:Int).toNat) r_0.1),IV.mk 134 [.str what_1]),()))
   else none
  else
  bif (decide (0≤r1.1.2.1)&&decide (r1.1.2.1≤(r_0.1.length:Int)))&&decide ((r_0.1.length:Int)≤(r_0.1.length:Int)) then
   some ((r1.1.1,()),((List.drop r1.1.2.1.toNat (List.take ((r_0.1.length:Int).toNat) r_0.1),r_0.2),()))
  else none
noncomputable def Z3m:Ent:=⟨[.box 131 Zp9 [false,false],.val t9],[⟨t9,[false],none⟩],fun x=>Qmh x.1 x.2.1⟩
theorem Z97:GD 147 Z3m:=fnk 1 (fo [[0,1],[0,1,12],[0,4],[0,1,5,6,7],[0,1,5,6,23],[0,5,6],[0,5],[0,4]]) (Qjy Zbp Qk3) Tryz.func147
abbrev Ql6:Type:=(Z59 × Unit) × (Zm0 × Unit)
noncomputable def Qyp:Ctx:=[(146,Z5q),(147,Z3m)]
def Qti:Fi:=fo [[0,2,34,35,36,37,38],[0,2,34,35,36,37,38],[0,2,34,35,36,37,38],[0,2,3,34,35,36,37,38],[0,2,3,25,34,35,36,37,38],[0,2,3,34,35,36,37,38],[0,2,3,34,35,36,37,38,39],[0,2,3,34,35,36,37,38],[0,2,3,34,35,36,37,38],[0,2],[0,2],[0,2]]
abbrev Qpa:Type:=Int→List Int→IV→Int→Int→Int→Int→Int→Int→Int→Int→ByteArray→List Int→Option Ql6
abbrev Z40:Type:=Int→Bool→List Int→IV→Int→Int→Int→Int→Int→Int→Int→Int→ByteArray→List Int→Option Ql6
noncomputable def Qpd (L1:Qpa) (v8:Int) (v9:List Int) (v10:IV) (v11 v12 v13 v14 v15 v16 v17 v18:Int) (v19:ByteArray) (v20:List Int):Option Ql6:=
 bif decide (v8>0) then
  bif IV.isNil v10 then
   Option.bind (Qk8 (v9,v10) (⟨#[115,116,101,112]⟩:ByteArray)) fun r21=>
   bif Nat.ble (v20.length+1) 1073741824 then
    L1 (IntKind.wrap .i64 (v8 - 1)) r21.2.1.1 r21.2.1.2 v11 v12 v13 v14 v15 v16 v17 v18 v19 (v20++[r21.1.1])
   else none
  else
   Option.bind (Qk8 (v9,v10) (⟨#[108,111]⟩:ByteArray)) fun r22=>
   Option.bind (Qk8 r22.2.1 (⟨#[104,105]⟩:ByteArray)) fun r23=>
   Option.bind (Qmh r23.2.1 (⟨#[116,101,120,116]⟩:ByteArray)) fun r24=>
   some (((v11,v12,v13,v14,v15,v16,v20,r22.1.1,r23.1.1,r24.1.1),()),(r24.2.1,()))
 else
  Option.bind (Qk8 (v9,v10) (⟨#[108,111]⟩:ByteArray)) fun r25=>
  Option.bind (Qk8 r25.2.1 (⟨#[104,105]⟩:ByteArray)) fun r26=>
  Option.bind (Qmh r26.2.1 (⟨#[116,101,120,116]⟩:ByteArray)) fun r27=>
  some (((v11,v12,v13,v14,v15,v16,v20,r25.1.1,r26.1.1,r27.1.1),()),(r27.2.1,()))
noncomputable def Z4g (L3:Qpa) (v28:Int) (v29:Bool) (v30:List Int) (v31:IV) (v32 v33 v34 v35 v36 v37 v38 v39:Int) (v40:ByteArray) (v41:List Int):Option Ql6:=
 bif decide (v28>0) then
  bif IV.isNil v31 then
   Option.bind (Qk8 (v30,v31) (⟨#[115,116,101,112]⟩:ByteArray)) fun r42=>
   bif Nat.ble (v41.length+1) 1073741824 then
    L3 (IntKind.wrap .i64 (v28 - 1)) r42.2.1.1 r42.2.1.2 v32 v33 v34 v35 v36 v37 v38 v39 v40 (v41++[r42.1.1])
   else none
  else
   Option.bind (Qk8 (v30,v31) (⟨#[108,111]⟩:ByteArray)) fun r63=>
   Option.bind (Qk8 r63.2.1 (⟨#[104,105]⟩:ByteArray)) fun r64=>
   Option.bind (Qmh r64.2.1 (⟨#[116,101,120,116]⟩:ByteArray)) fun r65=>
   some (((v32,v33,v34,v35,v36,v37,v41,r63.1.1,r64.1.1,r65.1.1),()),(r65.2.1,()))
 else
  Option.bind (Qk8 (v30,v31) (⟨#[108,111]⟩:ByteArray)) fun r66=>
  Option.bind (Qk8 r66.2.1 (⟨#[104,105]⟩:ByteArray)) fun r67=>
  Option.bind (Qmh r67.2.1 (⟨#[116,101,120,116]⟩:ByteArray)) fun r68=>
  some (((v32,v33,v34,v35,v36,v37,v41,r66.1.1,r67.1.1,r68.1.1),()),(r68.2.1,()))
noncomputable def Z4a (L3:Qpa) (v43:Int) (v44:List Int) (v45:IV) (v46 v47 v48 v49 v50 v51 v52 v53:Int) (v54:ByteArray) (v55:List Int):Option Ql6:=
 bif decide (v43>0) then
  bif IV.isNil v45 then
   Option.bind (Qk8 (v44,v45) (⟨#[115,116,101,112]⟩:ByteArray)) fun r56=>
   bif Nat.ble (v55.length+1) 1073741824 then
    L3 (IntKind.wrap .i64 (v43 - 1)) r56.2.1.1 r56.2.1.2 v46 v47 v48 v49 v50 v51 v52 v53 v54 (v55++[r56.1.1])
   else none
  else
   Option.bind (Qk8 (v44,v45) (⟨#[108,111]⟩:ByteArray)) fun r57=>
   Option.bind (Qk8 r57.2.1 (⟨#[104,105]⟩:ByteArray)) fun r58=>
   Option.bind (Qmh r58.2.1 (⟨#[116,101,120,116]⟩:ByteArray)) fun r59=>
   some (((v46,v47,v48,v49,v50,v51,v55,r57.1.1,r58.1.1,r59.1.1),()),(r59.2.1,()))
 else
  Option.bind (Qk8 (v44,v45) (⟨#[108,111]⟩:ByteArray)) fun r60=>
  Option.bind (Qk8 r60.2.1 (⟨#[104,105]⟩:ByteArray)) fun r61=>
  Option.bind (Qmh r61.2.1 (⟨#[116,101,120,116]⟩:ByteArray)) fun r62=>
  some (((v46,v47,v48,v49,v50,v51,v55,r60.1.1,r61.1.1,r62.1.1),()),(r62.2.1,()))
noncomputable def Quv (L1:Qpa) (L2:Z40) (r_0:(List Int) × IV):Option Ql6:=
 Option.bind (Qk8 r_0 (⟨#[107,105,110,100]⟩:ByteArray)) fun r1=>
 Option.bind (Qk8 r1.2.1 (⟨#[102,114,111,109]⟩:ByteArray)) fun r2=>
 Option.bind (Qk8 r2.2.1 (⟨#[116,111]⟩:ByteArray)) fun r3=>
 Option.bind (Qk8 r3.2.1 (⟨#[105,110,99]⟩:ByteArray)) fun r4=>
 Option.bind (Qk8 r4.2.1 (⟨#[101,112,111,99,104]⟩:ByteArray)) fun r5=>
 Option.bind (Qk8 r5.2.1 (⟨#[97,103,101]⟩:ByteArray)) fun r6=>
 Option.bind (Qk8 r6.2.1 (⟨#[119,97,121]⟩:ByteArray)) fun r7=>
 bif decide (r7.1.1>64) then
  L1 r7.1.1 r7.2.1.1 (IV.mk 134 [.str (⟨#[119,97,121]⟩:ByteArray)]) r1.1.1 r2.1.1 r3.1.1 r4.1.1 r5.1.1 r6.1.1 0 0 (⟨#[]⟩:ByteArray) []
 else
  L2 r7.1.1 (decide (r7.1.1>64)) r7.2.1.1 r7.2.1.2 r1.1.1 r2.1.1 r3.1.1 r4.1.1 r5.1.1 r6.1.1 0 0 (⟨#[]⟩:ByteArray) []
noncomputable def Qno (n:Nat):Nat→Qpa:=iter (fun _ _ _ _ _ _ _ _ _ _ _ _ _=>none) fun L=>Qpd L
noncomputable def Z4i (n:Nat):Nat→Qpa:=iter (fun _ _ _ _ _ _ _ _ _ _ _ _ _=>none) fun L=>Z4a L
noncomputable def Qtw (n:Nat):Nat→Z40:=Qjg (fun _ _ _ _ _ _ _ _ _ _ _ _ _ _=>none) fun m L=>Z4g (Z4i n m)
noncomputable def Qtv (n m:Nat) (v8:Int) (v9:List Int) (v10:IV) (v11 v12 v13 v14 v15 v16 v17 v18:Int) (v19:ByteArray) (v20:List Int):Option Ql6:=
 Qjv Qyp tab (fiB [.box 131 Zp9 [false,false]] Qti) n [.box 131 Zp9 [false,false]] [⟨t45,(nF 6++[true,false,false,false]),none⟩] Tryz.f86 [1,1,1,1,1,0,0] [] [0,2,3] m
 ⟨[(0,V1 (.ptr (0,0) 0)),(2,V1 (.ptr (2,0) 0)),(3,Vp t2 v8)],[((0,0),Ob.box 131 [LV.pure t25 v9,LV.pure t20 v10]),((2,0),Ob.box 46 [LV.pure t2 v11,LV.pure t2 v12,LV.pure t2 v13,LV.pure t2 v14,LV.pure t2 v15,LV.pure t2 v16,LV.ref (2,7),LV.pure t2 v17,LV.pure t2 v18,LV.pure t9 v19]),((2,7),Ob.row 3 t2 v20)]⟩
noncomputable def Qxl (n m:Nat) (v28:Int) (v29:Bool) (v30:List Int) (v31:IV) (v32 v33 v34 v35 v36 v37 v38 v39:Int) (v40:ByteArray) (v41:List Int):Option Ql6:=
 Qjv Qyp tab (fiB [.box 131 Zp9 [false,false]] Qti) n [.box 131 Zp9 [false,false]] [⟨t45,(nF 6++[true,false,false,false]),none⟩] Tryz.f86 [1,1,1,1,1,0,0] [] [0,2,3,25] m
 ⟨[(0,V1 (.ptr (0,0) 0)),(2,V1 (.ptr (2,0) 0)),(3,Vp t2 v28),(25,Vp t4 v29)],[((0,0),Ob.box 131 [LV.pure t25 v30,LV.pure t20 v31]),((2,0),Ob.box 46 [LV.pure t2 v32,LV.pure t2 v33,LV.pure t2 v34,LV.pure t2 v35,LV.pure t2 v36,LV.pure t2 v37,LV.ref (2,7),LV.pure t2 v38,LV.pure t2 v39,LV.pure t9 v40]),((2,7),Ob.row 3 t2 v41)]⟩
noncomputable def Qtq (n m:Nat) (v43:Int) (v44:List Int) (v45:IV) (v46 v47 v48 v49 v50 v51 v52 v53:Int) (v54:ByteArray) (v55:List Int):Option Ql6:=
 Qjv Qyp tab (fiB [.box 131 Zp9 [false,false]] Qti) n [.box 131 Zp9 [false,false]] [⟨t45,(nF 6++[true,false,false,false]),none⟩] Tryz.f86 [1,1,1,1,1,0,0] [] [0,2,3,25] m
 ⟨[(0,V1 (.ptr (0,0) 0)),(2,V1 (.ptr (2,0) 0)),(3,Vp t2 v43)],[((0,0),Ob.box 131 [LV.pure t25 v44,LV.pure t20 v45]),((2,0),Ob.box 46 [LV.pure t2 v46,LV.pure t2 v47,LV.pure t2 v48,LV.pure t2 v49,LV.pure t2 v50,LV.pure t2 v51,LV.ref (2,7),LV.pure t2 v52,LV.pure t2 v53,LV.pure t9 v54]),((2,7),Ob.row 3 t2 v55)]⟩
theorem Z1u (n:Nat):∀ m,Qtv n m=Qno n m
 | 0=>rfl
 | m+1=>by rw [show Qtv n (m+1)=Qpd (Qtv n m) from by kernel_rfl,Z1u n m];rfl
theorem Z22 (n:Nat):∀ m,Qtq n m=Z4i n m
 | 0=>rfl
 | m+1=>by rw [show Qtq n (m+1)=Z4a (Qtq n m) from by kernel_rfl,Z22 n m];rfl
theorem Zat (n:Nat):∀ m,Qxl n m=Qtw n m
 | 0=>rfl
 | m+1=>by rw [show Qxl n (m+1)=Z4g (Qtq n m) from by kernel_rfl,Z22 n m];rfl
noncomputable def Z5y (n:Nat) (r_0:(List Int) × IV):Option Ql6:=Quv (Qno n n) (Qtw n n) r_0
noncomputable def Z3e (r_0:(List Int) × IV):Option Ql6:=Z5y 1099511627776 r_0
noncomputable def Z5v:Ent:=⟨[.box 131 Zp9 [false,false]],[⟨t45,(nF 6++[true,false,false,false]),none⟩],fun x=>Z3e x.1⟩
theorem Za2:GD 86 Z5v:=fnl Qti (fun n x=>Z5y n x.1) (Qjy Za9 (Qjy Z97 Qk3)) Tryz.func86 fun n x=>Eq.trans (b:=Quv (Qtv n n) (Qxl n n) x.1) (by kernel_rfl) (by rw [Z1u n n,Zat n n];rfl)
abbrev Qmc:Type:=(Int × Unit) × Unit
noncomputable def Z69:Ctx:=[]
def Qvq:Fi:=fo [[0,1],[0,1,7,8],[0,1,7,8,9],[0,1,5,7,8],[0,1,5,7,8,16],[4],[0,1,7,8],[4]]
abbrev Qrs:Type:=List Int→(Int × Unit→Option (Bool × Unit))→Int→Int→Option Qmc
noncomputable def Qm4 (L1:Qrs) (v1:List Int) (v2:(Int × Unit→Option (Bool × Unit))) (v3 v4:Int):Option Qmc:=
 bif decide (v4<v3) then
  bif decide (0≤v4)&&decide (v4<(v1.length:Int)) then
   Option.bind (v2 (List.getD v1 v4.toNat 0,())) fun r5=>
   bif r5.1 then
    some ((v4,()),())
   else
    L1 v1 v2 v3 (IntKind.wrap .i64 (v4+1))
  else none
 else
  some (((-1),()),())
noncomputable def Qwu (L1:Qrs) (s_0:List Int) (f_1:(Int × Unit→Option (Bool × Unit))):Option Qmc:=
 L1 s_0 f_1 (s_0.length:Int) 0
noncomputable def Ql3 (n:Nat):Nat→Qrs:=iter (fun _ _ _ _=>none) fun L=>Qm4 L
noncomputable def Qou (n m:Nat) (v1:List Int) (v2:(Int × Unit→Option (Bool × Unit))) (v3 v4:Int):Option Qmc:=
 Qjv Z69 tab (fiB [.val t28,.fn [t2] [t4]] Qvq) n [.val t28,.fn [t2] [t4]] [⟨t2,[false],none⟩] Tryz.f208 [1,0,1,0] [] [0,1,7,8] m
 ⟨[(0,Vp t28 v1),(1,V1 (.clo [t2] [t4] v2)),(7,Vp t2 v3),(8,Vp t2 v4)],[]⟩
theorem Qvp (n:Nat):∀ m,Qou n m=Ql3 n m
 | 0=>rfl
 | m+1=>by rw [show Qou n (m+1)=Qm4 (Qou n m) from by kernel_rfl,Qvp n m];rfl
noncomputable def Qxe (n:Nat) (s_0:List Int) (f_1:(Int × Unit→Option (Bool × Unit))):Option Qmc:=Qwu (Ql3 n n) s_0 f_1
noncomputable def Qu7 (s_0:List Int) (f_1:(Int × Unit→Option (Bool × Unit))):Option Qmc:=Qxe 1099511627776 s_0 f_1
noncomputable def Z6h:Ent:=⟨[.val t28,.fn [t2] [t4]],[⟨t2,[false],none⟩],fun x=>Qu7 x.1 x.2.1⟩
theorem Z3j:GD 208 Z6h:=fnl Qvq (fun n x=>Qxe n x.1 x.2.1) Qk3 Tryz.func208 fun n x=>Eq.trans (b:=Qwu (Qou n n) x.1 x.2.1) (by kernel_rfl) (by rw [Qvp n n];rfl)
noncomputable def Qow (s_0:List Int) (f_1:(Int × Unit→Option (Bool × Unit))):Option ((Bool × Unit) × Unit):=
 Option.bind (Qu7 s_0 f_1) fun r1=>
 some ((decide (r1.1.1 ≥ 0),()),())
noncomputable def Z3c:Ent:=⟨[.val t28,.fn [t2] [t4]],[⟨t4,[false],none⟩],fun x=>Qow x.1 x.2.1⟩
theorem Qzv:GD 198 Z3c:=fnk 1 (fo [[0,1],[4]]) (Qjy Z3j Qk3) Tryz.func198
noncomputable def Z87 (v_0 x_1 x_2:Int):Option ((Bool × Unit) × Unit):=
 bif decide (v_0<x_1) then
  some ((true,()),())
 else
  some ((decide (v_0>x_2),()),())
noncomputable def Zgo:Ent:=⟨[.val t2,.rbox t2,.rbox t2],[⟨t4,[false],none⟩],fun x=>Z87 x.1 x.2.1 x.2.2.1⟩
theorem Zd1:GD 199 Zgo:=fnk 1 (fo [[0,1,2,9,10,11],[4]]) Qk3 Tryz.func199
noncomputable def Qod (lo_0 hi_1:Int) (l_2:List Int):Option ((Bool × Unit) × Unit):=
 Option.bind (Qow l_2 (fun x=>(Z87 x.1 lo_0 hi_1).bind fun r=>some (r.1.1,()))) fun r1=>
 some ((!r1.1.1,()),())
noncomputable def Zmv:Ent:=⟨[.val t2,.val t2,.val t28],[⟨t4,[false],none⟩],fun x=>Qod x.1 x.2.1 x.2.2.1⟩
theorem Zc6:GD 178 Zmv:=fnk 1 (fo [[2,3,4],[6]]) (Qjy Qzv (Qjy Zd1 Qk3)) Tryz.func178
noncomputable def Zim (m_0:Int × Int × Int × Int × Int × Int × (List Int) × Int × Int × ByteArray):Option ((Z59 × Unit) × Unit):=
 some (((m_0.1,m_0.2.1,m_0.2.2.1,m_0.2.2.2.1,0,0,[],0,0,(⟨#[]⟩:ByteArray)),()),())
noncomputable def Zn4:Ent:=⟨[.val t45],[⟨t45,(nF 6++[true,false,false,false]),none⟩],fun x=>Zim x.1⟩
theorem Zik:GD 200 Zn4:=fnk 1 (fo [[1,2],[2]]) Qk3 Tryz.func200
abbrev Qo0:Type:=(Int × Unit) × Unit
noncomputable def Zcf:Ctx:=[]
def Z0n:Fi:=fo [[0,1],[0,1,7,8],[0,1,7,8,9],[0,1,5,7,8],[0,1,5,7,8,16],[4],[0,1,7,8],[4]]
abbrev Qv7:Type:=List Int→Int→Int→Int→Option Qo0
noncomputable def Qnn (L1:Qv7) (v1:List Int) (v2 v3 v4:Int):Option Qo0:=
 bif decide (v4<v3) then
  bif decide (0≤v4)&&decide (v4<(v1.length:Int)) then
   bif v2==(List.getD v1 v4.toNat 0) then
    some ((v4,()),())
   else
    L1 v1 v2 v3 (IntKind.wrap .i64 (v4+1))
  else none
 else
  some (((-1),()),())
noncomputable def Z2z (L1:Qv7) (s_0:List Int) (v_1:Int):Option Qo0:=
 L1 s_0 v_1 (s_0.length:Int) 0
noncomputable def Qmj (n:Nat):Nat→Qv7:=iter (fun _ _ _ _=>none) fun L=>Qnn L
noncomputable def Qsb (n m:Nat) (v1:List Int) (v2 v3 v4:Int):Option Qo0:=
 Qjv Zcf tab (fiB [.val t28,.val t2] Z0n) n [.val t28,.val t2] [⟨t2,[false],none⟩] Tryz.f210 [1,0,1,0] [] [0,1,7,8] m
 ⟨[(0,Vp t28 v1),(1,Vp t2 v2),(7,Vp t2 v3),(8,Vp t2 v4)],[]⟩
theorem Qzk (n:Nat):∀ m,Qsb n m=Qmj n m
 | 0=>rfl
 | m+1=>by rw [show Qsb n (m+1)=Qnn (Qsb n m) from by kernel_rfl,Qzk n m];rfl
noncomputable def Z2j (n:Nat) (s_0:List Int) (v_1:Int):Option Qo0:=Z2z (Qmj n n) s_0 v_1
noncomputable def Qyr (s_0:List Int) (v_1:Int):Option Qo0:=Z2j 1099511627776 s_0 v_1
noncomputable def Zbh:Ent:=⟨[.val t28,.val t2],[⟨t2,[false],none⟩],fun x=>Qyr x.1 x.2.1⟩
theorem Z85:GD 210 Zbh:=fnl Z0n (fun n x=>Z2j n x.1 x.2.1) Qk3 Tryz.func210 fun n x=>Eq.trans (b:=Z2z (Qsb n n) x.1 x.2.1) (by kernel_rfl) (by rw [Qzk n n];rfl)
noncomputable def Qpk (s_0:List Int) (v_1:Int):Option ((Bool × Unit) × Unit):=
 Option.bind (Qyr s_0 v_1) fun r1=>
 some ((decide (r1.1.1 ≥ 0),()),())
noncomputable def Qyd:Ent:=⟨[.val t28,.val t2],[⟨t4,[false],none⟩],fun x=>Qpk x.1 x.2.1⟩
theorem Qvd:GD 202 Qyd:=fnk 1 (fo [[0,1],[4]]) (Qjy Z85 Qk3) Tryz.func202
abbrev Qxq:Type:=(IV × Unit) × Unit
noncomputable def Zks:Ctx:=[(202,Qyd)]
def Ze6:Fi:=fo [[0,9,10,11,14,15,16,17,31,32,35,36,37,38,39],[0,18,31,32,35,36,37,38,39],[2],[0,21,22,23,31,32,35,36,37,38,39],[0,21,22,23,24,31,32,35,36,37,38,39],[0,3,4,21,22,23,31,32,35,36,37,38,39],[0,3,21,22,23,31,32,35,36,37,38,39,40],[2],[0,21,22,23,31,32,35,36,37,38,39],[2]]
abbrev Z7g:Type:=List Int→List Int→Int→Int→Option Qxq
noncomputable def Qvb (L1:Z7g) (v1 v2:List Int) (v3 v4:Int):Option Qxq:=
 bif decide (v4<v3) then
  bif decide (0≤v4)&&decide (v4<(v2.length:Int)) then
   bif decide (List.getD v2 v4.toNat 0<1) then
    some ((IV.mk 222 [.int .i64 v4],()),())
   else
   bif decide (List.getD v2 v4.toNat 0>8) then
    some ((IV.mk 222 [.int .i64 v4],()),())
   else
   bif decide (0≤v4)&&decide (v4≤(v1.length:Int)) then
    Option.bind (Qpk (List.drop 0 (List.take v4.toNat v1)) (List.getD v2 v4.toNat 0)) fun r5=>
    bif r5.1.1 then
     some ((IV.mk 222 [.int .i64 v4],()),())
    else
     L1 v1 v2 v3 (IntKind.wrap .i64 (v4+1))
   else none
  else none
 else
  some ((IV.nil,()),())
noncomputable def Z51 (L1:Z7g) (p_0:List Int):Option Qxq:=
 bif decide ((p_0.length:Int)<1) then
  some ((IV.mk 222 [.int .i64 0],()),())
 else
 bif decide ((p_0.length:Int)>10) then
  some ((IV.mk 222 [.int .i64 0],()),())
 else
 bif decide (0<(p_0.length:Int)) then
  bif (List.getD p_0 0 0) != 1 then
   some ((IV.mk 222 [.int .i64 0],()),())
  else
   L1 p_0 p_0 (p_0.length:Int) 0
 else none
noncomputable def Qri (n:Nat):Nat→Z7g:=iter (fun _ _ _ _=>none) fun L=>Qvb L
noncomputable def Z2e (n m:Nat) (v1 v2:List Int) (v3 v4:Int):Option Qxq:=
 Qjv Zks tab (fiB [.val t28] Ze6) n [.val t28] [⟨t20,[false],none⟩] Tryz.f204 [1,1,0,1,0] [] [0,21,22,23] m
 ⟨[(0,Vp t28 v1),(21,Vp t28 v2),(22,Vp t2 v3),(23,Vp t2 v4)],[]⟩
theorem Zcd (n:Nat):∀ m,Z2e n m=Qri n m
 | 0=>rfl
 | m+1=>by rw [show Z2e n (m+1)=Qvb (Z2e n m) from by kernel_rfl,Zcd n m];rfl
noncomputable def Zfh (n:Nat) (p_0:List Int):Option Qxq:=Z51 (Qri n n) p_0
noncomputable def Zg9 (p_0:List Int):Option Qxq:=Zfh 1099511627776 p_0
noncomputable def Zlv:Ent:=⟨[.val t28],[⟨t20,[false],none⟩],fun x=>Zg9 x.1⟩
theorem Zh2:GD 204 Zlv:=fnl Ze6 (fun n x=>Zfh n x.1) (Qjy Qvd Qk3) Tryz.func204 fun n x=>Eq.trans (b:=Z51 (Z2e n n) x.1) (by kernel_rfl) (by rw [Zcd n n];rfl)
noncomputable def Qzu (p_0:List Int):Option ((Bool × Unit) × Unit):=
 Option.bind (Zg9 p_0) fun r1=>
 some ((!(IV.is r1.1.1 222),()),())
noncomputable def Znn:Ent:=⟨[.val t28],[⟨t4,[false],none⟩],fun x=>Qzu x.1⟩
theorem Zbu:GD 183 Znn:=fnk 1 (fo [[0],[4],[2]]) (Qjy Zh2 Qk3) Tryz.func183
abbrev Qo6:Type:=(Bool × Unit) × Unit
noncomputable def Zb6:Ctx:=[]
def Z1c:Fi:=fo [[0,1],[0,1,10],[4],[0,1,12,13],[0,1,12,13,14],[0,1,5,12,13],[0,1,12,13,24],[4],[0,1,12,13],[4]]
abbrev Quz:Type:=List Int→List Int→Int→Int→Option Qo6
noncomputable def Qns (L1:Quz) (v1 v2:List Int) (v3 v4:Int):Option Qo6:=
 bif decide (v4<v3) then
  bif decide (0≤v4)&&decide (v4<(v1.length:Int)) then
   bif decide (0≤v4)&&decide (v4<(v2.length:Int)) then
    bif (List.getD v1 v4.toNat 0) != (List.getD v2 v4.toNat 0) then
     some ((false,()),())
    else
     L1 v1 v2 v3 (IntKind.wrap .i64 (v4+1))
   else none
  else none
 else
  some ((true,()),())
noncomputable def Qst (L1:Quz) (s1_0 s2_1:List Int):Option Qo6:=
 bif (s1_0.length:Int) != (s2_1.length:Int) then
  some ((false,()),())
 else
  L1 s1_0 s2_1 (s1_0.length:Int) 0
noncomputable def Qnj (n:Nat):Nat→Quz:=iter (fun _ _ _ _=>none) fun L=>Qns L
noncomputable def Qs2 (n m:Nat) (v1 v2:List Int) (v3 v4:Int):Option Qo6:=
 Qjv Zb6 tab (fiB [.val t28,.val t28] Z1c) n [.val t28,.val t28] [⟨t4,[false],none⟩] Tryz.f209 [1,1,0,1,0] [] [0,1,12,13] m
 ⟨[(0,Vp t28 v1),(1,Vp t28 v2),(12,Vp t2 v3),(13,Vp t2 v4)],[]⟩
theorem Qza (n:Nat):∀ m,Qs2 n m=Qnj n m
 | 0=>rfl
 | m+1=>by rw [show Qs2 n (m+1)=Qns (Qs2 n m) from by kernel_rfl,Qza n m];rfl
noncomputable def Z1x (n:Nat) (s1_0 s2_1:List Int):Option Qo6:=Qst (Qnj n n) s1_0 s2_1
noncomputable def Qys (s1_0 s2_1:List Int):Option Qo6:=Z1x 1099511627776 s1_0 s2_1
noncomputable def Zce:Ent:=⟨[.val t28,.val t28],[⟨t4,[false],none⟩],fun x=>Qys x.1 x.2.1⟩
theorem Z6z:GD 209 Zce:=fnl Z1c (fun n x=>Z1x n x.1 x.2.1) Qk3 Tryz.func209 fun n x=>Eq.trans (b:=Qst (Qs2 n n) x.1 x.2.1) (by kernel_rfl) (by rw [Qza n n];rfl)
noncomputable def Qps (a_0 b_1:Int × Int × Int × Int × Int × Int × (List Int) × Int × Int × ByteArray):Option ((Bool × Unit) × Unit):=
 bif a_0.1==b_1.1 then
  bif a_0.2.1==b_1.2.1 then
   bif a_0.2.2.1==b_1.2.2.1 then
    bif a_0.2.2.2.1==b_1.2.2.2.1 then
     bif a_0.2.2.2.2.1==b_1.2.2.2.2.1 then
      bif a_0.2.2.2.2.2.1==b_1.2.2.2.2.2.1 then
       Option.bind (Qys a_0.2.2.2.2.2.2.1 b_1.2.2.2.2.2.2.1) fun r1=>
       bif r1.1.1 then
        bif a_0.2.2.2.2.2.2.2.1==b_1.2.2.2.2.2.2.2.1 then
         bif a_0.2.2.2.2.2.2.2.2.1==b_1.2.2.2.2.2.2.2.2.1 then
          some ((Qeq a_0.2.2.2.2.2.2.2.2.2 b_1.2.2.2.2.2.2.2.2.2,()),())
         else
          some ((false,()),())
        else
         some ((false,()),())
       else
        some ((false,()),())
      else
       some ((false,()),())
     else
      some ((false,()),())
    else
     some ((false,()),())
   else
    some ((false,()),())
  else
   some ((false,()),())
 else
  some ((false,()),())
noncomputable def Znj:Ent:=⟨[.val t45,.val t45],[⟨t4,[false],none⟩],fun x=>Qps x.1 x.2.1⟩
theorem Zi6:GD 201 Znj:=fnk 1 (fo [[2,3,11,12,13,14,15,18,19,20,21,22,25,26,27,28,29,32,33,34,35,36,39,40,41,42,43,46,47,48,49,50,53,54,55,56,57,60,61,62,63,64,67,68,69,70,71],[4]]) (Qjy Z6z Qk3) Tryz.func201
noncomputable def Z8b (m_0:Int × Int × Int × Int × Int × Int × (List Int) × Int × Int × ByteArray):Option ((Bool × Unit) × Unit):=
 Option.bind (Zim m_0) fun r1=>
 bif m_0.1==2 then
  bif m_0.1==2 then
   bif m_0.1==2 then
    Option.bind (Qod 0 1073741824 [m_0.2.2.2.2.1,m_0.2.2.2.2.2.1]) fun r2=>
    bif r2.1.1 then
     Option.bind (Qzu m_0.2.2.2.2.2.2.1) fun r3=>
     bif r3.1.1 then
      Option.bind (Qod 0 1000000 [m_0.2.2.2.2.2.2.2.1,r1.1.1.2.2.2.2.2.2.2.2.1]) fun r4=>
      bif r4.1.1 then
       Option.bind (Qps m_0 (r1.1.1.1,r1.1.1.2.1,r1.1.1.2.2.1,r1.1.1.2.2.2.1,m_0.2.2.2.2.1,m_0.2.2.2.2.2.1,m_0.2.2.2.2.2.2.1,m_0.2.2.2.2.2.2.2.1,r1.1.1.2.2.2.2.2.2.2.2)) fun r5=>
       some ((r5.1.1,()),())
      else
       some ((false,()),())
     else
      some ((false,()),())
    else
     some ((false,()),())
   else
    Option.bind (Qod 0 1073741824 [m_0.2.2.2.2.1,m_0.2.2.2.2.2.1]) fun r6=>
    bif r6.1.1 then
     Option.bind (Qzu m_0.2.2.2.2.2.2.1) fun r7=>
     bif r7.1.1 then
      Option.bind (Qod 0 1000000 [r1.1.1.2.2.2.2.2.2.2.1,m_0.2.2.2.2.2.2.2.2.1]) fun r8=>
      bif r8.1.1 then
       Option.bind (Qps m_0 (r1.1.1.1,r1.1.1.2.1,r1.1.1.2.2.1,r1.1.1.2.2.2.1,m_0.2.2.2.2.1,m_0.2.2.2.2.2.1,m_0.2.2.2.2.2.2.1,r1.1.1.2.2.2.2.2.2.2.1,m_0.2.2.2.2.2.2.2.2.1,r1.1.1.2.2.2.2.2.2.2.2.2)) fun r9=>
       some ((r9.1.1,()),())
      else
       some ((false,()),())
     else
      some ((false,()),())
    else
     some ((false,()),())
  else
  bif m_0.1==7 then
   Option.bind (Qod 1 1000000 [m_0.2.2.2.2.2.2.2.1]) fun r10=>
   bif r10.1.1 then
    bif decide ((m_0.2.2.2.2.2.2.2.2.2.size:Int)≤12) then
     Option.bind (Qps m_0 (r1.1.1.1,r1.1.1.2.1,r1.1.1.2.2.1,r1.1.1.2.2.2.1,r1.1.1.2.2.2.2.1,r1.1.1.2.2.2.2.2.1,r1.1.1.2.2.2.2.2.2.1,m_0.2.2.2.2.2.2.2.1,r1.1.1.2.2.2.2.2.2.2.2.1,m_0.2.2.2.2.2.2.2.2.2)) fun r11=>
     some ((r11.1.1,()),())
    else
     some ((false,()),())
   else
    some ((false,()),())
  else
  bif m_0.1==8 then
   bif m_0.1==8 then
    bif decide (m_0.2.2.2.2.2.2.2.1≤m_0.2.2.2.2.2.2.2.2.1) then
     Option.bind (Qod 1 1000000 [m_0.2.2.2.2.2.2.2.1,m_0.2.2.2.2.2.2.2.2.1]) fun r12=>
     bif r12.1.1 then
      Option.bind (Qps m_0 (r1.1.1.1,r1.1.1.2.1,r1.1.1.2.2.1,r1.1.1.2.2.2.1,r1.1.1.2.2.2.2.1,r1.1.1.2.2.2.2.2.1,r1.1.1.2.2.2.2.2.2.1,m_0.2.2.2.2.2.2.2.1,m_0.2.2.2.2.2.2.2.2.1,r1.1.1.2.2.2.2.2.2.2.2.2)) fun r13=>
      some ((r13.1.1,()),())
     else
      some ((false,()),())
    else
     some ((false,()),())
   else
    Option.bind (Qps m_0 r1.1.1) fun r14=>
    some ((r14.1.1,()),())
  else
  bif m_0.1==9 then
   bif decide (m_0.2.2.2.2.2.2.2.1≤m_0.2.2.2.2.2.2.2.2.1) then
    Option.bind (Qod 1 1000000 [m_0.2.2.2.2.2.2.2.1,m_0.2.2.2.2.2.2.2.2.1]) fun r15=>
    bif r15.1.1 then
     Option.bind (Qps m_0 (r1.1.1.1,r1.1.1.2.1,r1.1.1.2.2.1,r1.1.1.2.2.2.1,r1.1.1.2.2.2.2.1,r1.1.1.2.2.2.2.2.1,r1.1.1.2.2.2.2.2.2.1,m_0.2.2.2.2.2.2.2.1,m_0.2.2.2.2.2.2.2.2.1,r1.1.1.2.2.2.2.2.2.2.2.2)) fun r16=>
     some ((r16.1.1,()),())
    else
     some ((false,()),())
   else
    some ((false,()),())
  else
   Option.bind (Qps m_0 r1.1.1) fun r17=>
   some ((r17.1.1,()),())
 else
 bif m_0.1==5 then
  bif m_0.1==2 then
   Option.bind (Qod 0 1073741824 [m_0.2.2.2.2.1,m_0.2.2.2.2.2.1]) fun r18=>
   bif r18.1.1 then
    Option.bind (Qzu m_0.2.2.2.2.2.2.1) fun r19=>
    bif r19.1.1 then
     Option.bind (Qod 0 1000000 [m_0.2.2.2.2.2.2.2.1,r1.1.1.2.2.2.2.2.2.2.2.1]) fun r20=>
     bif r20.1.1 then
      Option.bind (Qps m_0 (r1.1.1.1,r1.1.1.2.1,r1.1.1.2.2.1,r1.1.1.2.2.2.1,m_0.2.2.2.2.1,m_0.2.2.2.2.2.1,m_0.2.2.2.2.2.2.1,m_0.2.2.2.2.2.2.2.1,r1.1.1.2.2.2.2.2.2.2.2)) fun r21=>
      some ((r21.1.1,()),())
     else
      some ((false,()),())
    else
     some ((false,()),())
   else
    some ((false,()),())
  else
   Option.bind (Qod 0 1073741824 [m_0.2.2.2.2.1,m_0.2.2.2.2.2.1]) fun r22=>
   bif r22.1.1 then
    Option.bind (Qzu m_0.2.2.2.2.2.2.1) fun r23=>
    bif r23.1.1 then
     Option.bind (Qod 0 1000000 [r1.1.1.2.2.2.2.2.2.2.1,m_0.2.2.2.2.2.2.2.2.1]) fun r24=>
     bif r24.1.1 then
      Option.bind (Qps m_0 (r1.1.1.1,r1.1.1.2.1,r1.1.1.2.2.1,r1.1.1.2.2.2.1,m_0.2.2.2.2.1,m_0.2.2.2.2.2.1,m_0.2.2.2.2.2.2.1,r1.1.1.2.2.2.2.2.2.2.1,m_0.2.2.2.2.2.2.2.2.1,r1.1.1.2.2.2.2.2.2.2.2.2)) fun r25=>
      some ((r25.1.1,()),())
     else
      some ((false,()),())
    else
     some ((false,()),())
   else
    some ((false,()),())
 else
 bif m_0.1==7 then
  Option.bind (Qod 1 1000000 [m_0.2.2.2.2.2.2.2.1]) fun r26=>
  bif r26.1.1 then
   bif decide ((m_0.2.2.2.2.2.2.2.2.2.size:Int)≤12) then
    Option.bind (Qps m_0 (r1.1.1.1,r1.1.1.2.1,r1.1.1.2.2.1,r1.1.1.2.2.2.1,r1.1.1.2.2.2.2.1,r1.1.1.2.2.2.2.2.1,r1.1.1.2.2.2.2.2.2.1,m_0.2.2.2.2.2.2.2.1,r1.1.1.2.2.2.2.2.2.2.2.1,m_0.2.2.2.2.2.2.2.2.2)) fun r27=>
    some ((r27.1.1,()),())
   else
    some ((false,()),())
  else
   some ((false,()),())
 else
 bif m_0.1==8 then
  bif m_0.1==8 then
   bif decide (m_0.2.2.2.2.2.2.2.1≤m_0.2.2.2.2.2.2.2.2.1) then
    Option.bind (Qod 1 1000000 [m_0.2.2.2.2.2.2.2.1,m_0.2.2.2.2.2.2.2.2.1]) fun r28=>
    bif r28.1.1 then
     Option.bind (Qps m_0 (r1.1.1.1,r1.1.1.2.1,r1.1.1.2.2.1,r1.1.1.2.2.2.1,r1.1.1.2.2.2.2.1,r1.1.1.2.2.2.2.2.1,r1.1.1.2.2.2.2.2.2.1,m_0.2.2.2.2.2.2.2.1,m_0.2.2.2.2.2.2.2.2.1,r1.1.1.2.2.2.2.2.2.2.2.2)) fun r29=>
     some ((r29.1.1,()),())
    else
     some ((false,()),())
   else
    some ((false,()),())
  else
   Option.bind (Qps m_0 r1.1.1) fun r30=>
   some ((r30.1.1,()),())
 else
 bif m_0.1==9 then
  bif decide (m_0.2.2.2.2.2.2.2.1≤m_0.2.2.2.2.2.2.2.2.1) then
   Option.bind (Qod 1 1000000 [m_0.2.2.2.2.2.2.2.1,m_0.2.2.2.2.2.2.2.2.1]) fun r31=>
   bif r31.1.1 then
    Option.bind (Qps m_0 (r1.1.1.1,r1.1.1.2.1,r1.1.1.2.2.1,r1.1.1.2.2.2.1,r1.1.1.2.2.2.2.1,r1.1.1.2.2.2.2.2.1,r1.1.1.2.2.2.2.2.2.1,m_0.2.2.2.2.2.2.2.1,m_0.2.2.2.2.2.2.2.2.1,r1.1.1.2.2.2.2.2.2.2.2.2)) fun r32=>
    some ((r32.1.1,()),())
   else
    some ((false,()),())
  else
   some ((false,()),())
 else
  Option.bind (Qps m_0 r1.1.1) fun r33=>
  some ((r33.1.1,()),())
noncomputable def Zjb:Ent:=⟨[.val t45],[⟨t4,[false],none⟩],fun x=>Z8b x.1⟩
theorem Zgn:GD 179 Zjb:=fnk 1 (fo [[1,36,37,38,41,42,43,44,45,46,49,50,51,66,67,68,69,72,73,74,91,92,93,94,95,96,99,100,101],[1,3,36,37,38,41,42,43,44,45,46,49,50,51,66,67,68,69,72,73,74,91,92,93,94,95,96,99,100,101],[1,3,7,36,37,38,41,42,43,44,45,46,49,50,51,66,67,68,69,72,73,74,91,92,93,94,95,96,99,100,101],[1,3,7,8,36,37,38,41,42,43,44,45,46,49,50,51,66,67,68,69,72,73,74,91,92,93,94,95,96,99,100,101],[1,3,7,8,36,37,38,41,42,43,44,45,46,49,50,51,66,67,68,69,72,73,74,91,92,93,94,95,96,99,100,101],[1,3,36,37,38,41,42,43,44,45,46,49,50,51],[1,3,22,36,37,38,41,42,43,44,45,46,49,50,51],[1,3,36,37,38,41,42,43,44,45,46,49,50,51],[1,3,36,37,38,41,42,43,44,45,46,49,50,51],[2],[1,3,7,53,66,67,68,69,72,73,74,91,92,93,94,95,96,99,100,101],[1,3,66,67,68,69,72,73,74],[2],[1,3,7,76,91,92,93,94,95,96,99,100,101],[1,3,76,91,92,93,94,95,96,99,100,101],[1,3,91,92,93,94,95,96,99,100,101],[2],[2]]) (Qjy Zc6 (Qjy Zbu (Qjy Zik (Qjy Zi6 Qk3)))) Tryz.func179
noncomputable def Zj1 (m_0:Int × Int × Int × Int × Int × Int × (List Int) × Int × Int × ByteArray):Option ((Bool × Unit) × Unit):=
 Option.bind (Qod 1 9 [m_0.1]) fun r1=>
 bif r1.1.1 then
  Option.bind (Qod 1 8 [m_0.2.1,m_0.2.2.1]) fun r2=>
  bif r2.1.1 then
   bif m_0.2.1 != m_0.2.2.1 then
    Option.bind (Qod 1 1073741824 [m_0.2.2.2.1]) fun r3=>
    bif r3.1.1 then
     Option.bind (Z8b m_0) fun r4=>
     some ((r4.1.1,()),())
    else
     some ((false,()),())
   else
    some ((false,()),())
  else
   some ((false,()),())
 else
  some ((false,()),())
noncomputable def Zkl:Ent:=⟨[.val t45],[⟨t4,[false],none⟩],fun x=>Zj1 x.1⟩
theorem Zj9:GD 148 Zkl:=fnk 1 (fo [[1,8,9,10,11,12,13,16,17,18,19,20,23,24,25,26,29,30],[2]]) (Qjy Zc6 (Qjy Zgn Qk3)) Tryz.func148
noncomputable def Qtz (s:List Int):Option (((List Int) × Unit) × Unit):=bif Nat.ble s.length 1073741824 then some ((s,()),()) else none
theorem Z6w (s:List Int):Qde [] tab (Qk4 Tryz.f180 []) 1 [.val t25] [⟨t25,[true],none⟩] Tryz.f180 (s,())=bif !(List.isEmpty s) then bif Nat.ble (0+s.length) 1073741824 then some (([]++s,()),()) else none
 else Q3f (some (([],()),())) (bif Nat.ble (0+s.length) 1073741824 then some (([]++s,()),()) else none):=by kernel_rfl
theorem Z96 (s:List Int):Qde [] tab (Qk4 Tryz.f180 []) 1 [.val t25] [⟨t25,[true],none⟩] Tryz.f180 (s,())=Qtz s:=by
  rw [Z6w]
  cases s with
  | nil=>exact Qcu _
  | cons x q=>rw [Nat.zero_add];rfl
noncomputable def Z0q:Ent:=⟨[.val t25],[⟨t25,[true],none⟩],fun x=>Qtz x.1⟩
theorem Z6i:Q4u tab.ty Tryz.prog 180 Z0q:=by
  refine Qjk (Γ:=[]) (fi:=Qk4 Tryz.f180 []) (n:=1) follows Qk3 Zff Tryz.func180 (by kernel_rfl) (by kernel_rfl) (fun x r h=>?_)
  obtain ⟨s,_u⟩:=x
  exact (Z96 s).trans h
abbrev Z07:Type:=((List Int) × Unit) × Unit
noncomputable def Zno:Ctx:=[(180,Z0q)]
def Zfd:Fi:=fo [[0,1],[0,1],[0,5],[0,5,11],[0,5],[0,5],[4]]
abbrev Za1:Type:=Int→List Int→Option Z07
noncomputable def Z4y (L1:Za1) (v2:Int) (v3:List Int):Option Z07:=
 bif decide (v2 ≥ 128) then
  bif Nat.ble (v3.length+1) 1073741824 then
   L1 (Int.fdiv v2 (2 ^ 7)) (v3++[IntKind.wrap .u8 ((BitVec.ofInt 8 (IntKind.wrap .u8 v2) ||| BitVec.ofInt 8 128).toNat)])
  else none
 else
 bif Nat.ble (v3.length+1) 1073741824 then
  some ((v3++[IntKind.wrap .u8 v2],()),())
 else none
noncomputable def Z8c (L1:Za1) (b_0:List Int) (v_1:Int):Option Z07:=
 Option.bind (Qtz b_0) fun r1=>
 L1 (IntKind.wrap .u64 v_1) r1.1.1
noncomputable def Z0p (n:Nat):Nat→Za1:=iter (fun _ _=>none) fun L=>Z4y L
noncomputable def Z5n (n m:Nat) (v2:Int) (v3:List Int):Option Z07:=
 Qjv Zno tab (fiB [.val t25,.val t2] Zfd) n [.val t25,.val t2] [⟨t25,[true],none⟩] Tryz.f149 [1,1,1,0,0] [] [0,5] m
 ⟨[(0,V1 (.ref (888888,0))),(5,Vp t12 v2)],[((888888,0),Ob.row 5 t5 v3)]⟩
theorem Ze3 (n:Nat):∀ m,Z5n n m=Z0p n m
 | 0=>rfl
 | m+1=>by rw [show Z5n n (m+1)=Z4y (Z5n n m) from by kernel_rfl,Ze3 n m];rfl
noncomputable def Zhi (n:Nat) (b_0:List Int) (v_1:Int):Option Z07:=Z8c (Z0p n n) b_0 v_1
noncomputable def Zev (b_0:List Int) (v_1:Int):Option Z07:=Zhi 1099511627776 b_0 v_1
noncomputable def Zhc:Ent:=⟨[.val t25,.val t2],[⟨t25,[true],none⟩],fun x=>Zev x.1 x.2.1⟩
theorem Zbe:GD 149 Zhc:=fnl Zfd (fun n x=>Zhi n x.1 x.2.1) (Qjy Z6i Qk3) Tryz.func149 fun n x=>Eq.trans (b:=Z8c (Z5n n n) x.1 x.2.1) (by kernel_rfl) (by rw [Ze3 n n];rfl)
noncomputable def Z30 (b_0:List Int) (s_1:ByteArray):Option (((List Int) × Unit) × Unit):=
 Option.bind (Zev b_0 (s_1.size:Int)) fun r1=>
 bif Nat.ble (r1.1.1.length+(s_1.data.toList.map fun b=>(b.toNat:Int)).length) 1073741824 then
  some ((r1.1.1++(s_1.data.toList.map fun b=>(b.toNat:Int)),()),())
 else none
noncomputable def Z9p:Ent:=⟨[.val t25,.val t9],[⟨t25,[true],none⟩],fun x=>Z30 x.1 x.2.1⟩
theorem Zcr:GD 150 Z9p:=fnk 1 (fo [[0,1],[4]]) (Qjy Zbe Qk3) Tryz.func150
abbrev Qvw:Type:=(Int × Unit) × Unit
noncomputable def Zjt:Ctx:=[]
def Zd2:Fi:=fo [[0],[0,3],[3,7,8,9],[3,7,8,9,10],[3,5,7,8,9],[3,7,8,9],[3,7,8,9,17],[3,7,8,9,17,18],[3,6,7,8,9,17],[3,6,7,8,9,17],[3,7,8,9,17,24],[3,7,8,9,17],[3,7,8,9,17],[3,7,8,9],[2]]
abbrev Z8k:Type:=Int→List Int→Int→Int→Option Qvw
abbrev Zd0:Type:=Int→List Int→Int→Int→Int→Option Qvw
noncomputable def Z0c (L2:Zd0) (v1:Int) (v2:List Int) (v3 v4:Int):Option Qvw:=
 bif decide (v4<v3) then
  bif decide (0≤v4)&&decide (v4<(v2.length:Int)) then
   L2 (IntKind.wrap .u32 ((BitVec.ofInt 32 v1 ^^^ BitVec.ofInt 32 (IntKind.wrap .u32 (List.getD v2 v4.toNat 0))).toNat)) v2 v3 v4 0
  else none
 else
  some ((IntKind.wrap .u32 ((BitVec.ofInt 32 v1 ^^^ BitVec.ofInt 32 4294967295).toNat),()),())
noncomputable def Z05 (L2:Zd0) (L1:Z8k) (v5:Int) (v6:List Int) (v7 v8 v9:Int):Option Qvw:=
 bif decide (v9<8) then
  bif (IntKind.wrap .u32 ((BitVec.ofInt 32 v5 &&& BitVec.ofInt 32 1).toNat))==1 then
   L2 (IntKind.wrap .u32 ((BitVec.ofInt 32 (Int.fdiv v5 (2 ^ 1)) ^^^ BitVec.ofInt 32 3988292384).toNat)) v6 v7 v8 (IntKind.wrap .i64 (v9+1))
  else
   L2 (Int.fdiv v5 (2 ^ 1)) v6 v7 v8 (IntKind.wrap .i64 (v9+1))
 else
  L1 v5 v6 v7 (IntKind.wrap .i64 (v8+1))
noncomputable def Zjs (L1:Z8k) (b_0:List Int):Option Qvw:=
 L1 4294967295 b_0 (b_0.length:Int) 0
noncomputable def Qxh (n:Nat) (m1:Nat) (r1:Z8k):Nat→Zd0:=iter (fun _ _ _ _ _=>none) fun L=>Z05 L r1
noncomputable def Z0a (n:Nat):Nat→Z8k:=Qjg (fun _ _ _ _=>none) fun m L=>Z0c (Qxh n m L n)
noncomputable def Z4j (n m:Nat) (v1:Int) (v2:List Int) (v3 v4:Int):Option Qvw:=
 Qjv Zjt tab (fiB [.val t25] Zd2) n [.val t25] [⟨t91,[false],none⟩] Tryz.f151 [1,1,0,1,0] [] [3,7,8,9] m
 ⟨[(3,Vp t91 v1),(7,Vp t25 v2),(8,Vp t2 v3),(9,Vp t2 v4)],[]⟩
noncomputable def Z8j (n m1 m:Nat) (v5:Int) (v6:List Int) (v7 v8 v9:Int):Option Qvw:=
 Qjv Zjt tab (fiB [.val t25] Zd2) n [.val t25] [⟨t91,[false],none⟩] Tryz.f151 [1,1,0,1,0,0,1,1,0,0,1,1,1,0] [(m1,[3,7,8,9])] [3,7,8,9,17] m
 ⟨[(3,Vp t91 v5),(7,Vp t25 v6),(8,Vp t2 v7),(9,Vp t2 v8),(17,Vp t2 v9)],[]⟩
theorem Zg0 (n m1:Nat):∀ m,Z8j n m1 m=Qxh n m1 (Z4j n m1) m
 | 0=>rfl
 | m+1=>by rw [show Z8j n m1 (m+1)=Z05 (Z8j n m1 m) (Z4j n m1) from by kernel_rfl,Zg0 n m1 m];rfl
theorem Zgm (n:Nat):∀ m,Z4j n m=Z0a n m
 | 0=>rfl
 | m+1=>by rw [show Z4j n (m+1)=Z0c (Z8j n m n) from by kernel_rfl,Zg0 n m n,Zgm n m];rfl
noncomputable def Zk4 (n:Nat) (b_0:List Int):Option Qvw:=Zjs (Z0a n n) b_0
noncomputable def Zls (b_0:List Int):Option Qvw:=Zk4 1099511627776 b_0
noncomputable def Zko:Ent:=⟨[.val t25],[⟨t91,[false],none⟩],fun x=>Zls x.1⟩
theorem Zjh:GD 151 Zko:=fnl Zd2 (fun n x=>Zk4 n x.1) Qk3 Tryz.func151 fun n x=>Eq.trans (b:=Zjs (Z4j n n) x.1) (by kernel_rfl) (by rw [Zgm n n];rfl)
abbrev Z48:Type:=((List Int) × Unit) × Unit
noncomputable def Zo5:Ctx:=[(148,Zkl),(149,Zhc),(150,Z9p),(151,Zko)]
def Zhe:Fi:={ keep:=[],vty:=[(4,25)],vals:=[],live:=[(0,[1]),(1,[1,10]),(2,[2]),(3,[1,3]),(4,[1,3]),(5,[1,3,4]),(6,[1,4,37,38,39]),(7,[1,4,37,38,39,40]),(8,[1,4,6,37,38,39]),(9,[1,4,37,38,39]),(10,[1,4,37,38,39]),(11,[4]),(12,[4,7]),(13,[2])] }
abbrev Zdd:Type:=Int→Int→Int→Int→Int→Int→Int→Int→List Int→Int→Int→ByteArray→List Int→List Int→Option Z48
noncomputable def Z0b (L1:Zdd) (v2 v3 v4 v5 v6 v7 v8 v9:Int) (v10:List Int) (v11 v12:Int) (v13:ByteArray) (v14 v15:List Int):Option Z48:=
 bif decide (v3<v2) then
  bif decide (0≤v3)&&decide (v3<(v15.length:Int)) then
   bif decide (0≤v3)&&decide (v3<(v15.length:Int)) then
    Option.bind (Zev v14 (List.getD v15 v3.toNat 0)) fun r16=>
    L1 v2 (IntKind.wrap .i64 (v3+1)) v4 v5 v6 v7 v8 v9 v10 v11 v12 v13 r16.1.1 v15
   else none
  else none
 else
  Option.bind (Z30 v14 v13) fun r17=>
  Option.bind (Zls r17.1.1) fun r18=>
  bif Nat.ble (r17.1.1.length+4) 1073741824 then
   some ((r17.1.1++[IntKind.wrap .u8 (Int.fdiv r18.1.1 (2 ^ 24)),IntKind.wrap .u8 (Int.fdiv r18.1.1 (2 ^ 16)),IntKind.wrap .u8 (Int.fdiv r18.1.1 (2 ^ 8)),IntKind.wrap .u8 r18.1.1],()),())
  else none
noncomputable def Zbn (L1:Zdd) (m_0:Int × Int × Int × Int × Int × Int × (List Int) × Int × Int × ByteArray):Option Z48:=
 Option.bind (Zj1 m_0) fun r1=>
 bif !r1.1.1 then
  some (([],()),())
 else
 bif Nat.ble (7+m_0.2.2.2.2.2.2.1.length) 1073741824 then
  bif Nat.ble (([m_0.1,m_0.2.1,m_0.2.2.1,m_0.2.2.2.1,m_0.2.2.2.2.1,m_0.2.2.2.2.2.1,(m_0.2.2.2.2.2.2.1.length:Int)]++m_0.2.2.2.2.2.2.1).length+2) 1073741824 then
   L1 ((([m_0.1,m_0.2.1,m_0.2.2.1,m_0.2.2.2.1,m_0.2.2.2.2.1,m_0.2.2.2.2.2.1,(m_0.2.2.2.2.2.2.1.length:Int)]++m_0.2.2.2.2.2.2.1)++[m_0.2.2.2.2.2.2.2.1,m_0.2.2.2.2.2.2.2.2.1]).length:Int) 0 m_0.1 m_0.2.1 m_0.2.2.1 m_0.2.2.2.1 m_0.2.2.2.2.1 m_0.2.2.2.2.2.1 m_0.2.2.2.2.2.2.1 m_0.2.2.2.2.2.2.2.1 m_0.2.2.2.2.2.2.2.2.1 m_0.2.2.2.2.2.2.2.2.2 [] (([m_0.1,m_0.2.1,m_0.2.2.1,m_0.2.2.2.1,m_0.2.2.2.2.1,m_0.2.2.2.2.2.1,(m_0.2.2.2.2.2.2.1.length:Int)]++m_0.2.2.2.2.2.2.1)++[m_0.2.2.2.2.2.2.2.1,m_0.2.2.2.2.2.2.2.2.1])
  else none
 else none
noncomputable def Z08 (n:Nat):Nat→Zdd:=iter (fun _ _ _ _ _ _ _ _ _ _ _ _ _ _=>none) fun L=>Z0b L
noncomputable def Z8i (n m:Nat) (v2 v3 v4 v5 v6 v7 v8 v9:Int) (v10:List Int) (v11 v12:Int) (v13:ByteArray) (v14 v15:List Int):Option Z48:=
 Qjv Zo5 tab (fiB [.val t45] Zhe) n [.val t45] [⟨t25,[true],none⟩] Tryz.f87 [1,1,1,1,1,0,1,0] [] [1,4,37,38,39] m
 ⟨[(1,V1 (.ptr (1,0) 0)),(4,V1 (.ref (888888,4))),(37,V1 (.ref (888888,37))),(38,Vp t2 v2),(39,Vp t2 v3)],[((1,0),Ob.box 46 [LV.pure t2 v4,LV.pure t2 v5,LV.pure t2 v6,LV.pure t2 v7,LV.pure t2 v8,LV.pure t2 v9,LV.pure t28 v10,LV.pure t2 v11,LV.pure t2 v12,LV.pure t9 v13]),((888888,4),Ob.row 5 t5 v14),((888888,37),Ob.row 3 t2 v15)]⟩
theorem Zfo (n:Nat):∀ m,Z8i n m=Z08 n m
 | 0=>rfl
 | m+1=>by rw [show Z8i n (m+1)=Z0b (Z8i n m) from by kernel_rfl,Zfo n m];rfl
noncomputable def Zji (n:Nat) (m_0:Int × Int × Int × Int × Int × Int × (List Int) × Int × Int × ByteArray):Option Z48:=Zbn (Z08 n n) m_0
noncomputable def Zlc (m_0:Int × Int × Int × Int × Int × Int × (List Int) × Int × Int × ByteArray):Option Z48:=Zji 1099511627776 m_0
noncomputable def Zke:Ent:=⟨[.val t45],[⟨t25,[true],none⟩],fun x=>Zlc x.1⟩
theorem Zkh:GD 87 Zke:=fnl Zhe (fun n x=>Zji n x.1) (Qjy Zj9 (Qjy Zbe (Qjy Zcr (Qjy Zjh Qk3)))) Tryz.func87 fun n x=>Eq.trans (b:=Zbn (Z8i n n) x.1) (by kernel_rfl) (by rw [Zfo n n];rfl)
abbrev Qnr:Type:=(Bool × Unit) × Unit
noncomputable def Zaj:Ctx:=[]
def Qz1:Fi:=fo [[0,1],[0,1,10],[4],[0,1,12,13],[0,1,12,13,14],[0,1,5,12,13],[0,1,12,13,24],[4],[0,1,12,13],[4]]
abbrev Qu6:Type:=List Int→List Int→Int→Int→Option Qnr
noncomputable def Qn2 (L1:Qu6) (v1 v2:List Int) (v3 v4:Int):Option Qnr:=
 bif decide (v4<v3) then
  bif decide (0≤v4)&&decide (v4<(v1.length:Int)) then
   bif decide (0≤v4)&&decide (v4<(v2.length:Int)) then
    bif (List.getD v1 v4.toNat 0) != (List.getD v2 v4.toNat 0) then
     some ((false,()),())
    else
     L1 v1 v2 v3 (IntKind.wrap .i64 (v4+1))
   else none
  else none
 else
  some ((true,()),())
noncomputable def Qs4 (L1:Qu6) (s1_0 s2_1:List Int):Option Qnr:=
 bif (s1_0.length:Int) != (s2_1.length:Int) then
  some ((false,()),())
 else
  L1 s1_0 s2_1 (s1_0.length:Int) 0
noncomputable def Qmy (n:Nat):Nat→Qu6:=iter (fun _ _ _ _=>none) fun L=>Qn2 L
noncomputable def Qqv (n m:Nat) (v1 v2:List Int) (v3 v4:Int):Option Qnr:=
 Qjv Zaj tab (fiB [.val t25,.val t25] Qz1) n [.val t25,.val t25] [⟨t4,[false],none⟩] Tryz.f88 [1,1,0,1,0] [] [0,1,12,13] m
 ⟨[(0,Vp t25 v1),(1,Vp t25 v2),(12,Vp t2 v3),(13,Vp t2 v4)],[]⟩
theorem Qyc (n:Nat):∀ m,Qqv n m=Qmy n m
 | 0=>rfl
 | m+1=>by rw [show Qqv n (m+1)=Qn2 (Qqv n m) from by kernel_rfl,Qyc n m];rfl
noncomputable def Z0r (n:Nat) (s1_0 s2_1:List Int):Option Qnr:=Qs4 (Qmy n n) s1_0 s2_1
noncomputable def Qtu (s1_0 s2_1:List Int):Option Qnr:=Z0r 1099511627776 s1_0 s2_1
noncomputable def Z0o:Ent:=⟨[.val t25,.val t25],[⟨t4,[false],none⟩],fun x=>Qtu x.1 x.2.1⟩
theorem Z63:GD 88 Z0o:=fnl Qz1 (fun n x=>Z0r n x.1 x.2.1) Qk3 Tryz.func88 fun n x=>Eq.trans (b:=Qs4 (Qqv n n) x.1 x.2.1) (by kernel_rfl) (by rw [Qyc n n];rfl)
noncomputable def Zct:Ctx:=[(86,Z5v),(87,Zke),(88,Z0o)]
def Zal:Fi:={ keep:=[],vty:=[],vals:=[],live:=[(0,[0,2,34,35,38,39,40,41]),(1,[0,2,11,34,35,38,39,40,41]),(2,[2,3]),(3,[0,2,4,34,35,38,39,40,41]),(4,[0,2,4,5,34,35,38,39,40,41]),(5,[0,2,5,7,34,35,38,39,40,41]),(6,[0,2,5,7,8,34,35,38,39,40,41]),(7,[2,5,42]),(8,[2,3]),(9,[2,3])] }
noncomputable def Z2d (Q3f:Option ((Z59 × Bool × Unit) × Unit)→Option ((Z59 × Bool × Unit) × Unit)→Option ((Z59 × Bool × Unit) × Unit)) (b_0:List Int):Option ((Z59 × Bool × Unit) × Unit):=
 bif decide ((b_0.length:Int)<4) then
  some ((Zr8,false,()),())
 else
 bif decide (0≤IntKind.wrap .i64 ((b_0.length:Int) - 4))&&decide (IntKind.wrap .i64 ((b_0.length:Int) - 4)≤(b_0.length:Int)) then
  Option.bind (Z3e (List.drop 0 (List.take ((IntKind.wrap .i64 ((b_0.length:Int) - 4)).toNat) b_0),IV.nil)) fun (r1:(Z59 × Unit) × (Zm0 × Unit))=>
  Option.bind (Zlc r1.1.1) fun (r2:((List Int) × Unit) × Unit)=>
  bif IV.is r1.2.1.2 134 then
   some ((Zr8,false,()),())
  else
  bif !(List.isEmpty r2.1.1) then
   Option.bind (Qtu r2.1.1 b_0) fun (r3:(Bool × Unit) × Unit)=>
   bif !r3.1.1 then
    some ((Zr8,false,()),())
   else
    some ((r1.1.1,true,()),())
  else
   Q3f (
    some ((Zr8,false,()),())) (
    Option.bind (Qtu r2.1.1 b_0) fun (r4:(Bool × Unit) × Unit)=>
    bif !r4.1.1 then
     some ((Zr8,false,()),())
    else
     some ((r1.1.1,true,()),()))
 else none
noncomputable def Zap (b_0:List Int):Option ((Z59 × Bool × Unit) × Unit):=Z2d (@Qav _ (@instDecidableEqProd _ _ (@instDecidableEqProd _ _ (@instDecidableEqProd _ _ inferInstance (@instDecidableEqProd _ _ inferInstance (@instDecidableEqProd _ _ inferInstance (@instDecidableEqProd _ _ inferInstance (@instDecidableEqProd _ _ inferInstance (@instDecidableEqProd _ _ inferInstance (@instDecidableEqProd _ _ inferInstance (@instDecidableEqProd _ _ inferInstance (@instDecidableEqProd _ _ inferInstance inferInstance))))))))) (@instDecidableEqProd _ _ inferInstance inferInstance)) inferInstance)) b_0
theorem Zk8 (b_0:List Int):Qde Zct tab Zal 1 [.val t25] [⟨t45,[false,false,false,false,false,false,true,false,false,false],none⟩,⟨t4,[false],none⟩] Tryz.f45 (b_0,())=Z2d Q3f b_0:=by kernel_rfl
theorem Zl1 (b_0:List Int):Qde Zct tab Zal 1 [.val t25] [⟨t45,[false,false,false,false,false,false,true,false,false,false],none⟩,⟨t4,[false],none⟩] Tryz.f45 (b_0,())=Zap b_0:=(Zk8 b_0).trans (congrArg (fun b=>Z2d b b_0) (@Qiu _ (@instDecidableEqProd _ _ (@instDecidableEqProd _ _ (@instDecidableEqProd _ _ inferInstance (@instDecidableEqProd _ _ inferInstance (@instDecidableEqProd _ _ inferInstance (@instDecidableEqProd _ _ inferInstance (@instDecidableEqProd _ _ inferInstance (@instDecidableEqProd _ _ inferInstance (@instDecidableEqProd _ _ inferInstance (@instDecidableEqProd _ _ inferInstance (@instDecidableEqProd _ _ inferInstance inferInstance))))))))) (@instDecidableEqProd _ _ inferInstance inferInstance)) inferInstance)))
noncomputable def Zmx:Ent:=⟨[.val t25],[⟨t45,[false,false,false,false,false,false,true,false,false,false],none⟩,⟨t4,[false],none⟩],fun x=>Zap x.1⟩
theorem Zj2:Q4u tab.ty Tryz.prog 45 Zmx:=by
  refine Qjk (Γ:=Zct) (fi:=Zal) (n:=1) follows (Qjy Za2 (Qjy Zkh (Qjy Z63 Qk3))) Zff Tryz.func45 (by kernel_rfl) (by kernel_rfl) (fun x r h=>?_)
  obtain ⟨b_0,_u⟩:=x
  exact (Zl1 b_0).trans h
noncomputable def Zm5 (t_0:Int × Int × Int × Int × Int × Int × (List Int) × Int × Int × Int × Int × Int × List Qlf):Option ((Zak × Unit) × Unit):=
 Option.bind (Qn9 (g6 t_0)) fun r1=>
 Option.bind (Qna (h12 t_0)) fun r2=>
 some ((((e12 (u6 t_0 r1.1.1) r2.1.1),[]),()),())
noncomputable def Zpz:Ent:=⟨[.val t30],[⟨Znq,(nF 13++[true]),some 141⟩],fun x=>Zm5 x.1⟩
theorem Zky:GD 89 Zpz:=fnk 1 (fo [[1],[1],[2]]) (Qjy Qqd (Qjy Qq9 Qk3)) Tryz.func89
abbrev Qke:Type:=(Int × Bool × Unit) × Unit
noncomputable def Qu4:Ctx:=[]
def Qo7:Fi:=fo [[0,1,2,40,41,42,43,44,45,46,47],[0,1,2,8,40,41,42,43,44,45,46,47],[0,1,2,8,9,10,40,41,42,43,44,45,46,47],[0,1,2,8,9,10,17,40,41,42,43,44,45,46,47],[0,1,2,8,9,10,11,40,41,42,43,44,45,46,47],[0,1,2,8,9,10,11,31,40,41,42,43,44,45,46,47],[0,1,2,8,9,10,40,41,42,43,44,45,46,47],[0,1,2,8,9,10,40,41,42,43,44,45,46,47],[6,7]]
abbrev Qlz:Type:=Z6m→Int→(Qlf × Int × Unit→Option (Int × Unit))→Int→Int→Int→Option Qke
noncomputable def Qku (L1:Qlz) (v1:List Qlf) (v2:Int) (v3:(Qlf × Int × Unit→Option (Int × Unit))) (v4 v5 v6:Int):Option Qke:=
 bif decide (v5<v6) then
  bif decide (0≤IntKind.wrap .i64 (Int.fdiv (IntKind.wrap .u64 (IntKind.wrap .i64 (v5+v6))) (2 ^ 1)))&&decide (IntKind.wrap .i64 (Int.fdiv (IntKind.wrap .u64 (IntKind.wrap .i64 (v5+v6))) (2 ^ 1))<(v1.length:Int)) then
   Option.bind (v3 ((List.getD v1 ((IntKind.wrap .i64 (Int.fdiv (IntKind.wrap .u64 (IntKind.wrap .i64 (v5+v6))) (2 ^ 1))).toNat) (0,0,0)),v2,())) fun r7=>
   bif decide (r7.1<0) then
    L1 v1 v2 v3 v4 (IntKind.wrap .i64 ((IntKind.wrap .i64 (Int.fdiv (IntKind.wrap .u64 (IntKind.wrap .i64 (v5+v6))) (2 ^ 1)))+1)) v6
   else
    L1 v1 v2 v3 v4 v5 (IntKind.wrap .i64 (Int.fdiv (IntKind.wrap .u64 (IntKind.wrap .i64 (v5+v6))) (2 ^ 1)))
  else none
 else
 bif decide (v5<v4) then
  bif decide (0≤v5)&&decide (v5<(v1.length:Int)) then
   Option.bind (v3 ((List.getD v1 v5.toNat (0,0,0)),v2,())) fun r8=>
   some ((v5,r8.1==0,()),())
  else none
 else
  some ((v5,false,()),())
noncomputable def Qor (L1:Qlz) (x_0:List Qlf) (target_1:Int) (cmp_2:(Qlf × Int × Unit→Option (Int × Unit))):Option Qke:=
 L1 x_0 target_1 cmp_2 (x_0.length:Int) 0 (x_0.length:Int)
noncomputable def Qkv (n:Nat):Nat→Qlz:=iter (fun _ _ _ _ _ _=>none) fun L=>Qku L
noncomputable def Qkt (n m:Nat) (v1:List Qlf) (v2:Int) (v3:(Qlf × Int × Unit→Option (Int × Unit))) (v4 v5 v6:Int):Option Qke:=
 Qjv Qu4 tab (fiB [.val t29,.val t2,.fn [t52,t2] [t2]] Qo7) n [.val t29,.val t2,.fn [t52,t2] [t2]] [⟨t2,[false],none⟩,⟨t4,[false],none⟩] Tryz.f186 [1,1,1,0,0] [] [0,1,2,8,9,10] m
 ⟨[(0,Vp t29 v1),(1,Vp t2 v2),(2,V1 (.clo [t52,t2] [t2] v3)),(8,Vp t2 v4),(9,Vp t2 v5),(10,Vp t2 v6)],[]⟩
theorem Qnz (n:Nat):∀ m,Qkt n m=Qkv n m
 | 0=>rfl
 | m+1=>by rw [show Qkt n (m+1)=Qku (Qkt n m) from by kernel_rfl,Qnz n m];rfl
noncomputable def Qos (n:Nat) (x_0:List Qlf) (target_1:Int) (cmp_2:(Qlf × Int × Unit→Option (Int × Unit))):Option Qke:=Qor (Qkv n n) x_0 target_1 cmp_2
noncomputable def Qmk (x_0:List Qlf) (target_1:Int) (cmp_2:(Qlf × Int × Unit→Option (Int × Unit))):Option Qke:=Qos 1099511627776 x_0 target_1 cmp_2
noncomputable def Qub:Ent:=⟨[.val t29,.val t2,.fn [t52,t2] [t2]],[⟨t2,[false],none⟩,⟨t4,[false],none⟩],fun x=>Qmk x.1 x.2.1 x.2.2.1⟩
theorem Qsx:GD 186 Qub:=fnl Qo7 (fun n x=>Qos n x.1 x.2.1 x.2.2.1) Qk3 Tryz.func186 fun n x=>Eq.trans (b:=Qor (Qkt n n) x.1 x.2.1 x.2.2.1) (by kernel_rfl) (by rw [Qnz n n];rfl)
noncomputable def Qzw (x_0:Int):Option ((Bool × Unit) × Unit):=
 some ((x_0 != x_0,()),())
noncomputable def Zg2:Ent:=⟨[.val t2],[⟨t4,[false],none⟩],fun x=>Qzw x.1⟩
theorem Zbl:GD 205 Zg2:=fnk 1 (fo [[0],[2]]) Qk3 Tryz.func205
noncomputable def Qr8 (x_0 y_1:Int):Option ((Int × Unit) × Unit):=
 Option.bind (Qzw x_0) fun r1=>
 Option.bind (Qzw y_1) fun r2=>
 bif r1.1.1 then
  bif r2.1.1 then
   some ((0,()),())
  else
   some (((-1),()),())
 else
 bif r2.1.1 then
  some ((1,()),())
 else
 bif decide (x_0<y_1) then
  some (((-1),()),())
 else
 bif decide (x_0>y_1) then
  some ((1,()),())
 else
  some ((0,()),())
noncomputable def Zck:Ent:=⟨[.val t2,.val t2],[⟨t2,[false],none⟩],fun x=>Qr8 x.1 x.2.1⟩
theorem Qu9:GD 188 Zck:=fnk 1 (fo [[0,1],[0,1,5],[0,1,5,6],[0,1,6,11],[12],[4],[4],[0,1,13],[4],[0,1,16],[4],[19],[4],[4]]) (Qjy Zbl Qk3) Tryz.func188
noncomputable def Z3a (k_0:Int × Int × Int) (id_1:Int):Option ((Int × Unit) × Unit):=
 Option.bind (Qr8 k_0.1 id_1) fun r1=>
 some ((r1.1.1,()),())
noncomputable def Zem:Ent:=⟨[.val t52,.val t2],[⟨t2,[false],none⟩],fun x=>Z3a x.1 x.2.1⟩
theorem Zaf:GD 187 Zem:=fnk 1 (fo [[1,2],[4]]) (Qjy Qu9 Qk3) Tryz.func187
noncomputable def Z3u (l_0:List Qlf) (id_1:Int):Option ((Int × Bool × Unit) × Unit):=
 Option.bind (Qmk l_0 id_1 (fun x=>(Z3a x.1 x.2.1).bind fun r=>some (r.1.1,()))) fun r1=>
 some ((r1.1.1,r1.1.2.1,()),())
noncomputable def Zk5:Ent:=⟨[.val t29,.val t2],[⟨t2,[false],none⟩,⟨t4,[false],none⟩],fun x=>Z3u x.1 x.2.1⟩
theorem Z6q:GD 158 Zk5:=fnk 1 (fo [[0,1],[4,5]]) (Qjy Qsx (Qjy Zaf Qk3)) Tryz.func158
noncomputable def Qy5 (l_0:List Qlf) (id_1:Int):Option ((Qlf × Bool × Unit) × Unit):=
 Option.bind (Z3u l_0 id_1) fun r1=>
 bif !r1.1.2.1 then
  some (((0,0,0),false,()),())
 else
 bif decide (0≤r1.1.1)&&decide (r1.1.1<(l_0.length:Int)) then
  some (((List.getD l_0 r1.1.1.toNat (0,0,0)),true,()),())
 else none
noncomputable def Zge:Ent:=⟨[.val t29,.val t2],[⟨t52,[false,false,false],none⟩,⟨t4,[false],none⟩],fun x=>Qy5 x.1 x.2.1⟩
theorem Qxr:GD 98 Zge:=fnk 1 (fo [[0,1,4],[0,4,6,7],[0,4,6,15],[4,5],[4,5]]) (Qjy Z6q Qk3) Tryz.func98
noncomputable def Zbr (l_0:List Qlf) (id_1 inc_2:Int):Option ((Bool × Unit) × Unit):=
 Option.bind (Qy5 l_0 id_1) fun r1=>
 bif r1.1.2.1 then
  some ((decide (r1.1.1.2.1>inc_2),()),())
 else
  some ((false,()),())
noncomputable def Zna:Ent:=⟨[.val t29,.val t2,.val t2],[⟨t4,[false],none⟩],fun x=>Zbr x.1 x.2.1 x.2.2.1⟩
theorem Zb0:GD 90 Zna:=fnk 1 (fo [[0,1,2,17,18,19,20],[2,7,8,17,18,19,20],[6]]) (Qjy Qxr Qk3) Tryz.func90
noncomputable def Qwr (n_0:Qwp × List Z59) (step_1:Int):Option (Unit × (Zak × Unit)):=
 some ((),(((u11 (u9 (u6 (u4 (u3 n_0.1 0) 0) []) 0) step_1),n_0.2),()))
noncomputable def Zfw:Ent:=⟨[.box 141 Znq (nF 13++[true]),.val t2],[],fun x=>Qwr x.1 x.2.1⟩
theorem Qwe:GD 91 Zfw:=fnk 1 (fo [[0]]) Qk3 Tryz.func91
noncomputable def Zar (t_0:Int × Int × Int × Int × Int × Int × (List Int) × Int × Int × Int × Int × Int × List Qlf):Option ((Bool × Unit) × Unit):=
 bif t_0.1==1 then
  some ((true,()),())
 else
 bif (g3 t_0) != 0 then
  some ((decide (IntKind.wrap .i64 (t_0.2.2.1 - (g8 t_0))≤20),()),())
 else
  some ((false,()),())
noncomputable def Zll:Ent:=⟨[.val t30],[⟨t4,[false],none⟩],fun x=>Zar x.1⟩
theorem Zgt:GD 111 Zll:=fnk 1 (fo [[1,7,8,9,10,11,12,13,14,15,16,17],[2]]) Qk3 Tryz.func111
noncomputable def Zc3 (p_0:List Int) (id_1:Int):Option ((Bool × Unit) × Unit):=
 Option.bind (Qpk p_0 id_1) fun r1=>
 some ((r1.1.1,()),())
noncomputable def Zn8:Ent:=⟨[.val t28,.val t2],[⟨t4,[false],none⟩],fun x=>Zc3 x.1 x.2.1⟩
theorem Zis:GD 181 Zn8:=fnk 1 (fo [[0,1],[4]]) (Qjy Qvd Qk3) Tryz.func181
noncomputable def Qzy (n_0:Qwp × List Z59) (id_1:Int):Option ((Bool × Unit) × (Zak × Unit)):=
 bif n_0.1.1==1 then
  Option.bind (Qy5 (h12 n_0.1) id_1) fun r1=>
  Option.bind (Zar n_0.1) fun r2=>
  bif r2.1.1 then
   Option.bind (Zc3 (g6 n_0.1) id_1) fun r3=>
   bif !r3.1.1 then
    bif r1.1.2.1 then
     some ((true,()),(n_0,()))
    else
     some ((decide (((h12 n_0.1).length:Int)<8),()),(n_0,()))
   else
    some ((false,()),(n_0,()))
  else
   some ((false,()),(n_0,()))
 else
  Option.bind (Qy5 (h12 n_0.1) id_1) fun r4=>
  Option.bind (Zar n_0.1) fun r5=>
  bif r5.1.1 then
   Option.bind (Zc3 (g6 n_0.1) id_1) fun r6=>
   bif !r6.1.1 then
    bif r4.1.2.1 then
     some ((true,()),(n_0,()))
    else
     some ((decide (((h12 n_0.1).length:Int)<3),()),(n_0,()))
   else
    some ((false,()),(n_0,()))
  else
   some ((false,()),(n_0,()))
noncomputable def Zgi:Ent:=⟨[.box 141 Znq (nF 13++[true]),.val t2],[⟨t4,[false],none⟩],fun x=>Qzy x.1 x.2.1⟩
theorem Zbd:GD 152 Zgi:=fnk 1 (fo [[0,1,30,31,32,33,34,35,36,37,40,41,42,43,44,45,46,47,48,49,50],[0,1,5,30,31,32,33,34,35,36,37,40,41,42,43,44,45,46,47,48,49,50],[0,1,5,13,30,31,32,33,34,35,36,37,40,41,42,43,44,45,46,47,48,49,50],[0,1,5,30,31,32,33,34,35,36,37,40,41,42,43,44,45,46,47,48,49,50],[0,1,5,7,30,31,32,33,34,35,36,37,40,41,42,43,44,45,46,47,48,49,50],[0,4]]) (Qjy Qxr (Qjy Zgt (Qjy Zis Qk3))) Tryz.func152
noncomputable def Qty (n_0:Qwp × List Z59) (kind_1 to_2 lo_3:Int):Option (Unit × (Zak × Unit)):=
 Option.bind (Qn9 (g6 n_0.1)) fun r1=>
 bif Nat.ble (n_0.2.length+1) 1073741824 then
  some ((),((n_0.1,n_0.2++[(kind_1,n_0.1.1,to_2,n_0.1.2.1,(g7 n_0.1),IntKind.wrap .i64 (n_0.1.2.2.1 - (g8 n_0.1)),r1.1.1,lo_3,0,(⟨#[]⟩:ByteArray))]),()))
 else none
noncomputable def Qks (n_0:Qwp × List Z59) (kind_1 to_2 lo_3:Int):Option (Unit × (Zak × Unit)):=
 bif kind_1==2 then
  Qty n_0 kind_1 to_2 lo_3
 else
 bif kind_1==5 then
  Qty n_0 kind_1 to_2 lo_3
 else
 bif Nat.ble (n_0.2.length+1) 1073741824 then
  some ((),((n_0.1,n_0.2++[(kind_1,n_0.1.1,to_2,n_0.1.2.1,0,0,[],lo_3,0,(⟨#[]⟩:ByteArray))]),()))
 else none
noncomputable def Zeg:Ent:=⟨[.box 141 Znq (nF 13++[true]),.val t2,.val t2,.val t2],[],fun x=>Qks x.1 x.2.1 x.2.2.1 x.2.2.2.1⟩
theorem Qry:GD 142 Zeg:=fnk 1 (fo [[0,1,8,26,27],[0,8,28],[0,8],[0]]) (Qjy Qqd Qk3) Tryz.func142
noncomputable def Z0d:Ctx:=[(203,Qjh)]
def Qze:Fi:={ keep:=[],vty:=[],vals:=[],live:=[(0,[0,1,2]),(1,[0,1,2]),(2,[0,1,2,7]),(3,[0,1,2,7,16]),(4,[6]),(5,[0,1,2,7,8]),(6,[0,1,2,7,8,22]),(7,[6]),(8,[0,1,2,7,8,31]),(9,[0,1,2,7,9]),(10,[0,1,7,9]),(11,[9]),(12,[6]),(13,[0,1,2,7,8]),(14,[0,1,2,7,8,68]),(15,[0,1,2]),(16,[0]),(17,[6]),(18,[0,1,7]),(19,[0]),(20,[6])] }
noncomputable def Z0i (c:Nat) (s_0:List Qlf) (i_1:Int) (v_2:List Qlf):Option ((Z6m × Unit) × Unit):=
 bif (decide (0≤i_1)&&decide (i_1≤((s_0.length:Nat):Int)))&&decide (((s_0.length:Nat):Int)≤((((List.map some s_0++List.replicate c none).length) - 0:Nat):Int)) then
  bif (v_2.length:Int)==0 then
   bif Nat.ble s_0.length ((List.map some s_0++List.replicate c none).length) then
    Option.bind (Qd (List.take s_0.length (List.map some s_0++List.replicate c none))) fun (z1:List Qlf)=>
    some ((z1,()),())
   else none
  else
  bif i_1==((s_0.length:Nat):Int) then
   bif Nat.ble (0+s_0.length) ((List.map some s_0++List.replicate c none).length) then
    bif Nat.ble (s_0.length+v_2.length) ((List.map some s_0++List.replicate c none).length) then
     bif Nat.ble (s_0.length+v_2.length) ((Q6 (List.map some s_0++List.replicate c none) s_0.length v_2).length) then
      Option.bind (Qd (List.take (s_0.length+v_2.length) (Q6 (List.map some s_0++List.replicate c none) s_0.length v_2))) fun (z2:List Qlf)=>
      some ((z2,()),())
     else none
    else
    bif Nat.ble (s_0.length+v_2.length) 1073741824 then
     Option.bind (Qd (List.take s_0.length (List.map some s_0++List.replicate c none))) fun (z3:List Qlf)=>
     some ((z3++v_2,()),())
    else none
   else none
  else
  bif Nat.ble (0+s_0.length) ((List.map some s_0++List.replicate c none).length) then
   bif decide (IntKind.wrap .i64 (((s_0.length:Nat):Int)+(v_2.length:Int))>((((List.map some s_0++List.replicate c none).length) - 0:Nat):Int)) then
    bif decide (0≤i_1)&&decide (i_1≤((((List.map some s_0++List.replicate c none).length) - 0:Nat):Int)) then
     bif Nat.ble (0+((i_1 - 0).toNat)) ((List.map some s_0++List.replicate c none).length) then
      bif decide (0<IntKind.wrap .i64 ((IntKind.wrap .i64 (((s_0.length:Nat):Int)+(v_2.length:Int))) - i_1))&&true&&Nat.blt ((List.map some s_0++List.replicate c none).length) (((i_1 - 0).toNat)+((List.replicate ((IntKind.wrap .i64 ((IntKind.wrap .i64 (((s_0.length:Nat):Int)+(v_2.length:Int))) - i_1)).toNat) ((0,0,0):Int × Int × Int)).length))&&Nat.ble (((List.map some s_0++List.replicate c none).length)+((List.replicate ((IntKind.wrap .i64 ((IntKind.wrap .i64 (((s_0.length:Nat):Int)+(v_2.length:Int))) - i_1)).toNat) ((0,0,0):Int × Int × Int)).length)) 536870912 then
       bif (decide (0≤i_1)&&decide (i_1≤((((i_1 - 0).toNat)+((List.replicate ((IntKind.wrap .i64 ((IntKind.wrap .i64 (((s_0.length:Nat):Int)+(v_2.length:Int))) - i_1)).toNat) ((0,0,0):Int × Int × Int)).length):Nat):Int)))&&decide (((((i_1 - 0).toNat)+((List.replicate ((IntKind.wrap .i64 ((IntKind.wrap .i64 (((s_0.length:Nat):Int)+(v_2.length:Int))) - i_1)).toNat) ((0,0,0):Int × Int × Int)).length):Nat):Int)≤((((List.take ((i_1 - 0).toNat) (List.map some s_0++List.replicate c none)++List.map some (List.replicate ((IntKind.wrap .i64 ((IntKind.wrap .i64 (((s_0.length:Nat):Int)+(v_2.length:Int))) - i_1)).toNat) ((0,0,0):Int × Int × Int))).length) - 0:Nat):Int)) then
        bif Nat.ble ((0+i_1.toNat)+((((((i_1 - 0).toNat)+((List.replicate ((IntKind.wrap .i64 ((IntKind.wrap .i64 (((s_0.length:Nat):Int)+(v_2.length:Int))) - i_1)).toNat) ((0,0,0):Int × Int × Int)).length):Nat):Int) - i_1).toNat)) ((List.take ((i_1 - 0).toNat) (List.map some s_0++List.replicate c none)++List.map some (List.replicate ((IntKind.wrap .i64 ((IntKind.wrap .i64 (((s_0.length:Nat):Int)+(v_2.length:Int))) - i_1)).toNat) ((0,0,0):Int × Int × Int))).length) then
         bif (decide (0≤IntKind.wrap .i64 (i_1+(v_2.length:Int)))&&decide (IntKind.wrap .i64 (i_1+(v_2.length:Int))≤((((i_1 - 0).toNat)+((List.replicate ((IntKind.wrap .i64 ((IntKind.wrap .i64 (((s_0.length:Nat):Int)+(v_2.length:Int))) - i_1)).toNat) ((0,0,0):Int × Int × Int)).length):Nat):Int)))&&decide (((((i_1 - 0).toNat)+((List.replicate ((IntKind.wrap .i64 ((IntKind.wrap .i64 (((s_0.length:Nat):Int)+(v_2.length:Int))) - i_1)).toNat) ((0,0,0):Int × Int × Int)).length):Nat):Int)≤((((Q6 (List.take ((i_1 - 0).toNat) (List.map some s_0++List.replicate c none)++List.map some (List.replicate ((IntKind.wrap .i64 ((IntKind.wrap .i64 (((s_0.length:Nat):Int)+(v_2.length:Int))) - i_1)).toNat) ((0,0,0):Int × Int × Int))) (0+i_1.toNat) (List.take ((((((i_1 - 0).toNat)+((List.replicate ((IntKind.wrap .i64 ((IntKind.wrap .i64 (((s_0.length:Nat):Int)+(v_2.length:Int))) - i_1)).toNat) ((0,0,0):Int × Int × Int)).length):Nat):Int) - i_1).toNat) v_2)).length) - 0:Nat):Int)) then
          bif (decide (0≤i_1)&&decide (i_1≤((s_0.length:Nat):Int)))&&decide (((s_0.length:Nat):Int)≤((((List.map some s_0++List.replicate c none).length) - 0:Nat):Int)) then
           bif Nat.ble ((0+((IntKind.wrap .i64 (i_1+(v_2.length:Int))).toNat))+((((((i_1 - 0).toNat)+((List.replicate ((IntKind.wrap .i64 ((IntKind.wrap .i64 (((s_0.length:Nat):Int)+(v_2.length:Int))) - i_1)).toNat) ((0,0,0):Int × Int × Int)).length):Nat):Int) - (IntKind.wrap .i64 (i_1+(v_2.length:Int)))).toNat)) ((Q6 (List.take ((i_1 - 0).toNat) (List.map some s_0++List.replicate c none)++List.map some (List.replicate ((IntKind.wrap .i64 ((IntKind.wrap .i64 (((s_0.length:Nat):Int)+(v_2.length:Int))) - i_1)).toNat) ((0,0,0):Int × Int × Int))) (0+i_1.toNat) (List.take ((((((i_1 - 0).toNat)+((List.replicate ((IntKind.wrap .i64 ((IntKind.wrap .i64 (((s_0.length:Nat):Int)+(v_2.length:Int))) - i_1)).toNat) ((0,0,0):Int × Int × Int)).length):Nat):Int) - i_1).toNat) v_2)).length) then
            bif Nat.ble ((0+i_1.toNat)+((((s_0.length:Nat):Int) - i_1).toNat)) ((List.map some s_0++List.replicate c none).length) then
            Option.bind (Qd (List.take (min ((((((i_1 - 0).toNat)+((List.replicate ((IntKind.wrap .i64 ((IntKind.wrap .i64 (((s_0.length:Nat):Int)+(v_2.length:Int))) - i_1)).toNat) ((0,0,0):Int × Int × Int)).length):Nat):Int) - (IntKind.wrap .i64 (i_1+(v_2.length:Int)))).toNat) ((((s_0.length:Nat):Int) - i_1).toNat)) (List.drop (0+i_1.toNat) (List.map some s_0++List.replicate c none)))) fun (z4:List Qlf)=>
            bif Nat.ble (((i_1 - 0).toNat)+((List.replicate ((IntKind.wrap .i64 ((IntKind.wrap .i64 (((s_0.length:Nat):Int)+(v_2.length:Int))) - i_1)).toNat) ((0,0,0):Int × Int × Int)).length)) ((Q6 (Q6 (List.take ((i_1 - 0).toNat) (List.map some s_0++List.replicate c none)++List.map some (List.replicate ((IntKind.wrap .i64 ((IntKind.wrap .i64 (((s_0.length:Nat):Int)+(v_2.length:Int))) - i_1)).toNat) ((0,0,0):Int × Int × Int))) (0+i_1.toNat) (List.take ((((((i_1 - 0).toNat)+((List.replicate ((IntKind.wrap .i64 ((IntKind.wrap .i64 (((s_0.length:Nat):Int)+(v_2.length:Int))) - i_1)).toNat) ((0,0,0):Int × Int × Int)).length):Nat):Int) - i_1).toNat) v_2)) (0+((IntKind.wrap .i64 (i_1+(v_2.length:Int))).toNat)) z4).length) then
            Option.bind (Qd (List.take (((i_1 - 0).toNat)+((List.replicate ((IntKind.wrap .i64 ((IntKind.wrap .i64 (((s_0.length:Nat):Int)+(v_2.length:Int))) - i_1)).toNat) ((0,0,0):Int × Int × Int)).length)) (Q6 (Q6 (List.take ((i_1 - 0).toNat) (List.map some s_0++List.replicate c none)++List.map some (List.replicate ((IntKind.wrap .i64 ((IntKind.wrap .i64 (((s_0.length:Nat):Int)+(v_2.length:Int))) - i_1)).toNat) ((0,0,0):Int × Int × Int))) (0+i_1.toNat) (List.take ((((((i_1 - 0).toNat)+((List.replicate ((IntKind.wrap .i64 ((IntKind.wrap .i64 (((s_0.length:Nat):Int)+(v_2.length:Int))) - i_1)).toNat) ((0,0,0):Int × Int × Int)).length):Nat):Int) - i_1).toNat) v_2)) (0+((IntKind.wrap .i64 (i_1+(v_2.length:Int))).toNat)) z4))) fun (z5:List Qlf)=>
            some ((z5,()),())
            else none
            else none
           else none
          else none
         else none
        else none
       else none
      else none
     else none
    else none
   else
   bif decide (0≤IntKind.wrap .i64 (((s_0.length:Nat):Int)+(v_2.length:Int)))&&decide (IntKind.wrap .i64 (((s_0.length:Nat):Int)+(v_2.length:Int))≤((((List.map some s_0++List.replicate c none).length) - 0:Nat):Int)) then
    bif (decide (0≤IntKind.wrap .i64 (i_1+(v_2.length:Int)))&&decide (IntKind.wrap .i64 (i_1+(v_2.length:Int))≤((((IntKind.wrap .i64 (((s_0.length:Nat):Int)+(v_2.length:Int))) - 0).toNat:Nat):Int)))&&decide (((((IntKind.wrap .i64 (((s_0.length:Nat):Int)+(v_2.length:Int))) - 0).toNat:Nat):Int)≤((((List.map some s_0++List.replicate c none).length) - 0:Nat):Int)) then
     bif (decide (0≤IntKind.wrap .i64 (i_1+(v_2.length:Int)))&&decide (IntKind.wrap .i64 (i_1+(v_2.length:Int))≤((((IntKind.wrap .i64 (((s_0.length:Nat):Int)+(v_2.length:Int))) - 0).toNat:Nat):Int)))&&decide (((((IntKind.wrap .i64 (((s_0.length:Nat):Int)+(v_2.length:Int))) - 0).toNat:Nat):Int)≤((((List.map some s_0++List.replicate c none).length) - 0:Nat):Int)) then
      bif (decide (0≤i_1)&&decide (i_1≤((((IntKind.wrap .i64 (((s_0.length:Nat):Int)+(v_2.length:Int))) - 0).toNat:Nat):Int)))&&decide (((((IntKind.wrap .i64 (((s_0.length:Nat):Int)+(v_2.length:Int))) - 0).toNat:Nat):Int)≤((((List.map some s_0++List.replicate c none).length) - 0:Nat):Int)) then
       bif Nat.ble ((0+((IntKind.wrap .i64 (i_1+(v_2.length:Int))).toNat))+((((((IntKind.wrap .i64 (((s_0.length:Nat):Int)+(v_2.length:Int))) - 0).toNat:Nat):Int) - (IntKind.wrap .i64 (i_1+(v_2.length:Int)))).toNat)) ((List.map some s_0++List.replicate c none).length) then
        bif Nat.ble ((0+i_1.toNat)+((((((IntKind.wrap .i64 (((s_0.length:Nat):Int)+(v_2.length:Int))) - 0).toNat:Nat):Int) - i_1).toNat)) ((List.map some s_0++List.replicate c none).length) then
         Option.bind (Qd (List.take (min ((((((IntKind.wrap .i64 (((s_0.length:Nat):Int)+(v_2.length:Int))) - 0).toNat:Nat):Int) - (IntKind.wrap .i64 (i_1+(v_2.length:Int)))).toNat) ((((((IntKind.wrap .i64 (((s_0.length:Nat):Int)+(v_2.length:Int))) - 0).toNat:Nat):Int) - i_1).toNat)) (List.drop (0+i_1.toNat) (List.map some s_0++List.replicate c none)))) fun (z6:List Qlf)=>
         bif (decide (0≤i_1)&&decide (i_1≤((((IntKind.wrap .i64 (((s_0.length:Nat):Int)+(v_2.length:Int))) - 0).toNat:Nat):Int)))&&decide (((((IntKind.wrap .i64 (((s_0.length:Nat):Int)+(v_2.length:Int))) - 0).toNat:Nat):Int)≤((((Q6 (List.map some s_0++List.replicate c none) (0+((IntKind.wrap .i64 (i_1+(v_2.length:Int))).toNat)) z6).length) - 0:Nat):Int)) then
          bif Nat.ble ((0+i_1.toNat)+((((((IntKind.wrap .i64 (((s_0.length:Nat):Int)+(v_2.length:Int))) - 0).toNat:Nat):Int) - i_1).toNat)) ((Q6 (List.map some s_0++List.replicate c none) (0+((IntKind.wrap .i64 (i_1+(v_2.length:Int))).toNat)) z6).length) then
           bif Nat.ble (((IntKind.wrap .i64 (((s_0.length:Nat):Int)+(v_2.length:Int))) - 0).toNat) ((Q6 (Q6 (List.map some s_0++List.replicate c none) (0+((IntKind.wrap .i64 (i_1+(v_2.length:Int))).toNat)) z6) (0+i_1.toNat) (List.take ((((((IntKind.wrap .i64 (((s_0.length:Nat):Int)+(v_2.length:Int))) - 0).toNat:Nat):Int) - i_1).toNat) v_2)).length) then
            Option.bind (Qd (List.take (((IntKind.wrap .i64 (((s_0.length:Nat):Int)+(v_2.length:Int))) - 0).toNat) (Q6 (Q6 (List.map some s_0++List.replicate c none) (0+((IntKind.wrap .i64 (i_1+(v_2.length:Int))).toNat)) z6) (0+i_1.toNat) (List.take ((((((IntKind.wrap .i64 (((s_0.length:Nat):Int)+(v_2.length:Int))) - 0).toNat:Nat):Int) - i_1).toNat) v_2)))) fun (z7:List Qlf)=>
            some ((z7,()),())
           else none
          else none
         else none
        else none
       else none
      else none
     else none
    else none
   else none
  else none
 else none
theorem Z6c (c:Nat) (s_0:List Qlf) (i_1:Int) (v_2:List Qlf):Qde Z0d tab { Qze with cap:=c } 1 [.ownc 53 t52,.val t2,.own 53 t52] [⟨t29,[true],none⟩] Tryz.f203 (s_0,i_1,v_2,())=Z0i c s_0 i_1 v_2:=by kernel_rfl
theorem Z60 (c:Nat) (s_0:List Qlf) (i_1:Int) (v_2:List Qlf):Z0i c s_0 i_1 v_2=Qei ((0,0,0):Int × Int × Int) c s_0 i_1 v_2:=by kernel_rfl
noncomputable def Qxk (s_0:List Qlf) (i_1:Int) (v_2:List Qlf):Option ((Z6m × Unit) × Unit):=Qeg s_0 i_1 v_2
noncomputable def Zae:Ent:=⟨[.ownc 53 t52,.val t2,.own 53 t52],[⟨t29,[true],none⟩],fun x=>Qxk x.1 x.2.1 x.2.2.1⟩
theorem Z68:Q4u tab.ty Tryz.prog 203 Zae:=by
  refine Qgs (Γ:=Z0d) (fi:=Qze) (n:=1) follows (Qjy (Qjx Tryz.func203 (by kernel_rfl) (by kernel_rfl)) Qk3) Zff Tryz.func203 (by kernel_rfl) (by kernel_rfl) (fun c x r hc h=>?_)
  obtain ⟨s_0,i_1,v_2,_u⟩:=x
  exact (Z6c c s_0 i_1 v_2).trans ((Z60 c s_0 i_1 v_2).trans (Qin ((0,0,0):Int × Int × Int) c s_0 i_1 v_2 r hc h))
noncomputable def Z7l (l_0:List Qlf) (k_1:Int × Int × Int):Option ((Z6m × Bool × Unit) × Unit):=
 Option.bind (Qna l_0) fun r1=>
 Option.bind (Zbr l_0 k_1.1 k_1.2.1) fun r2=>
 bif r2.1.1 then
  some ((r1.1.1,false,()),())
 else
  Option.bind (Z3u l_0 k_1.1) fun r3=>
  bif r3.1.2.1 then
   bif decide (0≤r3.1.1)&&decide (r3.1.1<(r1.1.1.length:Int)) then
    bif decide (0≤r3.1.1)&&decide (r3.1.1<(r1.1.1.length:Int)) then
     some ((List.set r1.1.1 r3.1.1.toNat k_1,true,()),())
    else none
   else none
  else
   Option.bind (Qxk r1.1.1 r3.1.1 [k_1]) fun r4=>
   some ((r4.1.1,true,()),())
noncomputable def Zlh:Ent:=⟨[.val t29,.val t52],[⟨t29,[true],none⟩,⟨t4,[false],none⟩],fun x=>Z7l x.1 x.2.1⟩
theorem Zgq:GD 182 Zlh:=fnk 1 (fo [[0,3],[0,3,6],[0,3,6,16],[4,5],[3,6,7,8],[3,6,7,25],[6],[4,5],[4,5]]) (Qjy Qq9 (Qjy Zb0 (Qjy Z6q (Qjy Z68 Qk3)))) Tryz.func182
noncomputable def Quq (n_0:Qwp × List Z59) (m_1:Int × Int × Int × Int × Int × Int × (List Int) × Int × Int × ByteArray):Option (Unit × (Zak × Unit)):=
 Option.bind (Z7l (h12 n_0.1) (m_1.2.1,(g3 m_1),n_0.1.2.2.1)) fun r1=>
 some ((),(((e12 n_0.1 r1.1.1),n_0.2),()))
noncomputable def Zen:Ent:=⟨[.box 141 Znq (nF 13++[true]),.val t45],[],fun x=>Quq x.1 x.2.1⟩
theorem Z0z:GD 153 Zen:=fnk 1 (fo [[0,3],[0]]) (Qjy Zgq Qk3) Tryz.func153
noncomputable def Qt7 (n_0:Qwp × List Z59) (m_1:Int × Int × Int × Int × Int × Int × (List Int) × Int × Int × ByteArray) (lo_2:Int):Option (Unit × (Zak × Unit)):=
 Option.bind (Qzy n_0 m_1.2.1) fun r1=>
 bif !r1.1.1 then
  Option.bind (Qks r1.2.1 3 m_1.2.1 0) fun r2=>
  some ((),(r2.2.1,()))
 else
  Option.bind (Quq r1.2.1 m_1) fun r3=>
  Option.bind (Qks r3.2.1 2 m_1.2.1 lo_2) fun r4=>
  some ((),(r4.2.1,()))
noncomputable def Zdh:Ent:=⟨[.box 141 Znq (nF 13++[true]),.val t45,.val t2],[],fun x=>Qt7 x.1 x.2.1 x.2.2.1⟩
theorem Z90:GD 92 Zdh:=fnk 1 (fo [[0,2,4],[0,2,4,10],[0],[0,2,4],[0]]) (Qjy Qry (Qjy Zbd (Qjy Z0z Qk3))) Tryz.func92
noncomputable def Zbj (p_0:List Int) (id_1:Int):Option (((List Int) × Bool × Unit) × Unit):=
 Option.bind (Qn9 p_0) fun r1=>
 bif Nat.ble (r1.1.1.length+1) 1073741824 then
  Option.bind (Qzu (r1.1.1++[id_1])) fun r2=>
  bif !r2.1.1 then
   some (([],false,()),())
  else
   some ((r1.1.1++[id_1],true,()),())
 else none
noncomputable def Zn0:Ent:=⟨[.val t28,.val t2],[⟨t28,[true],none⟩,⟨t4,[false],none⟩],fun x=>Zbj x.1 x.2.1⟩
theorem Zbo:GD 154 Zn0:=fnk 1 (fo [[0,1],[6],[6,14],[4,5],[4,5]]) (Qjy Qqd (Qjy Zbu Qk3)) Tryz.func154
noncomputable def Z4b (p_0:List Int):Option ((Int × Unit) × Unit):=
 bif decide ((p_0.length:Int)<2) then
  some ((0,()),())
 else
 bif decide (0≤IntKind.wrap .i64 ((p_0.length:Int) - 2))&&decide (IntKind.wrap .i64 ((p_0.length:Int) - 2)<(p_0.length:Int)) then
  some ((List.getD p_0 ((IntKind.wrap .i64 ((p_0.length:Int) - 2)).toNat) 0,()),())
 else none
noncomputable def Zk0:Ent:=⟨[.val t28],[⟨t2,[false],none⟩],fun x=>Z4b x.1⟩
theorem Zf3:GD 184 Zk0:=fnk 1 (fo [[0],[0,5],[2],[2]]) Qk3 Tryz.func184
noncomputable def Qya (n_0:Qwp × List Z59) (m_1:Int × Int × Int × Int × Int × Int × (List Int) × Int × Int × ByteArray) (p_2:List Int):Option (Unit × (Zak × Unit)):=
 Option.bind (Z4b (g6 m_1)) fun r1=>
 bif r1.1.1==0 then
  some ((),(((u6 (u5 n_0.1 1) p_2),n_0.2),()))
 else
  some ((),(((u6 (u5 n_0.1 r1.1.1) p_2),n_0.2),()))
noncomputable def Zh8:Ent:=⟨[.box 141 Znq (nF 13++[true]),.val t45,.val t28],[],fun x=>Qya x.1 x.2.1 x.2.2.1⟩
theorem Z4e:GD 155 Zh8:=fnk 1 (fo [[0,2,4],[0],[0,23],[0]]) (Qjy Zf3 Qk3) Tryz.func155
noncomputable def Qss (n_0:Qwp × List Z59) (m_1:Int × Int × Int × Int × Int × Int × (List Int) × Int × Int × ByteArray):Option (Unit × (Zak × Unit)):=
 Option.bind (Qks ((u9 n_0.1 0),n_0.2) 6 m_1.2.1 0) fun r4=>
 some ((),(((u11 r4.2.1.1 (IntKind.wrap .i64 ((g11 r4.2.1.1)+1))),r4.2.1.2),()))
noncomputable def Qta (n_0:Qwp × List Z59) (m_1:Int × Int × Int × Int × Int × Int × (List Int) × Int × Int × ByteArray):Option (Unit × (Zak × Unit)):=
 bif (g9 n_0.1) != m_1.2.1 then
  bif (g3 n_0.1) != m_1.2.1 then
   Option.bind (Qks n_0 6 m_1.2.1 0) fun r1=>
   some ((),(r1.2.1,()))
  else
   some ((),(n_0,()))
 else
 bif (g3 n_0.1) != 0 then
  bif (g3 n_0.1) != m_1.2.1 then
   Option.bind (Qks n_0 6 m_1.2.1 0) fun r2=>
   some ((),(r2.2.1,()))
  else
   some ((),(n_0,()))
 else
  Option.bind (Zbj (g6 m_1) n_0.1.1) fun r3=>
  bif !r3.1.2.1 then
   Qss n_0 m_1
  else
  bif decide ((g5 m_1)>20) then
   Qss n_0 m_1
  else
   Option.bind (Qya ((u9 n_0.1 0),n_0.2) m_1 r3.1.1) fun r6=>
   some ((),(((u11 (u8 (u7 (u4 (u3 r6.2.1.1 m_1.2.1) (g3 m_1)) (g4 m_1)) (IntKind.wrap .i64 (r6.2.1.1.2.2.1 - (g5 m_1)))) 0),r6.2.1.2),()))
noncomputable def Zda:Ent:=⟨[.box 141 Znq (nF 13++[true]),.val t45],[],fun x=>Qta x.1 x.2.1⟩
theorem Z8t:GD 93 Zda:=fnk 1 (fo [[0,3,15,16,17,18,19,20,52,53,54],[0,3,21,52,53,54],[0,3,29],[0],[0,3,52,53,54],[0,3,4,5,52,53,54],[0,3,4,55],[0],[0],[0,3],[0]]) (Qjy Qry (Qjy Zbo (Qjy Z4e Qk3))) Tryz.func93
noncomputable def Qw0 (n_0:Qwp × List Z59) (m_1:Int × Int × Int × Int × Int × Int × (List Int) × Int × Int × ByteArray):Option (Unit × (Zak × Unit)):=
 bif m_1.2.1==(g9 n_0.1) then
  some ((),(((u11 (u9 n_0.1 0) (IntKind.wrap .i64 ((g11 n_0.1)+1))),n_0.2),()))
 else
 bif m_1.2.1==(g3 n_0.1) then
  Option.bind (Qwr n_0 0) fun r1=>
  some ((),(r1.2.1,()))
 else
  some ((),(n_0,()))
noncomputable def Zde:Ent:=⟨[.box 141 Znq (nF 13++[true]),.val t45],[],fun x=>Qw0 x.1 x.2.1⟩
theorem Z9c:GD 94 Zde:=fnk 1 (fo [[0,3],[0,5],[0,5,6],[0],[0],[0,26],[0]]) (Qjy Qwe Qk3) Tryz.func94
noncomputable def Qt1 (n_0:Qwp × List Z59) (m_1:Int × Int × Int × Int × Int × Int × (List Int) × Int × Int × ByteArray):Option (Unit × (Zak × Unit)):=
 Option.bind (Qy5 (h12 n_0.1) m_1.2.1) fun r1=>
 bif r1.1.2.1 then
  Option.bind (Quq n_0 m_1) fun r2=>
  some ((),(r2.2.1,()))
 else
  Option.bind (Qks n_0 3 m_1.2.1 0) fun r3=>
  some ((),(r3.2.1,()))
noncomputable def Zcx:Ent:=⟨[.box 141 Znq (nF 13++[true]),.val t45],[],fun x=>Qt1 x.1 x.2.1⟩
theorem Z99:GD 95 Zcx:=fnk 1 (fo [[0,3],[0,3,5],[0,3,17],[0],[0]]) (Qjy Qxr (Qjy Qry (Qjy Z0z Qk3))) Tryz.func95
noncomputable def Qwq (n_0:Qwp × List Z59) (m_1:Int × Int × Int × Int × Int × Int × (List Int) × Int × Int × ByteArray):Option (Unit × (Zak × Unit)):=
 bif m_1.2.1 != (g3 n_0.1) then
  Option.bind (Qks n_0 6 m_1.2.1 0) fun r1=>
  some ((),(r1.2.1,()))
 else
  Option.bind (Zbj (g6 m_1) n_0.1.1) fun r2=>
  bif !r2.1.2.1 then
   Option.bind (Qks n_0 6 m_1.2.1 0) fun r3=>
   Option.bind (Qwr r3.2.1 1) fun r4=>
   some ((),(r4.2.1,()))
  else
   Option.bind (Qya n_0 m_1 r2.1.1) fun r5=>
   bif decide (IntKind.wrap .i64 (r5.2.1.1.2.2.1 - (g5 m_1))>(g8 r5.2.1.1)) then
    some ((),(((u8 (u7 r5.2.1.1 (g4 m_1)) (IntKind.wrap .i64 (r5.2.1.1.2.2.1 - (g5 m_1)))),r5.2.1.2),()))
   else
    some ((),(r5.2.1,()))
noncomputable def Zd3:Ent:=⟨[.box 141 Znq (nF 13++[true]),.val t45],[],fun x=>Qwq x.1 x.2.1⟩
theorem Z9d:GD 96 Zd3:=fnk 1 (fo [[0,3],[0,3,13],[0],[0,3,4,5],[0,3,4,30],[0],[0],[0,3],[0,3,54],[0]]) (Qjy Qwe (Qjy Qry (Qjy Zbo (Qjy Z4e Qk3)))) Tryz.func96
abbrev Qmg:Type:=(Int × Unit) × Unit
noncomputable def Z6e:Ctx:=[]
def Qwm:Fi:=fo [[0,1],[0,1,7,8],[0,1,7,8,9],[0,1,5,7,8],[0,1,5,7,8,16],[4],[0,1,7,8],[4]]
abbrev Qs9:Type:=Z6m→(Qlf × Unit→Option (Bool × Unit))→Int→Int→Option Qmg
noncomputable def Qlv (L1:Qs9) (v1:List Qlf) (v2:(Qlf × Unit→Option (Bool × Unit))) (v3 v4:Int):Option Qmg:=
 bif decide (v4<v3) then
  bif decide (0≤v4)&&decide (v4<(v1.length:Int)) then
   Option.bind (v2 ((List.getD v1 v4.toNat (0,0,0)),())) fun r5=>
   bif r5.1 then
    some ((v4,()),())
   else
    L1 v1 v2 v3 (IntKind.wrap .i64 (v4+1))
  else none
 else
  some (((-1),()),())
noncomputable def Qxa (L1:Qs9) (s_0:List Qlf) (f_1:(Qlf × Unit→Option (Bool × Unit))):Option Qmg:=
 L1 s_0 f_1 (s_0.length:Int) 0
noncomputable def Ql4 (n:Nat):Nat→Qs9:=iter (fun _ _ _ _=>none) fun L=>Qlv L
noncomputable def Qoz (n m:Nat) (v1:List Qlf) (v2:(Qlf × Unit→Option (Bool × Unit))) (v3 v4:Int):Option Qmg:=
 Qjv Z6e tab (fiB [.val t29,.fn [t52] [t4]] Qwm) n [.val t29,.fn [t52] [t4]] [⟨t2,[false],none⟩] Tryz.f185 [1,0,1,0] [] [0,1,7,8] m
 ⟨[(0,Vp t29 v1),(1,V1 (.clo [t52] [t4] v2)),(7,Vp t2 v3),(8,Vp t2 v4)],[]⟩
theorem Qvi (n:Nat):∀ m,Qoz n m=Ql4 n m
 | 0=>rfl
 | m+1=>by rw [show Qoz n (m+1)=Qlv (Qoz n m) from by kernel_rfl,Qvi n m];rfl
noncomputable def Qwv (n:Nat) (s_0:List Qlf) (f_1:(Qlf × Unit→Option (Bool × Unit))):Option Qmg:=Qxa (Ql4 n n) s_0 f_1
noncomputable def Quc (s_0:List Qlf) (f_1:(Qlf × Unit→Option (Bool × Unit))):Option Qmg:=Qwv 1099511627776 s_0 f_1
noncomputable def Qx3:Ent:=⟨[.val t29,.fn [t52] [t4]],[⟨t2,[false],none⟩],fun x=>Quc x.1 x.2.1⟩
theorem Z36:GD 185 Qx3:=fnl Qwm (fun n x=>Qwv n x.1 x.2.1) Qk3 Tryz.func185 fun n x=>Eq.trans (b:=Qxa (Qoz n n) x.1 x.2.1) (by kernel_rfl) (by rw [Qvi n n];rfl)
abbrev Qm3:Type:=(Z6m × Unit) × Unit
noncomputable def Z57:Ctx:=[(156,Qjh),(185,Qx3)]
def Qvj:Fi:={ keep:=[],vty:=[],vals:=[],live:=[(0,[0,1]),(1,[0,1,5]),(2,[0,1,5,12]),(3,[4]),(4,[0,1,5,6]),(5,[0,1,5,6,19]),(6,[0,1,5,6]),(7,[0,1,5,6,7]),(8,[0,1,5,6,7,29]),(9,[0,1,5,6]),(10,[0,1,5,6]),(11,[0,5]),(12,[4])],melt:=[(11,1000000),(12,1000000)] }
abbrev Qrg:Type:=(Qlf × Unit→Option (Bool × Unit))→Int→Int→Z6m→Option Qm3
noncomputable def Qlp (L1:Qrg) (v2:(Qlf × Unit→Option (Bool × Unit))) (v3 v4:Int) (v5:List Qlf):Option Qm3:=
 bif decide (v4<(v5.length:Int)) then
  bif decide (0≤v4)&&decide (v4<(v5.length:Int)) then
   bif decide (0≤v4)&&decide (v4<(v5.length:Int)) then
    Option.bind (v2 ((List.getD v5 v4.toNat (0,0,0)),())) fun r6=>
    bif !r6.1 then
     bif decide (0≤v3)&&decide (v3<(v5.length:Int)) then
      bif decide (0≤v3)&&decide (v3<(v5.length:Int)) then
       L1 v2 (IntKind.wrap .i64 (v3+1)) (IntKind.wrap .i64 (v4+1)) (List.set v5 v3.toNat (List.getD v5 v4.toNat (0,0,0)))
      else none
     else none
    else
     L1 v2 v3 (IntKind.wrap .i64 (v4+1)) v5
   else none
  else none
 else
 bif (decide (0≤v3)&&decide (v3≤((v5.length:Nat):Int)))&&decide (((v5.length:Nat):Int)≤(((List.map some v5).length:Nat):Int)) then
  bif Nat.ble ((0+v3.toNat)+((((v5.length:Nat):Int) - v3).toNat)) ((List.map some v5).length) then
   bif decide (0≤v3)&&decide (v3≤(((Q6 (List.map some v5) (0+v3.toNat) (List.replicate ((((v5.length:Nat):Int) - v3).toNat) ((0,0,0):Int × Int × Int))).length:Nat):Int)) then
    bif Nat.ble ((v3 - 0).toNat) ((Q6 (List.map some v5) (0+v3.toNat) (List.replicate ((((v5.length:Nat):Int) - v3).toNat) ((0,0,0):Int × Int × Int))).length) then
     Option.bind (Qd (List.take ((v3 - 0).toNat) (Q6 (List.map some v5) (0+v3.toNat) (List.replicate ((((v5.length:Nat):Int) - v3).toNat) ((0,0,0):Int × Int × Int))))) fun z7=>
     some ((z7,()),())
    else none
   else none
  else none
 else none
noncomputable def Qp2 (L1:Qrg) (s_0:List Qlf) (del_1:(Qlf × Unit→Option (Bool × Unit))):Option Qm3:=
 Option.bind (Quc s_0 del_1) fun r1=>
 bif r1.1.1==(-1) then
  some ((s_0,()),())
 else
  L1 del_1 r1.1.1 (IntKind.wrap .i64 (r1.1.1+1)) s_0
noncomputable def Qlj (n:Nat):Nat→Qrg:=iter (fun _ _ _ _=>none) fun L=>Qlp L
noncomputable def Qol (n m:Nat) (v2:(Qlf × Unit→Option (Bool × Unit))) (v3 v4:Int) (v5:List Qlf):Option Qm3:=
 Qjv Z57 tab (fiB [.own 53 t52,.fn [t52] [t4]] Qvj) n [.own 53 t52,.fn [t52] [t4]] [⟨t29,[true],none⟩] Tryz.f156 [1,1,1,0,1,0] [] [0,1,5,6] m
 ⟨[(0,V1 (.ref (888888,0))),(1,V1 (.clo [t52] [t4] v2)),(5,Vp t2 v3),(6,Vp t2 v4)],[((888888,0),Ob.row 53 t52 v5)]⟩
theorem Que (n:Nat):∀ m,Qol n m=Qlj n m
 | 0=>rfl
 | m+1=>by rw [show Qol n (m+1)=Qlp (Qol n m) from by kernel_rfl,Que n m];rfl
noncomputable def Qvr (n:Nat) (s_0:List Qlf) (del_1:(Qlf × Unit→Option (Bool × Unit))):Option Qm3:=Qp2 (Qlj n n) s_0 del_1
noncomputable def Qt8 (s_0:List Qlf) (del_1:(Qlf × Unit→Option (Bool × Unit))):Option Qm3:=Qvr 1099511627776 s_0 del_1
noncomputable def Z5a:Ent:=⟨[.own 53 t52,.fn [t52] [t4]],[⟨t29,[true],none⟩],fun x=>Qt8 x.1 x.2.1⟩
theorem Z1n:GD 156 Z5a:=fnl Qvj (fun n x=>Qvr n x.1 x.2.1) (Qjy (Qjx Tryz.func156 (by kernel_rfl) (by kernel_rfl)) (Qjy Z36 Qk3)) Tryz.func156 fun n x=>Eq.trans (b:=Qp2 (Qol n n) x.1 x.2.1) (by kernel_rfl) (by rw [Que n n];rfl)
noncomputable def Zc0 (k_0:Int × Int × Int) (x_1:Int):Option ((Bool × Unit) × Unit):=
 some ((k_0.1==x_1,()),())
noncomputable def Zfs:Ent:=⟨[.val t52,.rbox t2],[⟨t4,[false],none⟩],fun x=>Zc0 x.1 x.2.1⟩
theorem Zcg:GD 157 Zfs:=fnk 1 (fo [[1,2],[3]]) Qk3 Tryz.func157
noncomputable def Z81 (l_0:List Qlf) (id_1:Int):Option ((Z6m × Unit) × Unit):=
 Option.bind (Qna l_0) fun r1=>
 Option.bind (Qt8 r1.1.1 (fun x=>(Zc0 x.1 id_1).bind fun r=>some (r.1.1,()))) fun r2=>
 some ((r2.1.1,()),())
noncomputable def Zkw:Ent:=⟨[.val t29,.val t2],[⟨t29,[true],none⟩],fun x=>Z81 x.1 x.2.1⟩
theorem Zh4:GD 97 Zkw:=fnk 1 (fo [[0,3],[4]]) (Qjy Qq9 (Qjy Z1n (Qjy Zcg Qk3))) Tryz.func97
noncomputable def Qq8 (m_1:Int × Int × Int × Int × Int × Int × (List Int) × Int × Int × ByteArray) (r1:(Zak × Unit) × Unit) (lo_2:Int):Option ((Qwp × Zd7 × Unit) × Unit):=
 bif m_1.1==1 then
  Option.bind (Qt7 r1.1.1 m_1 lo_2) fun r10=>
  some ((r10.2.1.1,r10.2.1.2,()),())
 else
 bif m_1.1==2 then
  Option.bind (Qta r1.1.1 m_1) fun r11=>
  some ((r11.2.1.1,r11.2.1.2,()),())
 else
 bif m_1.1==3 then
  Option.bind (Qw0 r1.1.1 m_1) fun r12=>
  some ((r12.2.1.1,r12.2.1.2,()),())
 else
 bif m_1.1==4 then
  Option.bind (Qt1 r1.1.1 m_1) fun r13=>
  some ((r13.2.1.1,r13.2.1.2,()),())
 else
 bif m_1.1==5 then
  Option.bind (Qwq r1.1.1 m_1) fun r14=>
  some ((r14.2.1.1,r14.2.1.2,()),())
 else
 bif m_1.1==6 then
  Option.bind (Z81 (h12 r1.1.1.1) m_1.2.1) fun r15=>
  some (((e12 r1.1.1.1 r15.1.1),r1.1.1.2,()),())
 else
  some ((r1.1.1.1,r1.1.1.2,()),())
noncomputable def Z7o (r1:(Zak × Unit) × Unit) (m_1:Int × Int × Int × Int × Int × Int × (List Int) × Int × Int × ByteArray) (lo_2:Int):Option ((Qwp × Zd7 × Unit) × Unit):=
 bif (g3 r1.1.1.1) != 0 then
  bif m_1.2.1==(g3 r1.1.1.1) then
   bif decide ((g3 m_1)>(g4 r1.1.1.1)) then
    Option.bind (Qwr r1.1.1 0) fun r3=>
    bif m_1.1==1 then
     Option.bind (Qt7 r3.2.1 m_1 lo_2) fun r4=>
     some ((r4.2.1.1,r4.2.1.2,()),())
    else
    bif m_1.1==2 then
     Option.bind (Qta r3.2.1 m_1) fun r5=>
     some ((r5.2.1.1,r5.2.1.2,()),())
    else
    bif m_1.1==3 then
     Option.bind (Qw0 r3.2.1 m_1) fun r6=>
     some ((r6.2.1.1,r6.2.1.2,()),())
    else
    bif m_1.1==4 then
     Option.bind (Qt1 r3.2.1 m_1) fun r7=>
     some ((r7.2.1.1,r7.2.1.2,()),())
    else
    bif m_1.1==5 then
     Option.bind (Qwq r3.2.1 m_1) fun r8=>
     some ((r8.2.1.1,r8.2.1.2,()),())
    else
    bif m_1.1==6 then
     Option.bind (Z81 (h12 r3.2.1.1) m_1.2.1) fun r9=>
     some (((e12 r3.2.1.1 r9.1.1),r3.2.1.2,()),())
    else
     some ((r3.2.1.1,r3.2.1.2,()),())
   else
    Qq8 m_1 r1 lo_2
  else
   Qq8 m_1 r1 lo_2
 else
  Qq8 m_1 r1 lo_2
noncomputable def Zc1 (t_0:Int × Int × Int × Int × Int × Int × (List Int) × Int × Int × Int × Int × Int × List Qlf) (m_1:Int × Int × Int × Int × Int × Int × (List Int) × Int × Int × ByteArray) (lo_2:Int):Option ((Qwp × Zd7 × Unit) × Unit):=
 Option.bind (Zm5 t_0) fun r1=>
 Option.bind (Zbr (h12 r1.1.1.1) m_1.2.1 (g3 m_1)) fun r2=>
 bif r2.1.1 then
  some ((r1.1.1.1,[],()),())
 else
 bif m_1.2.1==(g3 r1.1.1.1) then
  bif decide ((g3 m_1)<(g4 r1.1.1.1)) then
   some ((r1.1.1.1,[],()),())
  else
   Z7o r1 m_1 lo_2
 else
  Z7o r1 m_1 lo_2
noncomputable def Zl4:Ent:=⟨[.val t30,.val t45,.val t2],[⟨t30,(nF 13),none⟩,⟨t48,[true],none⟩],fun x=>Zc1 x.1 x.2.1 x.2.2.1⟩
theorem Zh1:GD 46 Zl4:=fnk 1 (fo [[2,3,4,6,22,23,24,25,26,27,28,29,30,31,32,33,34,35,36,37,38,39,52,53,54,55,56,57,58,59,62,63,64,65,66,67,68,69],[2,4,6,8,22,23,24,25,26,27,28,29,30,31,32,33,34,35,36,37,38,39,52,53,54,55,56,57,58,59,62,63,64,65,66,67,68,69],[2,4,6,8,40,52,53,54,55,56,57,58,59,62,63,64,65,66,67,68,69],[6,7],[2,4,6,8,70],[2,4,6,8],[2,4,6,8,74],[2,4,6,8,74,75],[6,8],[4,6,8,74,81],[6,8],[4,6,8,74,86],[6,8],[4,6,8,74,91],[6,8],[4,6,8,74,96],[6,8],[4,6,8,101],[6,8],[6,7]]) (Qjy Zky (Qjy Zb0 (Qjy Qwe (Qjy Z90 (Qjy Z8t (Qjy Z9c (Qjy Z99 (Qjy Z9d (Qjy Zh4 Qk3))))))))) Tryz.func46
abbrev Qkd:Type:=(Int × Bool × Unit) × Unit
noncomputable def Qtf:Ctx:=[]
def Qnt:Fi:=fo [[0,1,2,40,41,42,43,44,45,46,47],[0,1,2,8,40,41,42,43,44,45,46,47],[0,1,2,8,9,10,40,41,42,43,44,45,46,47],[0,1,2,8,9,10,17,40,41,42,43,44,45,46,47],[0,1,2,8,9,10,11,40,41,42,43,44,45,46,47],[0,1,2,8,9,10,11,31,40,41,42,43,44,45,46,47],[0,1,2,8,9,10,40,41,42,43,44,45,46,47],[0,1,2,8,9,10,40,41,42,43,44,45,46,47],[6,7]]
abbrev Qlg:Type:=Qlh→Int→(Qlw × Int × Unit→Option (Int × Unit))→Int→Int→Int→Option Qkd
noncomputable def Qko (L1:Qlg) (v1:List Qlw) (v2:Int) (v3:(Qlw × Int × Unit→Option (Int × Unit))) (v4 v5 v6:Int):Option Qkd:=
 bif decide (v5<v6) then
  bif decide (0≤IntKind.wrap .i64 (Int.fdiv (IntKind.wrap .u64 (IntKind.wrap .i64 (v5+v6))) (2 ^ 1)))&&decide (IntKind.wrap .i64 (Int.fdiv (IntKind.wrap .u64 (IntKind.wrap .i64 (v5+v6))) (2 ^ 1))<(v1.length:Int)) then
   Option.bind (v3 ((List.getD v1 ((IntKind.wrap .i64 (Int.fdiv (IntKind.wrap .u64 (IntKind.wrap .i64 (v5+v6))) (2 ^ 1))).toNat) (0,(⟨#[]⟩:ByteArray))),v2,())) fun r7=>
   bif decide (r7.1<0) then
    L1 v1 v2 v3 v4 (IntKind.wrap .i64 ((IntKind.wrap .i64 (Int.fdiv (IntKind.wrap .u64 (IntKind.wrap .i64 (v5+v6))) (2 ^ 1)))+1)) v6
   else
    L1 v1 v2 v3 v4 v5 (IntKind.wrap .i64 (Int.fdiv (IntKind.wrap .u64 (IntKind.wrap .i64 (v5+v6))) (2 ^ 1)))
  else none
 else
 bif decide (v5<v4) then
  bif decide (0≤v5)&&decide (v5<(v1.length:Int)) then
   Option.bind (v3 ((List.getD v1 v5.toNat (0,(⟨#[]⟩:ByteArray))),v2,())) fun r8=>
   some ((v5,r8.1==0,()),())
  else none
 else
  some ((v5,false,()),())
noncomputable def Qny (L1:Qlg) (x_0:List Qlw) (target_1:Int) (cmp_2:(Qlw × Int × Unit→Option (Int × Unit))):Option Qkd:=
 L1 x_0 target_1 cmp_2 (x_0.length:Int) 0 (x_0.length:Int)
noncomputable def Qkp (n:Nat):Nat→Qlg:=iter (fun _ _ _ _ _ _=>none) fun L=>Qko L
noncomputable def Qkn (n m:Nat) (v1:List Qlw) (v2:Int) (v3:(Qlw × Int × Unit→Option (Int × Unit))) (v4 v5 v6:Int):Option Qkd:=
 Qjv Qtf tab (fiB [.val t32,.val t2,.fn [t58,t2] [t2]] Qnt) n [.val t32,.val t2,.fn [t58,t2] [t2]] [⟨t2,[false],none⟩,⟨t4,[false],none⟩] Tryz.f189 [1,1,1,0,0] [] [0,1,2,8,9,10] m
 ⟨[(0,Vp t32 v1),(1,Vp t2 v2),(2,V1 (.clo [t58,t2] [t2] v3)),(8,Vp t2 v4),(9,Vp t2 v5),(10,Vp t2 v6)],[]⟩
theorem Qne (n:Nat):∀ m,Qkn n m=Qkp n m
 | 0=>rfl
 | m+1=>by rw [show Qkn n (m+1)=Qko (Qkn n m) from by kernel_rfl,Qne n m];rfl
noncomputable def Qnv (n:Nat) (x_0:List Qlw) (target_1:Int) (cmp_2:(Qlw × Int × Unit→Option (Int × Unit))):Option Qkd:=Qny (Qkp n n) x_0 target_1 cmp_2
noncomputable def Qkx (x_0:List Qlw) (target_1:Int) (cmp_2:(Qlw × Int × Unit→Option (Int × Unit))):Option Qkd:=Qnv 1099511627776 x_0 target_1 cmp_2
noncomputable def Qsz:Ent:=⟨[.val t32,.val t2,.fn [t58,t2] [t2]],[⟨t2,[false],none⟩,⟨t4,[false],none⟩],fun x=>Qkx x.1 x.2.1 x.2.2.1⟩
theorem Qn7:GD 189 Qsz:=fnl Qnt (fun n x=>Qnv n x.1 x.2.1 x.2.2.1) Qk3 Tryz.func189 fun n x=>Eq.trans (b:=Qny (Qkn n n) x.1 x.2.1 x.2.2.1) (by kernel_rfl) (by rw [Qne n n];rfl)
noncomputable def Z89 (i_0:Int × ByteArray) (seq_1:Int):Option ((Int × Unit) × Unit):=
 Option.bind (Qr8 i_0.1 seq_1) fun r1=>
 some ((r1.1.1,()),())
noncomputable def Zgr:Ent:=⟨[.val t58,.val t2],[⟨t2,[false],none⟩],fun x=>Z89 x.1 x.2.1⟩
theorem Zd6:GD 190 Zgr:=fnk 1 (fo [[1,2],[4]]) (Qjy Qu9 Qk3) Tryz.func190
noncomputable def Zex (l_0:List Qlw) (seq_1:Int):Option ((ByteArray × Bool × Unit) × Unit):=
 Option.bind (Qkx l_0 seq_1 (fun x=>(Z89 x.1 x.2.1).bind fun r=>some (r.1.1,()))) fun r1=>
 bif !r1.1.2.1 then
  some (((⟨#[]⟩:ByteArray),false,()),())
 else
 bif decide (0≤r1.1.1)&&decide (r1.1.1<(l_0.length:Int)) then
  some (((List.getD l_0 r1.1.1.toNat (0,(⟨#[]⟩:ByteArray))).2,true,()),())
 else none
noncomputable def Zhx:Ent:=⟨[.val t32,.val t2],[⟨t9,[false],none⟩,⟨t4,[false],none⟩],fun x=>Zex x.1 x.2.1⟩
theorem Ziu:GD 159 Zhx:=fnk 1 (fo [[0,1],[0,6,7],[0,6,15],[4,5],[4,5]]) (Qjy Qn7 (Qjy Zd6 Qk3)) Tryz.func159
abbrev Qrl:Type:=(Qlh × Zgs × Unit) × Unit
noncomputable def Zkf:Ctx:=[(159,Zhx)]
def Zb7:Fi:={ keep:=[],vty:=[(6,32),(7,146)],vals:=[],live:=[(0,[1,2,3,6,7,25,26,27,28,48,49,52,53,60,61,62,63,64,65,66,67,68]),(1,[1,2,3,6,7,14,25,26,27,28,48,49,52,53,60,61,62,63,64,65,66,67,68]),(2,[6,7]),(3,[1,2,3,6,7,25,26,27,28,48,49,52,53,60,61,62,63,64,65,66,67,68]),(4,[1,2,3,6,7,8,25,26,27,28,48,49,52,53,60,61,62,63,64,65,66,67,68]),(5,[1,2,3,6,7,8,25,26,27,28,29,48,49,52,53,60,61,62,63,64,65,66,67,68]),(6,[1,2,3,6,7,8,25,26,27,28,48,49,52,53,60,61,62,63,64,65,66,67,68]),(7,[1,2,3,6,7,8,9,10,25,26,27,28,48,49,52,53,60,61,62,63,64,65,66,67,68]),(8,[1,2,3,6,7,8,9,10,25,26,27,28,39,48,49,52,53,60,61,62,63,64,65,66,67,68]),(9,[1,2,3,6,7,8,10,25,26,27,28,48,49,52,53,60,61,62,63,64,65,66,67,68]),(10,[1,2,3,6,7,8,25,26,27,28,48,49,52,53,54,60,61,62,63,64,65,66,67,68]),(11,[1,2,3,6,7,8,11,25,26,27,28,48,49,52,53,60,61,62,63,64,65,66,67,68]),(12,[1,2,3,6,7,8,11,25,26,27,28,48,49,52,53,60,61,62,63,64,65,66,67,68,69]),(13,[1,2,3,6,7,8,25,26,27,28,48,49,52,53,60,61,62,63,64,65,66,67,68]),(14,[1,2,3,6,7,8,25,26,27,28,48,49,52,53,60,61,62,63,64,65,66,67,68]),(15,[6,7])] }
abbrev Qw3:Type:=Int→Int→Int→Int→Int→Qlh→Qlh→Qto→Int→Int→Qlh→Zgs→Option Qrl
noncomputable def Zb1 (v12:List (Int × Int)) (L1:Qw3) (v1 v2 v3 v4 v5:Int) (v6 v7:List Qlw) (v8:List Qtb) (v9 v10:Int) (v11:List Qlw) (r13:(ByteArray × Bool × Unit) × Unit):Option Qrl:=
 bif Nat.ble (v12.length+1) 1073741824 then
  L1 v1 v2 (IntKind.wrap .i64 (v3+1)) v4 v5 v6 v7 v8 v9 v10 (v11++[(v3,r13.1.1)]) (v12++[(v3,v3)])
 else none
noncomputable def Z03 (v12:List (Int × Int)) (L1:Qw3) (v1 v2 v3 v4 v5:Int) (v6 v7:List Qlw) (v8:List Qtb) (v9 v10:Int) (v11:List Qlw):Option Qrl:=
 bif Nat.ble (v12.length+1) 1073741824 then
  L1 v1 v2 (IntKind.wrap .i64 (v3+1)) v4 v5 v6 v7 v8 v9 v10 v11 (v12++[(v3,v3)])
 else none
noncomputable def Qtx (L1:Qw3) (v1 v2 v3 v4 v5:Int) (v6 v7:List Qlw) (v8:List Qtb) (v9 v10:Int) (v11:List Qlw) (v12:List (Int × Int)):Option Qrl:=
 bif decide (v3≤v2) then
  bif decide (IntKind.wrap .i64 (v3 - v1)<8) then
   Option.bind (Zex v6 v3) fun r13=>
   bif r13.1.2.1 then
    bif Nat.ble (v11.length+1) 1073741824 then
     bif r13.1.2.1 then
      L1 v1 v2 (IntKind.wrap .i64 (v3+1)) v4 v5 v6 v7 v8 v9 v10 (v11++[(v3,r13.1.1)]) v12
     else
     bif decide (v3<1) then
      L1 v1 v2 (IntKind.wrap .i64 (v3+1)) v4 v5 v6 v7 v8 v9 v10 (v11++[(v3,r13.1.1)]) v12
     else
     bif decide (v3>1000000) then
      L1 v1 v2 (IntKind.wrap .i64 (v3+1)) v4 v5 v6 v7 v8 v9 v10 (v11++[(v3,r13.1.1)]) v12
     else
     bif decide ((v12.length:Int)>0) then
      bif decide (0≤IntKind.wrap .i64 ((v12.length:Int) - 1))&&decide (IntKind.wrap .i64 ((v12.length:Int) - 1)<(v12.length:Int)) then
       bif decide (0≤IntKind.wrap .i64 ((v12.length:Int) - 1))&&decide (IntKind.wrap .i64 ((v12.length:Int) - 1)<(v12.length:Int)) then
        bif ((List.getD v12 ((IntKind.wrap .i64 ((v12.length:Int) - 1)).toNat) (0,0)).2)==(IntKind.wrap .i64 (v3 - 1)) then
         bif decide (0≤IntKind.wrap .i64 ((v12.length:Int) - 1))&&decide (IntKind.wrap .i64 ((v12.length:Int) - 1)<(v12.length:Int)) then
          bif decide (0≤IntKind.wrap .i64 ((v12.length:Int) - 1))&&decide (IntKind.wrap .i64 ((v12.length:Int) - 1)<(v12.length:Int)) then
           L1 v1 v2 (IntKind.wrap .i64 (v3+1)) v4 v5 v6 v7 v8 v9 v10 (v11++[(v3,r13.1.1)]) (List.set v12 ((IntKind.wrap .i64 ((v12.length:Int) - 1)).toNat) ((List.getD v12 ((IntKind.wrap .i64 ((v12.length:Int) - 1)).toNat) (0,0)).1,v3))
          else none
         else none
        else
         Zb1 v12 L1 v1 v2 v3 v4 v5 v6 v7 v8 v9 v10 v11 r13
       else none
      else none
     else
      Zb1 v12 L1 v1 v2 v3 v4 v5 v6 v7 v8 v9 v10 v11 r13
    else none
   else
   bif r13.1.2.1 then
    L1 v1 v2 (IntKind.wrap .i64 (v3+1)) v4 v5 v6 v7 v8 v9 v10 v11 v12
   else
   bif decide (v3<1) then
    L1 v1 v2 (IntKind.wrap .i64 (v3+1)) v4 v5 v6 v7 v8 v9 v10 v11 v12
   else
   bif decide (v3>1000000) then
    L1 v1 v2 (IntKind.wrap .i64 (v3+1)) v4 v5 v6 v7 v8 v9 v10 v11 v12
   else
   bif decide ((v12.length:Int)>0) then
    bif decide (0≤IntKind.wrap .i64 ((v12.length:Int) - 1))&&decide (IntKind.wrap .i64 ((v12.length:Int) - 1)<(v12.length:Int)) then
     bif decide (0≤IntKind.wrap .i64 ((v12.length:Int) - 1))&&decide (IntKind.wrap .i64 ((v12.length:Int) - 1)<(v12.length:Int)) then
      bif ((List.getD v12 ((IntKind.wrap .i64 ((v12.length:Int) - 1)).toNat) (0,0)).2)==(IntKind.wrap .i64 (v3 - 1)) then
       bif decide (0≤IntKind.wrap .i64 ((v12.length:Int) - 1))&&decide (IntKind.wrap .i64 ((v12.length:Int) - 1)<(v12.length:Int)) then
        bif decide (0≤IntKind.wrap .i64 ((v12.length:Int) - 1))&&decide (IntKind.wrap .i64 ((v12.length:Int) - 1)<(v12.length:Int)) then
         L1 v1 v2 (IntKind.wrap .i64 (v3+1)) v4 v5 v6 v7 v8 v9 v10 v11 (List.set v12 ((IntKind.wrap .i64 ((v12.length:Int) - 1)).toNat) ((List.getD v12 ((IntKind.wrap .i64 ((v12.length:Int) - 1)).toNat) (0,0)).1,v3))
        else none
       else none
      else
       Z03 v12 L1 v1 v2 v3 v4 v5 v6 v7 v8 v9 v10 v11
     else none
    else none
   else
    Z03 v12 L1 v1 v2 v3 v4 v5 v6 v7 v8 v9 v10 v11
  else
   some ((v11,v12,()),())
 else
  some ((v11,v12,()),())
noncomputable def Z1v (L1:Qw3) (f_0:Int × Int × Qlh × Qlh × Qto × Int × Int) (lo_1 hi_2:Int):Option Qrl:=
 bif decide (f_0.1<1) then
  some (([],[],()),())
 else
  L1 lo_1 (if IntKind.wrap .i64 (f_0.1 - 1)<hi_2 then IntKind.wrap .i64 (f_0.1 - 1) else hi_2) lo_1 f_0.1 f_0.2.1 f_0.2.2.1 (g3 f_0) (g4 f_0) (g5 f_0) (h6 f_0) [] []
noncomputable def Qrx (n:Nat):Nat→Qw3:=iter (fun _ _ _ _ _ _ _ _ _ _ _ _=>none) fun L=>Qtx L
noncomputable def Z02 (n m:Nat) (v1 v2 v3 v4 v5:Int) (v6 v7:List Qlw) (v8:List Qtb) (v9 v10:Int) (v11:List Qlw) (v12:List (Int × Int)):Option Qrl:=
 Qjv Zkf tab (fiB [.val t36,.val t2,.val t2] Zb7) n [.val t36,.val t2,.val t2] [⟨t32,[true],none⟩,⟨Zpc,[true],none⟩] Tryz.f99 [1,1,1,0,1,0] [] [1,2,3,6,7,8] m
 ⟨[(1,Vp t2 v1),(2,Vp t2 v2),(3,V1 (.ptr (3,0) 0)),(6,V1 (.ref (888888,6))),(7,V1 (.ref (888888,7))),(8,Vp t2 v3)],[((3,0),Ob.box 37 [LV.pure t2 v4,LV.pure t2 v5,LV.pure t32 v6,LV.pure t32 v7,LV.pure t33 v8,LV.pure t2 v9,LV.pure t2 v10]),((888888,6),Ob.row 59 t58 v11),((888888,7),Ob.row 100 t34 v12)]⟩
theorem Z9j (n:Nat):∀ m,Z02 n m=Qrx n m
 | 0=>rfl
 | m+1=>by rw [show Z02 n (m+1)=Qtx (Z02 n m) from by kernel_rfl,Z9j n m];rfl
noncomputable def Ze7 (n:Nat) (f_0:Int × Int × Qlh × Qlh × Qto × Int × Int) (lo_1 hi_2:Int):Option Qrl:=Z1v (Qrx n n) f_0 lo_1 hi_2
noncomputable def Zdg (f_0:Int × Int × Qlh × Qlh × Qto × Int × Int) (lo_1 hi_2:Int):Option Qrl:=Ze7 1099511627776 f_0 lo_1 hi_2
noncomputable def Zdx:Ent:=⟨[.val t36,.val t2,.val t2],[⟨t32,[true],none⟩,⟨Zpc,[true],none⟩],fun x=>Zdg x.1 x.2.1 x.2.2.1⟩
theorem Zgf:GD 99 Zdx:=fnl Zb7 (fun n x=>Ze7 n x.1 x.2.1 x.2.2.1) (Qjy Ziu Qk3) Tryz.func99 fun n x=>Eq.trans (b:=Z1v (Z02 n n) x.1 x.2.1 x.2.2.1) (by kernel_rfl) (by rw [Z9j n n];rfl)
abbrev Qp0:Type:=(Zd7 × Unit) × Unit
noncomputable def Zbt:Ctx:=[(58,Z6o),(98,Zge),(99,Zdx)]
def Z3k:Fi:={ keep:=[],vty:=[(4,48)],vals:=[],live:=[(0,[2,3,4,25,26,27,28,29]),(1,[2,3,4,5,6,25,26,27,28,29]),(2,[2,3,4,30]),(3,[4]),(4,[2,3,4,7,8]),(5,[2,3,4,8,41,42,43]),(6,[2,3,4,8,41,42,43,44]),(7,[2,3,4,8,10,41,42,43]),(8,[2,3,4,8,41,42,43]),(9,[2,3,4,8,41,42,43]),(10,[2,3,4,59,60,61]),(11,[2,3,4,59,60,61,62]),(12,[2,3,4,12,59,60,61]),(13,[2,3,4,59,60,61]),(14,[2,3,4,59,60,61]),(15,[4])] }
abbrev Z3f:Type:=Int→Int→Bool→Int→ByteArray→Int→Int→Int→Int→Int→Int→List Int→Int→Int→Int→Int→Int→Z6m→Int→Int→Qlh→Qlh→Qto→Int→Int→Int→Int→Int→Int→Int→Int→Int→List Int→Int→Int→ByteArray→Zd7→Zgs→Qlh→Option Qp0
abbrev Z37:Type:=Int→Int→Bool→Int→ByteArray→Int→Int→Int→Int→Int→Int→List Int→Int→Int→Int→Int→Int→Z6m→Int→Int→Qlh→Qlh→Qto→Int→Int→Int→Int→Int→Int→Int→Int→Int→List Int→Int→Int→ByteArray→Zd7→Zgs→Option Qp0
noncomputable def Qse (L1:Z3f) (L2:Z37) (v3 v4:Int) (v5:Bool) (v6:Int) (v7:ByteArray) (v8 v9 v10 v11 v12 v13:Int) (v14:List Int) (v15 v16 v17 v18 v19:Int) (v20:List Qlf) (v21 v22:Int) (v23 v24:List Qlw) (v25:List Qtb) (v26 v27 v28 v29 v30 v31 v32 v33 v34:Int) (v35:List Int) (v36 v37:Int) (v38:ByteArray) (v39:List Z59) (v40:List (Int × Int)) (v41:List Qlw):Option Qp0:=
 bif decide (v4<v3) then
  bif decide (0≤v4)&&decide (v4<(v41.length:Int)) then
   bif decide (0≤v4)&&decide (v4<(v41.length:Int)) then
    Option.bind (Qtj (v5,v6,v7,(v8,v9,v10,v11,v12,v13,v14,v15,v16,v17,v18,v19,v20),(v21,v22,v23,v24,v25,v26,v27),v28) 7 v30 ((List.getD v41 v4.toNat (0,(⟨#[]⟩:ByteArray))).1) 0 ((List.getD v41 v4.toNat (0,(⟨#[]⟩:ByteArray))).2)) fun r42=>
    bif Nat.ble (v39.length+1) 1073741824 then
     L1 v3 (IntKind.wrap .i64 (v4+1)) v5 v6 v7 v8 v9 v10 v11 v12 v13 v14 v15 v16 v17 v18 v19 v20 v21 v22 v23 v24 v25 v26 v27 v28 v29 v30 v31 v32 v33 v34 v35 v36 v37 v38 (v39++[r42.1.1]) v40 v41
    else none
   else none
  else none
 else
  L2 (v40.length:Int) 0 v5 v6 v7 v8 v9 v10 v11 v12 v13 v14 v15 v16 v17 v18 v19 v20 v21 v22 v23 v24 v25 v26 v27 v28 v29 v30 v31 v32 v33 v34 v35 v36 v37 v38 v39 v40
noncomputable def Qsh (L2:Z37) (v43 v44:Int) (v45:Bool) (v46:Int) (v47:ByteArray) (v48 v49 v50 v51 v52 v53:Int) (v54:List Int) (v55 v56 v57 v58 v59:Int) (v60:List Qlf) (v61 v62:Int) (v63 v64:List Qlw) (v65:List Qtb) (v66 v67 v68 v69 v70 v71 v72 v73 v74:Int) (v75:List Int) (v76 v77:Int) (v78:ByteArray) (v79:List Z59) (v80:List (Int × Int)):Option Qp0:=
 bif decide (v44<v43) then
  bif decide (0≤v44)&&decide (v44<(v80.length:Int)) then
   bif decide (0≤v44)&&decide (v44<(v80.length:Int)) then
    Option.bind (Qtj (v45,v46,v47,(v48,v49,v50,v51,v52,v53,v54,v55,v56,v57,v58,v59,v60),(v61,v62,v63,v64,v65,v66,v67),v68) 9 v70 ((List.getD v80 v44.toNat (0,0)).1) ((List.getD v80 v44.toNat (0,0)).2) (⟨#[]⟩:ByteArray)) fun r81=>
    bif Nat.ble (v79.length+1) 1073741824 then
     L2 v43 (IntKind.wrap .i64 (v44+1)) v45 v46 v47 v48 v49 v50 v51 v52 v53 v54 v55 v56 v57 v58 v59 v60 v61 v62 v63 v64 v65 v66 v67 v68 v69 v70 v71 v72 v73 v74 v75 v76 v77 v78 (v79++[r81.1.1]) v80
    else none
   else none
  else none
 else
  some ((v79,()),())
noncomputable def Qzz (L1:Z3f) (n_0:Bool × Int × ByteArray × Qwp × Z5u × Int) (m_1:Int × Int × Int × Int × Int × Int × (List Int) × Int × Int × ByteArray):Option Qp0:=
 Option.bind (Qy5 (h12 (g3 n_0)) m_1.2.1) fun r1=>
 bif !r1.1.2.1 then
  some (([],()),())
 else
 bif r1.1.1.2.1 != (g3 m_1) then
  some (([],()),())
 else
  Option.bind (Zdg (g4 n_0) (g7 m_1) (g8 m_1)) fun r2=>
  L1 (r2.1.1.length:Int) 0 n_0.1 n_0.2.1 n_0.2.2.1 (g3 n_0).1 (g3 n_0).2.1 (g3 n_0).2.2.1 (g3 (g3 n_0)) (g4 (g3 n_0)) (g5 (g3 n_0)) (g6 (g3 n_0)) (g7 (g3 n_0)) (g8 (g3 n_0)) (g9 (g3 n_0)) (g10 (g3 n_0)) (g11 (g3 n_0)) (h12 (g3 n_0)) (g4 n_0).1 (g4 n_0).2.1 (g4 n_0).2.2.1 (g3 (g4 n_0)) (g4 (g4 n_0)) (g5 (g4 n_0)) (h6 (g4 n_0)) (h5 n_0) m_1.1 m_1.2.1 m_1.2.2.1 (g3 m_1) (g4 m_1) (g5 m_1) (g6 m_1) (g7 m_1) (g8 m_1) (h9 m_1) [] r2.1.2.1 r2.1.1
noncomputable def Qqm (n:Nat):Nat→Z37:=iter (fun _ _ _ _ _ _ _ _ _ _ _ _ _ _ _ _ _ _ _ _ _ _ _ _ _ _ _ _ _ _ _ _ _ _ _ _ _ _=>none) fun L=>Qsh L
noncomputable def Qsg (n:Nat):Nat→Z3f:=iter (fun _ _ _ _ _ _ _ _ _ _ _ _ _ _ _ _ _ _ _ _ _ _ _ _ _ _ _ _ _ _ _ _ _ _ _ _ _ _ _=>none) fun L=>Qse L (Qqm n n)
noncomputable def Qxs (n m:Nat) (v3 v4:Int) (v5:Bool) (v6:Int) (v7:ByteArray) (v8 v9 v10 v11 v12 v13:Int) (v14:List Int) (v15 v16 v17 v18 v19:Int) (v20:List Qlf) (v21 v22:Int) (v23 v24:List Qlw) (v25:List Qtb) (v26 v27 v28 v29 v30 v31 v32 v33 v34:Int) (v35:List Int) (v36 v37:Int) (v38:ByteArray) (v39:List Z59) (v40:List (Int × Int)) (v41:List Qlw):Option Qp0:=
 Qjv Zbt tab (fiB [.val t38,.val t45] Z3k) n [.val t38,.val t45] [⟨t48,[true],none⟩] Tryz.f47 [1,1,1,1,0,1,0] [] [2,3,4,8,41,42,43] m
 ⟨[(2,V1 (.ptr (2,0) 0)),(3,V1 (.ptr (3,0) 0)),(4,V1 (.ref (888888,4))),(8,V1 (.ref (888888,8))),(41,V1 (.ref (888888,41))),(42,Vp t2 v3),(43,Vp t2 v4)],[((2,0),Ob.box 39 [LV.pure t4 v5,LV.pure t2 v6,LV.pure t9 v7,LV.pure t2 v8,LV.pure t2 v9,LV.pure t2 v10,LV.pure t2 v11,LV.pure t2 v12,LV.pure t2 v13,LV.pure t28 v14,LV.pure t2 v15,LV.pure t2 v16,LV.pure t2 v17,LV.pure t2 v18,LV.pure t2 v19,LV.pure t29 v20,LV.pure t2 v21,LV.pure t2 v22,LV.pure t32 v23,LV.pure t32 v24,LV.pure t33 v25,LV.pure t2 v26,LV.pure t2 v27,LV.pure t2 v28]),((3,0),Ob.box 46 [LV.pure t2 v29,LV.pure t2 v30,LV.pure t2 v31,LV.pure t2 v32,LV.pure t2 v33,LV.pure t2 v34,LV.pure t28 v35,LV.pure t2 v36,LV.pure t2 v37,LV.pure t9 v38]),((888888,4),Ob.row 46 t45 v39),((888888,8),Ob.row 100 t34 v40),((888888,41),Ob.row 59 t58 v41)]⟩
noncomputable def Qxu (n m:Nat) (v43 v44:Int) (v45:Bool) (v46:Int) (v47:ByteArray) (v48 v49 v50 v51 v52 v53:Int) (v54:List Int) (v55 v56 v57 v58 v59:Int) (v60:List Qlf) (v61 v62:Int) (v63 v64:List Qlw) (v65:List Qtb) (v66 v67 v68 v69 v70 v71 v72 v73 v74:Int) (v75:List Int) (v76 v77:Int) (v78:ByteArray) (v79:List Z59) (v80:List (Int × Int)):Option Qp0:=
 Qjv Zbt tab (fiB [.val t38,.val t45] Z3k) n [.val t38,.val t45] [⟨t48,[true],none⟩] Tryz.f47 [1,1,1,1,1,0,1,0] [] [2,3,4,59,60,61] m
 ⟨[(2,V1 (.ptr (2,0) 0)),(3,V1 (.ptr (3,0) 0)),(4,V1 (.ref (888888,4))),(59,V1 (.ref (888888,59))),(60,Vp t2 v43),(61,Vp t2 v44)],[((2,0),Ob.box 39 [LV.pure t4 v45,LV.pure t2 v46,LV.pure t9 v47,LV.pure t2 v48,LV.pure t2 v49,LV.pure t2 v50,LV.pure t2 v51,LV.pure t2 v52,LV.pure t2 v53,LV.pure t28 v54,LV.pure t2 v55,LV.pure t2 v56,LV.pure t2 v57,LV.pure t2 v58,LV.pure t2 v59,LV.pure t29 v60,LV.pure t2 v61,LV.pure t2 v62,LV.pure t32 v63,LV.pure t32 v64,LV.pure t33 v65,LV.pure t2 v66,LV.pure t2 v67,LV.pure t2 v68]),((3,0),Ob.box 46 [LV.pure t2 v69,LV.pure t2 v70,LV.pure t2 v71,LV.pure t2 v72,LV.pure t2 v73,LV.pure t2 v74,LV.pure t28 v75,LV.pure t2 v76,LV.pure t2 v77,LV.pure t9 v78]),((888888,4),Ob.row 46 t45 v79),((888888,59),Ob.row 100 t34 v80)]⟩
theorem Z7t (n:Nat):∀ m,Qxu n m=Qqm n m
 | 0=>rfl
 | m+1=>by rw [show Qxu n (m+1)=Qsh (Qxu n m) from by kernel_rfl,Z7t n m];rfl
theorem Z70 (n:Nat):∀ m,Qxs n m=Qsg n m
 | 0=>rfl
 | m+1=>by rw [show Qxs n (m+1)=Qse (Qxs n m) (Qxu n n) from by kernel_rfl,Z7t n n,Z70 n m];rfl
noncomputable def Zc5 (n:Nat) (n_0:Bool × Int × ByteArray × Qwp × Z5u × Int) (m_1:Int × Int × Int × Int × Int × Int × (List Int) × Int × Int × ByteArray):Option Qp0:=Qzz (Qsg n n) n_0 m_1
noncomputable def Z4x (n_0:Bool × Int × ByteArray × Qwp × Z5u × Int) (m_1:Int × Int × Int × Int × Int × Int × (List Int) × Int × Int × ByteArray):Option Qp0:=Zc5 1099511627776 n_0 m_1
noncomputable def Zir:Ent:=⟨[.val t38,.val t45],[⟨t48,[true],none⟩],fun x=>Z4x x.1 x.2.1⟩
theorem Zel:GD 47 Zir:=fnl Z3k (fun n x=>Zc5 n x.1 x.2.1) (Qjy Z84 (Qjy Qxr (Qjy Zgf Qk3))) Tryz.func47 fun n x=>Eq.trans (b:=Qzz (Qxs n n) x.1 x.2.1) (by kernel_rfl) (by rw [Z70 n n];rfl)
noncomputable def Qtk (f_0:Int × Int × Qlh × Qlh × Qto × Int × Int) (top_1:Int):Option ((Z5u × Unit) × Unit):=
 Option.bind (Qqh f_0) fun r1=>
 bif decide (r1.1.1.1>0) then
  bif decide (top_1≤1000000) then
   some (((u1 r1.1.1 (if top_1>r1.1.1.2.1 then top_1 else r1.1.1.2.1)),()),())
  else
   some ((r1.1.1,()),())
 else
  some ((r1.1.1,()),())
noncomputable def Zkb:Ent:=⟨[.val t36,.val t2],[⟨t36,[false,false,true,true,true,false,false],none⟩],fun x=>Qtk x.1 x.2.1⟩
theorem Qwd:GD 100 Zkb:=fnk 1 (fo [[1,2,4,11,12],[1,2,4,11,12],[1,2,4,13],[2,4],[4]]) (Qjy Quk Qk3) Tryz.func100
noncomputable def Z8e (f_0:Int × Int × Qlh × Qlh × Qto × Int × Int) (next_1:Int):Option ((Z5u × Unit) × Unit):=
 bif decide (f_0.1>0) then
  Option.bind (Qtk f_0 (IntKind.wrap .i64 (next_1 - 1))) fun r1=>
  some ((r1.1.1,()),())
 else
  Option.bind (Qqh f_0) fun r2=>
  bif decide (next_1 ≥ 1) then
   bif decide (next_1≤1000000) then
    some (((next_1,r2.1.1.2),()),())
   else
    some ((r2.1.1,()),())
  else
   some ((r2.1.1,()),())
noncomputable def Zj5:Ent:=⟨[.val t36,.val t2],[⟨t36,[false,false,true,true,true,false,false],none⟩],fun x=>Z8e x.1 x.2.1⟩
theorem Zgb:GD 101 Zj5:=fnk 1 (fo [[1,2,4,17,18],[1,2,4,7,17,18],[4],[1,2,4,17,18],[1,2,4,19],[2,4],[4]]) (Qjy Qwd (Qjy Quk Qk3)) Tryz.func101
noncomputable def Za5 (x_0:Int × ByteArray) (seq_1:Int):Option ((Int × Unit) × Unit):=
 Option.bind (Qr8 x_0.1 seq_1) fun r1=>
 some ((r1.1.1,()),())
noncomputable def Zij:Ent:=⟨[.val t58,.val t2],[⟨t2,[false],none⟩],fun x=>Za5 x.1 x.2.1⟩
theorem Zeo:GD 191 Zij:=fnk 1 (fo [[1,2],[4]]) (Qjy Qu9 Qk3) Tryz.func191
noncomputable def Qz8:Ctx:=[(192,Qjh)]
def Qyf:Fi:={ keep:=[],vty:=[],vals:=[],live:=[(0,[0,1,2]),(1,[0,1,2]),(2,[0,1,2,7]),(3,[0,1,2,7,16]),(4,[6]),(5,[0,1,2,7,8]),(6,[0,1,2,7,8,22]),(7,[6]),(8,[0,1,2,7,8,31]),(9,[0,1,2,7,9]),(10,[0,1,7,9]),(11,[9]),(12,[6]),(13,[0,1,2,7,8]),(14,[0,1,2,7,8,68]),(15,[0,1,2]),(16,[0]),(17,[6]),(18,[0,1,7]),(19,[0]),(20,[6])] }
noncomputable def Qzi (c:Nat) (s_0:List Qlw) (i_1:Int) (v_2:List Qlw):Option ((Qlh × Unit) × Unit):=
 bif (decide (0≤i_1)&&decide (i_1≤((s_0.length:Nat):Int)))&&decide (((s_0.length:Nat):Int)≤((((List.map some s_0++List.replicate c none).length) - 0:Nat):Int)) then
  bif (v_2.length:Int)==0 then
   bif Nat.ble s_0.length ((List.map some s_0++List.replicate c none).length) then
    Option.bind (Qd (List.take s_0.length (List.map some s_0++List.replicate c none))) fun (z1:List Qlw)=>
    some ((z1,()),())
   else none
  else
  bif i_1==((s_0.length:Nat):Int) then
   bif Nat.ble (0+s_0.length) ((List.map some s_0++List.replicate c none).length) then
    bif Nat.ble (s_0.length+v_2.length) ((List.map some s_0++List.replicate c none).length) then
     bif Nat.ble (s_0.length+v_2.length) ((Q6 (List.map some s_0++List.replicate c none) s_0.length v_2).length) then
      Option.bind (Qd (List.take (s_0.length+v_2.length) (Q6 (List.map some s_0++List.replicate c none) s_0.length v_2))) fun (z2:List Qlw)=>
      some ((z2,()),())
     else none
    else
    bif Nat.ble (s_0.length+v_2.length) 1073741824 then
     Option.bind (Qd (List.take s_0.length (List.map some s_0++List.replicate c none))) fun (z3:List Qlw)=>
     some ((z3++v_2,()),())
    else none
   else none
  else
  bif Nat.ble (0+s_0.length) ((List.map some s_0++List.replicate c none).length) then
   bif decide (IntKind.wrap .i64 (((s_0.length:Nat):Int)+(v_2.length:Int))>((((List.map some s_0++List.replicate c none).length) - 0:Nat):Int)) then
    bif decide (0≤i_1)&&decide (i_1≤((((List.map some s_0++List.replicate c none).length) - 0:Nat):Int)) then
     bif Nat.ble (0+((i_1 - 0).toNat)) ((List.map some s_0++List.replicate c none).length) then
      bif decide (0<IntKind.wrap .i64 ((IntKind.wrap .i64 (((s_0.length:Nat):Int)+(v_2.length:Int))) - i_1))&&true&&Nat.blt ((List.map some s_0++List.replicate c none).length) (((i_1 - 0).toNat)+((List.replicate ((IntKind.wrap .i64 ((IntKind.wrap .i64 (((s_0.length:Nat):Int)+(v_2.length:Int))) - i_1)).toNat) ((0,(⟨#[]⟩:ByteArray)):Int × ByteArray)).length))&&Nat.ble (((List.map some s_0++List.replicate c none).length)+((List.replicate ((IntKind.wrap .i64 ((IntKind.wrap .i64 (((s_0.length:Nat):Int)+(v_2.length:Int))) - i_1)).toNat) ((0,(⟨#[]⟩:ByteArray)):Int × ByteArray)).length)) 536870912 then
       bif (decide (0≤i_1)&&decide (i_1≤((((i_1 - 0).toNat)+((List.replicate ((IntKind.wrap .i64 ((IntKind.wrap .i64 (((s_0.length:Nat):Int)+(v_2.length:Int))) - i_1)).toNat) ((0,(⟨#[]⟩:ByteArray)):Int × ByteArray)).length):Nat):Int)))&&decide (((((i_1 - 0).toNat)+((List.replicate ((IntKind.wrap .i64 ((IntKind.wrap .i64 (((s_0.length:Nat):Int)+(v_2.length:Int))) - i_1)).toNat) ((0,(⟨#[]⟩:ByteArray)):Int × ByteArray)).length):Nat):Int)≤((((List.take ((i_1 - 0).toNat) (List.map some s_0++List.replicate c none)++List.map some (List.replicate ((IntKind.wrap .i64 ((IntKind.wrap .i64 (((s_0.length:Nat):Int)+(v_2.length:Int))) - i_1)).toNat) ((0,(⟨#[]⟩:ByteArray)):Int × ByteArray))).length) - 0:Nat):Int)) then
        bif Nat.ble ((0+i_1.toNat)+((((((i_1 - 0).toNat)+((List.replicate ((IntKind.wrap .i64 ((IntKind.wrap .i64 (((s_0.length:Nat):Int)+(v_2.length:Int))) - i_1)).toNat) ((0,(⟨#[]⟩:ByteArray)):Int × ByteArray)).length):Nat):Int) - i_1).toNat)) ((List.take ((i_1 - 0).toNat) (List.map some s_0++List.replicate c none)++List.map some (List.replicate ((IntKind.wrap .i64 ((IntKind.wrap .i64 (((s_0.length:Nat):Int)+(v_2.length:Int))) - i_1)).toNat) ((0,(⟨#[]⟩:ByteArray)):Int × ByteArray))).length) then
         bif (decide (0≤IntKind.wrap .i64 (i_1+(v_2.length:Int)))&&decide (IntKind.wrap .i64 (i_1+(v_2.length:Int))≤((((i_1 - 0).toNat)+((List.replicate ((IntKind.wrap .i64 ((IntKind.wrap .i64 (((s_0.length:Nat):Int)+(v_2.length:Int))) - i_1)).toNat) ((0,(⟨#[]⟩:ByteArray)):Int × ByteArray)).length):Nat):Int)))&&decide (((((i_1 - 0).toNat)+((List.replicate ((IntKind.wrap .i64 ((IntKind.wrap .i64 (((s_0.length:Nat):Int)+(v_2.length:Int))) - i_1)).toNat) ((0,(⟨#[]⟩:ByteArray)):Int × ByteArray)).length):Nat):Int)≤((((Q6 (List.take ((i_1 - 0).toNat) (List.map some s_0++List.replicate c none)++List.map some (List.replicate ((IntKind.wrap .i64 ((IntKind.wrap .i64 (((s_0.length:Nat):Int)+(v_2.length:Int))) - i_1)).toNat) ((0,(⟨#[]⟩:ByteArray)):Int × ByteArray))) (0+i_1.toNat) (List.take ((((((i_1 - 0).toNat)+((List.replicate ((IntKind.wrap .i64 ((IntKind.wrap .i64 (((s_0.length:Nat):Int)+(v_2.length:Int))) - i_1)).toNat) ((0,(⟨#[]⟩:ByteArray)):Int × ByteArray)).length):Nat):Int) - i_1).toNat) v_2)).length) - 0:Nat):Int)) then
          bif (decide (0≤i_1)&&decide (i_1≤((s_0.length:Nat):Int)))&&decide (((s_0.length:Nat):Int)≤((((List.map some s_0++List.replicate c none).length) - 0:Nat):Int)) then
           bif Nat.ble ((0+((IntKind.wrap .i64 (i_1+(v_2.length:Int))).toNat))+((((((i_1 - 0).toNat)+((List.replicate ((IntKind.wrap .i64 ((IntKind.wrap .i64 (((s_0.length:Nat):Int)+(v_2.length:Int))) - i_1)).toNat) ((0,(⟨#[]⟩:ByteArray)):Int × ByteArray)).length):Nat):Int) - (IntKind.wrap .i64 (i_1+(v_2.length:Int)))).toNat)) ((Q6 (List.take ((i_1 - 0).toNat) (List.map some s_0++List.replicate c none)++List.map some (List.replicate ((IntKind.wrap .i64 ((IntKind.wrap .i64 (((s_0.length:Nat):Int)+(v_2.length:Int))) - i_1)).toNat) ((0,(⟨#[]⟩:ByteArray)):Int × ByteArray))) (0+i_1.toNat) (List.take ((((((i_1 - 0).toNat)+((List.replicate ((IntKind.wrap .i64 ((IntKind.wrap .i64 (((s_0.length:Nat):Int)+(v_2.length:Int))) - i_1)).toNat) ((0,(⟨#[]⟩:ByteArray)):Int × ByteArray)).length):Nat):Int) - i_1).toNat) v_2)).length) then
            bif Nat.ble ((0+i_1.toNat)+((((s_0.length:Nat):Int) - i_1).toNat)) ((List.map some s_0++List.replicate c none).length) then
            Option.bind (Qd (List.take (min ((((((i_1 - 0).toNat)+((List.replicate ((IntKind.wrap .i64 ((IntKind.wrap .i64 (((s_0.length:Nat):Int)+(v_2.length:Int))) - i_1)).toNat) ((0,(⟨#[]⟩:ByteArray)):Int × ByteArray)).length):Nat):Int) - (IntKind.wrap .i64 (i_1+(v_2.length:Int)))).toNat) ((((s_0.length:Nat):Int) - i_1).toNat)) (List.drop (0+i_1.toNat) (List.map some s_0++List.replicate c none)))) fun (z4:List Qlw)=>
            bif Nat.ble (((i_1 - 0).toNat)+((List.replicate ((IntKind.wrap .i64 ((IntKind.wrap .i64 (((s_0.length:Nat):Int)+(v_2.length:Int))) - i_1)).toNat) ((0,(⟨#[]⟩:ByteArray)):Int × ByteArray)).length)) ((Q6 (Q6 (List.take ((i_1 - 0).toNat) (List.map some s_0++List.replicate c none)++List.map some (List.replicate ((IntKind.wrap .i64 ((IntKind.wrap .i64 (((s_0.length:Nat):Int)+(v_2.length:Int))) - i_1)).toNat) ((0,(⟨#[]⟩:ByteArray)):Int × ByteArray))) (0+i_1.toNat) (List.take ((((((i_1 - 0).toNat)+((List.replicate ((IntKind.wrap .i64 ((IntKind.wrap .i64 (((s_0.length:Nat):Int)+(v_2.length:Int))) - i_1)).toNat) ((0,(⟨#[]⟩:ByteArray)):Int × ByteArray)).length):Nat):Int) - i_1).toNat) v_2)) (0+((IntKind.wrap .i64 (i_1+(v_2.length:Int))).toNat)) z4).length) then
            Option.bind (Qd (List.take (((i_1 - 0).toNat)+((List.replicate ((IntKind.wrap .i64 ((IntKind.wrap .i64 (((s_0.length:Nat):Int)+(v_2.length:Int))) - i_1)).toNat) ((0,(⟨#[]⟩:ByteArray)):Int × ByteArray)).length)) (Q6 (Q6 (List.take ((i_1 - 0).toNat) (List.map some s_0++List.replicate c none)++List.map some (List.replicate ((IntKind.wrap .i64 ((IntKind.wrap .i64 (((s_0.length:Nat):Int)+(v_2.length:Int))) - i_1)).toNat) ((0,(⟨#[]⟩:ByteArray)):Int × ByteArray))) (0+i_1.toNat) (List.take ((((((i_1 - 0).toNat)+((List.replicate ((IntKind.wrap .i64 ((IntKind.wrap .i64 (((s_0.length:Nat):Int)+(v_2.length:Int))) - i_1)).toNat) ((0,(⟨#[]⟩:ByteArray)):Int × ByteArray)).length):Nat):Int) - i_1).toNat) v_2)) (0+((IntKind.wrap .i64 (i_1+(v_2.length:Int))).toNat)) z4))) fun (z5:List Qlw)=>
            some ((z5,()),())
            else none
            else none
           else none
          else none
         else none
        else none
       else none
      else none
     else none
    else none
   else
   bif decide (0≤IntKind.wrap .i64 (((s_0.length:Nat):Int)+(v_2.length:Int)))&&decide (IntKind.wrap .i64 (((s_0.length:Nat):Int)+(v_2.length:Int))≤((((List.map some s_0++List.replicate c none).length) - 0:Nat):Int)) then
    bif (decide (0≤IntKind.wrap .i64 (i_1+(v_2.length:Int)))&&decide (IntKind.wrap .i64 (i_1+(v_2.length:Int))≤((((IntKind.wrap .i64 (((s_0.length:Nat):Int)+(v_2.length:Int))) - 0).toNat:Nat):Int)))&&decide (((((IntKind.wrap .i64 (((s_0.length:Nat):Int)+(v_2.length:Int))) - 0).toNat:Nat):Int)≤((((List.map some s_0++List.replicate c none).length) - 0:Nat):Int)) then
     bif (decide (0≤IntKind.wrap .i64 (i_1+(v_2.length:Int)))&&decide (IntKind.wrap .i64 (i_1+(v_2.length:Int))≤((((IntKind.wrap .i64 (((s_0.length:Nat):Int)+(v_2.length:Int))) - 0).toNat:Nat):Int)))&&decide (((((IntKind.wrap .i64 (((s_0.length:Nat):Int)+(v_2.length:Int))) - 0).toNat:Nat):Int)≤((((List.map some s_0++List.replicate c none).length) - 0:Nat):Int)) then
      bif (decide (0≤i_1)&&decide (i_1≤((((IntKind.wrap .i64 (((s_0.length:Nat):Int)+(v_2.length:Int))) - 0).toNat:Nat):Int)))&&decide (((((IntKind.wrap .i64 (((s_0.length:Nat):Int)+(v_2.length:Int))) - 0).toNat:Nat):Int)≤((((List.map some s_0++List.replicate c none).length) - 0:Nat):Int)) then
       bif Nat.ble ((0+((IntKind.wrap .i64 (i_1+(v_2.length:Int))).toNat))+((((((IntKind.wrap .i64 (((s_0.length:Nat):Int)+(v_2.length:Int))) - 0).toNat:Nat):Int) - (IntKind.wrap .i64 (i_1+(v_2.length:Int)))).toNat)) ((List.map some s_0++List.replicate c none).length) then
        bif Nat.ble ((0+i_1.toNat)+((((((IntKind.wrap .i64 (((s_0.length:Nat):Int)+(v_2.length:Int))) - 0).toNat:Nat):Int) - i_1).toNat)) ((List.map some s_0++List.replicate c none).length) then
         Option.bind (Qd (List.take (min ((((((IntKind.wrap .i64 (((s_0.length:Nat):Int)+(v_2.length:Int))) - 0).toNat:Nat):Int) - (IntKind.wrap .i64 (i_1+(v_2.length:Int)))).toNat) ((((((IntKind.wrap .i64 (((s_0.length:Nat):Int)+(v_2.length:Int))) - 0).toNat:Nat):Int) - i_1).toNat)) (List.drop (0+i_1.toNat) (List.map some s_0++List.replicate c none)))) fun (z6:List Qlw)=>
         bif (decide (0≤i_1)&&decide (i_1≤((((IntKind.wrap .i64 (((s_0.length:Nat):Int)+(v_2.length:Int))) - 0).toNat:Nat):Int)))&&decide (((((IntKind.wrap .i64 (((s_0.length:Nat):Int)+(v_2.length:Int))) - 0).toNat:Nat):Int)≤((((Q6 (List.map some s_0++List.replicate c none) (0+((IntKind.wrap .i64 (i_1+(v_2.length:Int))).toNat)) z6).length) - 0:Nat):Int)) then
          bif Nat.ble ((0+i_1.toNat)+((((((IntKind.wrap .i64 (((s_0.length:Nat):Int)+(v_2.length:Int))) - 0).toNat:Nat):Int) - i_1).toNat)) ((Q6 (List.map some s_0++List.replicate c none) (0+((IntKind.wrap .i64 (i_1+(v_2.length:Int))).toNat)) z6).length) then
           bif Nat.ble (((IntKind.wrap .i64 (((s_0.length:Nat):Int)+(v_2.length:Int))) - 0).toNat) ((Q6 (Q6 (List.map some s_0++List.replicate c none) (0+((IntKind.wrap .i64 (i_1+(v_2.length:Int))).toNat)) z6) (0+i_1.toNat) (List.take ((((((IntKind.wrap .i64 (((s_0.length:Nat):Int)+(v_2.length:Int))) - 0).toNat:Nat):Int) - i_1).toNat) v_2)).length) then
            Option.bind (Qd (List.take (((IntKind.wrap .i64 (((s_0.length:Nat):Int)+(v_2.length:Int))) - 0).toNat) (Q6 (Q6 (List.map some s_0++List.replicate c none) (0+((IntKind.wrap .i64 (i_1+(v_2.length:Int))).toNat)) z6) (0+i_1.toNat) (List.take ((((((IntKind.wrap .i64 (((s_0.length:Nat):Int)+(v_2.length:Int))) - 0).toNat:Nat):Int) - i_1).toNat) v_2)))) fun (z7:List Qlw)=>
            some ((z7,()),())
           else none
          else none
         else none
        else none
       else none
      else none
     else none
    else none
   else none
  else none
 else none
theorem Z4z (c:Nat) (s_0:List Qlw) (i_1:Int) (v_2:List Qlw):Qde Qz8 tab { Qyf with cap:=c } 1 [.ownc 59 t58,.val t2,.own 59 t58] [⟨t32,[true],none⟩] Tryz.f192 (s_0,i_1,v_2,())=Qzi c s_0 i_1 v_2:=by kernel_rfl
theorem Z4w (c:Nat) (s_0:List Qlw) (i_1:Int) (v_2:List Qlw):Qzi c s_0 i_1 v_2=Qei ((0,(⟨#[]⟩:ByteArray)):Int × ByteArray) c s_0 i_1 v_2:=by kernel_rfl
noncomputable def Qvt (s_0:List Qlw) (i_1:Int) (v_2:List Qlw):Option ((Qlh × Unit) × Unit):=Qeg s_0 i_1 v_2
noncomputable def Z98:Ent:=⟨[.ownc 59 t58,.val t2,.own 59 t58],[⟨t32,[true],none⟩],fun x=>Qvt x.1 x.2.1 x.2.2.1⟩
theorem Z5l:Q4u tab.ty Tryz.prog 192 Z98:=by
  refine Qgs (Γ:=Qz8) (fi:=Qyf) (n:=1) follows (Qjy (Qjx Tryz.func192 (by kernel_rfl) (by kernel_rfl)) Qk3) Zff Tryz.func192 (by kernel_rfl) (by kernel_rfl) (fun c x r hc h=>?_)
  obtain ⟨s_0,i_1,v_2,_u⟩:=x
  exact (Z4z c s_0 i_1 v_2).trans ((Z4w c s_0 i_1 v_2).trans (Qin ((0,(⟨#[]⟩:ByteArray)):Int × ByteArray) c s_0 i_1 v_2 r hc h))
noncomputable def Zih (l_0:List Qlw) (next_1:Int) (i_2:Int × ByteArray):Option ((Qlh × Bool × Unit) × Unit):=
 Option.bind (Qkh l_0) fun r1=>
 Option.bind (Qkx l_0 i_2.1 (fun x=>(Za5 x.1 x.2.1).bind fun r=>some (r.1.1,()))) fun r2=>
 bif r2.1.2.1 then
  some ((r1.1.1,false,()),())
 else
 bif decide (i_2.1<next_1) then
  some ((r1.1.1,false,()),())
 else
 bif decide (IntKind.wrap .i64 (i_2.1 - next_1) ≥ 8) then
  some ((r1.1.1,false,()),())
 else
  Option.bind (Qvt r1.1.1 r2.1.1 [i_2]) fun r3=>
  some ((r3.1.1,true,()),())
noncomputable def Zoa:Ent:=⟨[.val t32,.val t2,.val t58],[⟨t32,[true],none⟩,⟨t4,[false],none⟩],fun x=>Zih x.1 x.2.1 x.2.2.1⟩
theorem Zjy:GD 160 Zoa:=fnk 1 (fo [[0,1,5,22,23,24,25,28,29,30,31,32],[0,1,5,8,22,23,24,25,28,29,30,31,32],[1,5,8,9,10,22,23,24,25,28,29,30,31,32],[5,8,9,33],[6,7],[6,7]]) (Qjy Qma (Qjy Qn7 (Qjy Zeo (Qjy Z5l Qk3)))) Tryz.func160
noncomputable def Zav (f_0:Int × Int × Qlh × Qlh × Qto × Int × Int):Option ((Z5u × Unit) × Unit):=
 Option.bind (Qkh f_0.2.2.1) fun r1=>
 Option.bind (Qkh (g3 f_0)) fun r2=>
 Option.bind (Ql2 (g4 f_0)) fun r3=>
 some (((u4 (u3 (u2 f_0 r1.1.1) r2.1.1) r3.1.1),()),())
noncomputable def Zhp:Ent:=⟨[.val t36],[⟨t36,[false,false,true,true,true,false,false],none⟩],fun x=>Zav x.1⟩
theorem Zaz:GD 163 Zhp:=fnk 1 (fo [[1,2],[1,2],[2]]) (Qjy Qma (Qjy Qly Qk3)) Tryz.func163
noncomputable def Zbm (l_0:List Qlw):Option ((Int × Unit) × Unit):=
 bif (l_0.length:Int)==0 then
  some ((0,()),())
 else
 bif decide (0<(l_0.length:Int)) then
  some (((List.getD l_0 0 (0,(⟨#[]⟩:ByteArray))).1,()),())
 else none
noncomputable def Zlm:Ent:=⟨[.val t32],[⟨t2,[false],none⟩],fun x=>Zbm x.1⟩
theorem Zh5:GD 162 Zlm:=fnk 1 (fo [[0],[0,5],[2],[2]]) Qk3 Tryz.func162
noncomputable def Z5g (l_0:List Qlw) (next_1:Int):Option ((Qlh × Qlw × Bool × Unit) × Unit):=
 Option.bind (Qkh l_0) fun r1=>
 Option.bind (Zbm l_0) fun r2=>
 bif r2.1.1 != next_1 then
  some ((r1.1.1,(0,(⟨#[]⟩:ByteArray)),false,()),())
 else
 bif (l_0.length:Int)==0 then
  some ((r1.1.1,(0,(⟨#[]⟩:ByteArray)),false,()),())
 else
 bif decide (1≤(r1.1.1.length:Int))&&decide ((r1.1.1.length:Int)≤(r1.1.1.length:Int)) then
  bif decide (0<(l_0.length:Int)) then
   some ((List.drop 1 (List.take ((r1.1.1.length:Int).toNat) r1.1.1),(List.getD l_0 0 (0,(⟨#[]⟩:ByteArray))),true,()),())
  else none
 else none
noncomputable def Zhz:Ent:=⟨[.val t32,.val t2],[⟨t32,[false],none⟩,⟨t58,[false,false],none⟩,⟨t4,[false],none⟩],fun x=>Z5g x.1 x.2.1⟩
theorem Zic:GD 195 Zhz:=fnk 1 (fo [[0,1,5,14,15,16],[0,1,4,5,14,15,16],[0,4,5,17],[4,5,6],[4,5,6]]) (Qjy Qma (Qjy Zh5 Qk3)) Tryz.func195
noncomputable def Qrd  : Option (((Int × Int) × Unit) × Unit):=
 some (((0,0),()),())
noncomputable def Z73:Ent:=⟨[],[⟨t34,[false,false],none⟩],fun x=>Qrd⟩
theorem Z7r:GD 167 Z73:=fnk 1 (fo [[0],[0]]) Qk3 Tryz.func167
abbrev Qs0:Type:=(Z5u × Qlh × Unit) × Unit
noncomputable def Zg7:Ctx:=[(121,Zhl),(122,Zhh),(167,Z73),(195,Zhz)]
def Z76:Fi:={ keep:=[],vty:=[(4,32)],vals:=[],live:=[(0,[1,2]),(1,[1,2,4]),(2,[1,2,4,5,6,7]),(3,[1,2,4,5,6,18]),(4,[1,2,4,6]),(5,[1,2,4,6]),(6,[1,2,4]),(7,[1,2,4,44]),(8,[1,2,4]),(9,[2,3])] }
abbrev Zdm:Type:=Int→Int→Qlh→Qlh→Qto→Int→Int→Int→Int→Int→Int→Qlh→Qlh→Qto→Qlh→Option Qs0
abbrev Z7h:Type:=Int→Int→Qlh→Int→Int→Qlh→Qto→Int→Int→Int→Int→Qlh→Qlh→Qto→Qlh→Option Qs0
noncomputable def Zed (L2:Z7h) (v1 v2:Int) (v3 v4:List Qlw) (v5:List Qtb) (v6 v7 v8 v9 v10 v11:Int) (v12 v13:List Qlw) (v14:List Qtb) (v15:List Qlw):Option Qs0:=
 Option.bind (Z5g v4 v1) fun r16=>
 bif !r16.1.2.2.1 then
  bif decide ((v15.length:Int)>0) then
   Option.bind (Qrd) fun r17=>
   some (((v1,v2,v3,v4,v5,r17.1.1),v15,()),())
  else
   some (((v1,v2,v3,v4,v5,v6,v7),v15,()),())
 else
  Option.bind (Z8l v5 r16.1.2.1.1 r16.1.2.1.2) fun r18=>
  Option.bind (Z8g v3 r16.1.2.1) fun r19=>
  bif Nat.ble (v15.length+1) 1073741824 then
   L2 (IntKind.wrap .i64 (v1+1)) v2 r16.1.1 v6 v7 r19.1.1 r18.1.1 v8 v9 v10 v11 v12 v13 v14 (v15++[r16.1.2.1])
  else none
noncomputable def Qy8 (L2:Z7h) (v20 v21:Int) (v22:List Qlw) (v23 v24:Int) (v25:List Qlw) (v26:List Qtb) (v27 v28 v29 v30:Int) (v31 v32:List Qlw) (v33:List Qtb) (v34:List Qlw):Option Qs0:=
 Option.bind (Z5g v22 v20) fun r35=>
 bif !r35.1.2.2.1 then
  bif decide ((v34.length:Int)>0) then
   Option.bind (Qrd) fun r36=>
   some (((v20,v21,v25,v22,v26,r36.1.1),v34,()),())
  else
   some (((v20,v21,v25,v22,v26,v23,v24),v34,()),())
 else
  Option.bind (Z8l v26 r35.1.2.1.1 r35.1.2.1.2) fun r37=>
  Option.bind (Z8g v25 r35.1.2.1) fun r38=>
  bif Nat.ble (v34.length+1) 1073741824 then
   L2 (IntKind.wrap .i64 (v20+1)) v21 r35.1.1 v23 v24 r38.1.1 r37.1.1 v27 v28 v29 v30 v31 v32 v33 (v34++[r35.1.2.1])
  else none
noncomputable def Zg1 (L1:Zdm) (f_0:Int × Int × Qlh × Qlh × Qto × Int × Int):Option Qs0:=
 L1 f_0.1 f_0.2.1 f_0.2.2.1 (g3 f_0) (g4 f_0) (g5 f_0) (h6 f_0) 0 0 0 0 [] [] [] []
noncomputable def Qrk (n:Nat):Nat→Z7h:=iter (fun _ _ _ _ _ _ _ _ _ _ _ _ _ _ _=>none) fun L=>Qy8 L
noncomputable def Z1y (n:Nat):Nat→Zdm:=Qjg (fun _ _ _ _ _ _ _ _ _ _ _ _ _ _ _=>none) fun m L=>Zed (Qrk n m)
noncomputable def Z6n (n m:Nat) (v1 v2:Int) (v3 v4:List Qlw) (v5:List Qtb) (v6 v7 v8 v9 v10 v11:Int) (v12 v13:List Qlw) (v14:List Qtb) (v15:List Qlw):Option Qs0:=
 Qjv Zg7 tab (fiB [.val t36] Z76) n [.val t36] [⟨t36,(nF 7),none⟩,⟨t32,[true],none⟩] Tryz.f166 [1,1,0,0] [] [1,2,4] m
 ⟨[(1,V1 (.ptr (1,0) 0)),(2,V1 (.ptr (2,0) 0)),(4,V1 (.ref (888888,4)))],[((1,0),Ob.box 37 [LV.pure t2 v1,LV.pure t2 v2,LV.pure t32 v3,LV.pure t32 v4,LV.pure t33 v5,LV.pure t2 v6,LV.pure t2 v7]),((2,0),Ob.box 37 [LV.pure t2 v8,LV.pure t2 v9,LV.ref (2,3),LV.ref (2,4),LV.ref (2,5),LV.pure t2 v10,LV.pure t2 v11]),((2,3),Ob.row 59 t58 v12),((2,4),Ob.row 59 t58 v13),((2,5),Ob.row 55 t54 v14),((888888,4),Ob.row 59 t58 v15)]⟩
noncomputable def Z2r (n m:Nat) (v20 v21:Int) (v22:List Qlw) (v23 v24:Int) (v25:List Qlw) (v26:List Qtb) (v27 v28 v29 v30:Int) (v31 v32:List Qlw) (v33:List Qtb) (v34:List Qlw):Option Qs0:=
 Qjv Zg7 tab (fiB [.val t36] Z76) n [.val t36] [⟨t36,(nF 7),none⟩,⟨t32,[true],none⟩] Tryz.f166 [1,1,0,0] [] [1,2,4] m
 ⟨[(1,V1 (.ptr (1,0) 0)),(2,V1 (.ptr (2,0) 0)),(4,V1 (.ref (888888,4)))],[((1,0),Ob.box 37 [LV.pure t2 v20,LV.pure t2 v21,LV.ref (1,3),LV.pure t32 v22,LV.ref (1,5),LV.pure t2 v23,LV.pure t2 v24]),((1,3),Ob.row 59 t58 v25),((1,5),Ob.row 55 t54 v26),((2,0),Ob.box 37 [LV.pure t2 v27,LV.pure t2 v28,LV.ref (2,3),LV.ref (2,4),LV.ref (2,5),LV.pure t2 v29,LV.pure t2 v30]),((2,3),Ob.row 59 t58 v31),((2,4),Ob.row 59 t58 v32),((2,5),Ob.row 55 t54 v33),((888888,4),Ob.row 59 t58 v34)]⟩
theorem Zc4 (n:Nat):∀ m,Z2r n m=Qrk n m
 | 0=>rfl
 | m+1=>by rw [show Z2r n (m+1)=Qy8 (Z2r n m) from by kernel_rfl,Zc4 n m];rfl
theorem Zil (n:Nat):∀ m,Z6n n m=Z1y n m
 | 0=>rfl
 | m+1=>by rw [show Z6n n (m+1)=Zed (Z2r n m) from by kernel_rfl,Zc4 n m];rfl
noncomputable def Zf4 (n:Nat) (f_0:Int × Int × Qlh × Qlh × Qto × Int × Int):Option Qs0:=Zg1 (Z1y n n) f_0
noncomputable def Z0m (f_0:Int × Int × Qlh × Qlh × Qto × Int × Int):Option Qs0:=Zf4 1099511627776 f_0
noncomputable def Zft:Ent:=⟨[.val t36],[⟨t36,(nF 7),none⟩,⟨t32,[true],none⟩],fun x=>Z0m x.1⟩
theorem Z9m:GD 166 Zft:=fnl Z76 (fun n x=>Zf4 n x.1) (Qjy Zb4 (Qjy Zc7 (Qjy Z7r (Qjy Zic Qk3)))) Tryz.func166 fun n x=>Eq.trans (b:=Zg1 (Z6n n n) x.1) (by kernel_rfl) (by rw [Zil n n];rfl)
noncomputable def Zbx (f_0:Int × Int × Qlh × Qlh × Qto × Int × Int):Option ((Z5u × Qlh × Unit) × Unit):=
 Option.bind (Zav f_0) fun r1=>
 Option.bind (Z0m r1.1.1) fun r2=>
 some ((r2.1.1,r2.1.2.1,()),())
noncomputable def Znf:Ent:=⟨[.val t36],[⟨t36,(nF 7),none⟩,⟨t32,[true],none⟩],fun x=>Zbx x.1⟩
theorem Zbg:GD 119 Znf:=fnk 1 (fo [[1,2],[2,3]]) (Qjy Zaz (Qjy Z9m Qk3)) Tryz.func119
noncomputable def Z8f (f_0:Int × Int × Qlh × Qlh × Qto × Int × Int) (i_1:Int × ByteArray):Option ((Z5u × Unit) × Unit):=
 bif f_0.1==0 then
  Option.bind (Qqh f_0) fun r1=>
  some ((r1.1.1,()),())
 else
 bif decide (i_1.1<1) then
  Option.bind (Qqh f_0) fun r2=>
  some ((r2.1.1,()),())
 else
 bif decide (i_1.1>1000000) then
  Option.bind (Qqh f_0) fun r3=>
  some ((r3.1.1,()),())
 else
 bif decide ((i_1.2.size:Int)>12) then
  Option.bind (Qqh f_0) fun r4=>
  some ((r4.1.1,()),())
 else
  Option.bind (Qtk f_0 i_1.1) fun r5=>
  Option.bind (Zih (g3 r5.1.1) r5.1.1.1 i_1) fun r6=>
  Option.bind (Zbx (u3 r5.1.1 r6.1.1)) fun r7=>
  some ((r7.1.1,()),())
noncomputable def Zkg:Ent:=⟨[.val t36,.val t58],[⟨t36,(nF 7),none⟩],fun x=>Z8f x.1 x.2.1⟩
theorem Zgj:GD 102 Zkg:=fnk 1 (fo [[2,3,4,9,10,11,14,15,16,19,20,21,22],[2,3,4,23],[4],[2,3,4],[2,4],[2,4],[4]]) (Qjy Qwd (Qjy Quk (Qjy Zbg (Qjy Zjy Qk3)))) Tryz.func102
abbrev Qm2:Type:=(Int × Unit) × Unit
noncomputable def Z54:Ctx:=[]
def Qve:Fi:=fo [[0,1],[0,1,7,8],[0,1,7,8,9],[0,1,5,7,8],[0,1,5,7,8,16],[4],[0,1,7,8],[4]]
abbrev Qrf:Type:=Qlh→(Qlw × Unit→Option (Bool × Unit))→Int→Int→Option Qm2
noncomputable def Qlo (L1:Qrf) (v1:List Qlw) (v2:(Qlw × Unit→Option (Bool × Unit))) (v3 v4:Int):Option Qm2:=
 bif decide (v4<v3) then
  bif decide (0≤v4)&&decide (v4<(v1.length:Int)) then
   Option.bind (v2 ((List.getD v1 v4.toNat (0,(⟨#[]⟩:ByteArray))),())) fun r5=>
   bif r5.1 then
    some ((v4,()),())
   else
    L1 v1 v2 v3 (IntKind.wrap .i64 (v4+1))
  else none
 else
  some (((-1),()),())
noncomputable def Qw5 (L1:Qrf) (s_0:List Qlw) (f_1:(Qlw × Unit→Option (Bool × Unit))):Option Qm2:=
 L1 s_0 f_1 (s_0.length:Int) 0
noncomputable def Qkz (n:Nat):Nat→Qrf:=iter (fun _ _ _ _=>none) fun L=>Qlo L
noncomputable def Qoi (n m:Nat) (v1:List Qlw) (v2:(Qlw × Unit→Option (Bool × Unit))) (v3 v4:Int):Option Qm2:=
 Qjv Z54 tab (fiB [.val t32,.fn [t58] [t4]] Qve) n [.val t32,.fn [t58] [t4]] [⟨t2,[false],none⟩] Tryz.f193 [1,0,1,0] [] [0,1,7,8] m
 ⟨[(0,Vp t32 v1),(1,V1 (.clo [t58] [t4] v2)),(7,Vp t2 v3),(8,Vp t2 v4)],[]⟩
theorem Qul (n:Nat):∀ m,Qoi n m=Qkz n m
 | 0=>rfl
 | m+1=>by rw [show Qoi n (m+1)=Qlo (Qoi n m) from by kernel_rfl,Qul n m];rfl
noncomputable def Qvz (n:Nat) (s_0:List Qlw) (f_1:(Qlw × Unit→Option (Bool × Unit))):Option Qm2:=Qw5 (Qkz n n) s_0 f_1
noncomputable def Qtc (s_0:List Qlw) (f_1:(Qlw × Unit→Option (Bool × Unit))):Option Qm2:=Qvz 1099511627776 s_0 f_1
noncomputable def Z55:Ent:=⟨[.val t32,.fn [t58] [t4]],[⟨t2,[false],none⟩],fun x=>Qtc x.1 x.2.1⟩
theorem Z1o:GD 193 Z55:=fnl Qve (fun n x=>Qvz n x.1 x.2.1) Qk3 Tryz.func193 fun n x=>Eq.trans (b:=Qw5 (Qoi n n) x.1 x.2.1) (by kernel_rfl) (by rw [Qul n n];rfl)
noncomputable def Zci (i_0:Int × ByteArray) (x_1:Int × Int × Qlh × Qlh × Qto × Int × Int):Option ((Bool × Unit) × Unit):=
 some ((decide (i_0.1 ≥ x_1.1),()),())
noncomputable def Zfb:Ent:=⟨[.val t58,.rbox t36],[⟨t4,[false],none⟩],fun x=>Zci x.1 x.2.1⟩
theorem Zb3:GD 194 Zfb:=fnk 1 (fo [[1,2],[3]]) Qk3 Tryz.func194
noncomputable def Z88 (f_0:Int × Int × Qlh × Qlh × Qto × Int × Int) (hi_1:Int):Option ((Int × Bool × Unit) × Unit):=
 Option.bind (Qtc (g3 f_0) (fun x=>(Zci x.1 f_0).bind fun r=>some (r.1.1,()))) fun r1=>
 bif decide (r1.1.1<0) then
  some ((hi_1,false,()),())
 else
 bif decide (0≤r1.1.1)&&decide (r1.1.1<((g3 f_0).length:Int)) then
  bif decide ((List.getD (g3 f_0) r1.1.1.toNat (0,(⟨#[]⟩:ByteArray))).1>hi_1) then
   some ((hi_1,false,()),())
  else
  bif decide (0≤r1.1.1)&&decide (r1.1.1<((g3 f_0).length:Int)) then
   some ((IntKind.wrap .i64 (((List.getD (g3 f_0) r1.1.1.toNat (0,(⟨#[]⟩:ByteArray))).1) - 1),true,()),())
  else none
 else none
noncomputable def Zfv:Ent:=⟨[.val t36,.val t2],[⟨t2,[false],none⟩,⟨t4,[false],none⟩],fun x=>Z88 x.1 x.2.1⟩
theorem Zh3:GD 164 Zfv:=fnk 1 (fo [[1,2,14,15,16,17,18,19,20,21],[1,2,6,14,15,16,17,18,19,20,21],[1,2,6,22],[4,5],[4,5]]) (Qjy Z1o (Qjy Zb3 Qk3)) Tryz.func164
noncomputable def Zaw (l_0:List Qtb) (lo_1 hi_2 why_3:Int):Option ((Qto × Unit) × Unit):=
 Option.bind (Ql2 l_0) fun r1=>
 bif Nat.ble (r1.1.1.length+1) 1073741824 then
  some ((r1.1.1++[(2,lo_1,hi_2,(⟨#[]⟩:ByteArray),why_3)],()),())
 else none
noncomputable def Zhv:Ent:=⟨[.val t33,.val t2,.val t2,.val t2],[⟨t33,[true],none⟩],fun x=>Zaw x.1 x.2.1 x.2.2.1 x.2.2.2.1⟩
theorem Zii:GD 165 Zhv:=fnk 1 (fo [[0,1,2,3],[8]]) (Qjy Qly Qk3) Tryz.func165
abbrev Qqq:Type:=(Z5u × Zgs × Unit) × Unit
noncomputable def Zf6:Ctx:=[(163,Zhp),(164,Zfv),(165,Zhv),(166,Zft),(167,Z73)]
def Z80:Fi:={ keep:=[],vty:=[(8,146)],vals:=[],live:=[(0,[1,2,3,6,20,21]),(1,[1,2,3,6,20,21]),(2,[1,2,3,6,22]),(3,[6,7]),(4,[1,2,3,6,8]),(5,[1,2,3,6,8,9]),(6,[1,2,3,6,8,9,29]),(7,[1,2,3,6,8,9,10,11]),(8,[1,2,3,6,8,9,10,11,39]),(9,[1,2,3,6,8,9,10,11]),(10,[1,2,3,6,8,9,10,11]),(11,[1,2,3,6,8,9,11]),(12,[1,2,3,6,8,9,59]),(13,[1,2,3,6,8,9,12,13]),(14,[1,2,3,6,8,9,13]),(15,[1,2,3,6,8,9,68]),(16,[3,6,8,72]),(17,[3,6,8]),(18,[6,7])] }
abbrev Zdu:Type:=Int→Int→Int→Int→Int→Int→Int→Qlh→Qlh→Qto→Int→Int→Int→Int→Qlh→Qlh→Qto→Zgs→Option Qqq
abbrev Z6y:Type:=Int→Int→Int→Int→Int→Qlh→Qlh→Qto→Int→Int→Int→Int→Int→Int→Qlh→Qlh→Qto→Zgs→Option Qqq
noncomputable def Qy6 (v5 v4 v6:Int) (v9 v10:List Qlw) (v11:List Qtb) (v19:List (Int × Int)) (v7 v8:Int):Option Qqq:=
 bif v5 != v4 then
  Option.bind (Qrd) fun r52=>
  some (((v5,v6,v9,v10,v11,r52.1.1),v19,()),())
 else
  some (((v5,v6,v9,v10,v11,v7,v8),v19,()),())
noncomputable def Zdz (L2:Z6y) (v2 v3 v4 v5 v6 v7 v8:Int) (v9 v10:List Qlw) (v11:List Qtb) (v12 v13 v14 v15:Int) (v16 v17:List Qlw) (v18:List Qtb) (v19:List (Int × Int)):Option Qqq:=
 bif decide (v5≤v2) then
  Option.bind (Z88 (v5,v6,v9,v10,v11,v7,v8) v2) fun r20=>
  bif decide (r20.1.1 ≥ v5) then
   Option.bind (Zaw v11 v5 r20.1.1 v3) fun r21=>
   bif Nat.ble (v19.length+1) 1073741824 then
    bif !r20.1.2.1 then
     bif (IntKind.wrap .i64 (r20.1.1+1)) != v4 then
      Option.bind (Qrd) fun r22=>
      some (((IntKind.wrap .i64 (r20.1.1+1),v6,v9,v10,r21.1.1,r22.1.1),v19++[(v5,r20.1.1)],()),())
     else
      some (((IntKind.wrap .i64 (r20.1.1+1),v6,v9,v10,r21.1.1,v7,v8),v19++[(v5,r20.1.1)],()),())
    else
     Option.bind (Z0m (IntKind.wrap .i64 (r20.1.1+1),v6,v9,v10,r21.1.1,v7,v8)) fun r23=>
     bif (r23.1.2.1.length:Int)==0 then
      bif r23.1.1.1 != v4 then
       Option.bind (Qrd) fun r24=>
       some (((e5 r23.1.1 r24.1.1),v19++[(v5,r20.1.1)],()),())
      else
       some ((r23.1.1,v19++[(v5,r20.1.1)],()),())
     else
      L2 v2 v3 v4 r23.1.1.1 r23.1.1.2.1 r23.1.1.2.2.1 (g3 r23.1.1) (g4 r23.1.1) (g5 r23.1.1) (h6 r23.1.1) v12 v13 v14 v15 v16 v17 v18 (v19++[(v5,r20.1.1)])
   else none
  else
  bif !r20.1.2.1 then
   Qy6 v5 v4 v6 v9 v10 v11 v19 v7 v8
  else
   Option.bind (Z0m (v5,v6,v9,v10,v11,v7,v8)) fun r53=>
   bif (r53.1.2.1.length:Int)==0 then
    bif r53.1.1.1 != v4 then
     Option.bind (Qrd) fun r54=>
     some (((e5 r53.1.1 r54.1.1),v19,()),())
    else
     some ((r53.1.1,v19,()),())
   else
    L2 v2 v3 v4 r53.1.1.1 r53.1.1.2.1 r53.1.1.2.2.1 (g3 r53.1.1) (g4 r53.1.1) (g5 r53.1.1) (h6 r53.1.1) v12 v13 v14 v15 v16 v17 v18 v19
 else
  Qy6 v5 v4 v6 v9 v10 v11 v19 v7 v8
noncomputable def Qqb (L2:Z6y) (v25 v26 v27 v28 v29:Int) (v30 v31:List Qlw) (v32:List Qtb) (v33 v34 v35 v36 v37 v38:Int) (v39 v40:List Qlw) (v41:List Qtb) (v42:List (Int × Int)):Option Qqq:=
 bif decide (v28≤v25) then
  Option.bind (Z88 (v28,v29,v30,v31,v32,v33,v34) v25) fun r43=>
  bif decide (r43.1.1 ≥ v28) then
   Option.bind (Zaw v32 v28 r43.1.1 v26) fun r44=>
   bif Nat.ble (v42.length+1) 1073741824 then
    bif !r43.1.2.1 then
     bif (IntKind.wrap .i64 (r43.1.1+1)) != v27 then
      Option.bind (Qrd) fun r45=>
      some (((IntKind.wrap .i64 (r43.1.1+1),v29,v30,v31,r44.1.1,r45.1.1),v42++[(v28,r43.1.1)],()),())
     else
      some (((IntKind.wrap .i64 (r43.1.1+1),v29,v30,v31,r44.1.1,v33,v34),v42++[(v28,r43.1.1)],()),())
    else
     Option.bind (Z0m (IntKind.wrap .i64 (r43.1.1+1),v29,v30,v31,r44.1.1,v33,v34)) fun r46=>
     bif (r46.1.2.1.length:Int)==0 then
      bif r46.1.1.1 != v27 then
       Option.bind (Qrd) fun r47=>
       some (((e5 r46.1.1 r47.1.1),v42++[(v28,r43.1.1)],()),())
      else
       some ((r46.1.1,v42++[(v28,r43.1.1)],()),())
     else
      L2 v25 v26 v27 r46.1.1.1 r46.1.1.2.1 r46.1.1.2.2.1 (g3 r46.1.1) (g4 r46.1.1) (g5 r46.1.1) (h6 r46.1.1) v35 v36 v37 v38 v39 v40 v41 (v42++[(v28,r43.1.1)])
   else none
  else
  bif !r43.1.2.1 then
   Qy6 v28 v27 v29 v30 v31 v32 v42 v33 v34
  else
   Option.bind (Z0m (v28,v29,v30,v31,v32,v33,v34)) fun r49=>
   bif (r49.1.2.1.length:Int)==0 then
    bif r49.1.1.1 != v27 then
     Option.bind (Qrd) fun r50=>
     some (((e5 r49.1.1 r50.1.1),v42,()),())
    else
     some ((r49.1.1,v42,()),())
   else
    L2 v25 v26 v27 r49.1.1.1 r49.1.1.2.1 r49.1.1.2.2.1 (g3 r49.1.1) (g4 r49.1.1) (g5 r49.1.1) (h6 r49.1.1) v35 v36 v37 v38 v39 v40 v41 v42
 else
  Qy6 v28 v27 v29 v30 v31 v32 v42 v33 v34
noncomputable def Z53 (L1:Zdu) (f_0:Int × Int × Qlh × Qlh × Qto × Int × Int) (hi_1 why_2:Int):Option Qqq:=
 Option.bind (Zav f_0) fun r1=>
 bif decide (r1.1.1.1<1) then
  some ((r1.1.1,[],()),())
 else
 bif decide (hi_1>1000000) then
  some ((r1.1.1,[],()),())
 else
  L1 hi_1 why_2 r1.1.1.1 r1.1.1.1 r1.1.1.2.1 (g5 r1.1.1) (h6 r1.1.1) r1.1.1.2.2.1 (g3 r1.1.1) (g4 r1.1.1) 0 0 0 0 [] [] [] []
noncomputable def Qvf (n:Nat):Nat→Z6y:=iter (fun _ _ _ _ _ _ _ _ _ _ _ _ _ _ _ _ _ _=>none) fun L=>Qqb L
noncomputable def Qyi (n:Nat):Nat→Zdu:=Qjg (fun _ _ _ _ _ _ _ _ _ _ _ _ _ _ _ _ _ _=>none) fun m L=>Zdz (Qvf n m)
noncomputable def Z7p (n m:Nat) (v2 v3 v4 v5 v6 v7 v8:Int) (v9 v10:List Qlw) (v11:List Qtb) (v12 v13 v14 v15:Int) (v16 v17:List Qlw) (v18:List Qtb) (v19:List (Int × Int)):Option Qqq:=
 Qjv Zf6 tab (fiB [.val t36,.val t2,.val t2] Z80) n [.val t36,.val t2,.val t2] [⟨t36,(nF 7),none⟩,⟨Zpc,[true],none⟩] Tryz.f118 [1,1,1,1,1,0,0] [] [1,2,3,6,8,9] m
 ⟨[(1,Vp t2 v2),(2,Vp t2 v3),(3,V1 (.ptr (3,0) 0)),(6,V1 (.ptr (6,0) 0)),(8,V1 (.ref (888888,8))),(9,Vp t2 v4)],[((3,0),Ob.box 37 [LV.pure t2 v5,LV.pure t2 v6,LV.ref (3,3),LV.ref (3,4),LV.ref (3,5),LV.pure t2 v7,LV.pure t2 v8]),((3,3),Ob.row 59 t58 v9),((3,4),Ob.row 59 t58 v10),((3,5),Ob.row 55 t54 v11),((6,0),Ob.box 37 [LV.pure t2 v12,LV.pure t2 v13,LV.ref (6,3),LV.ref (6,4),LV.ref (6,5),LV.pure t2 v14,LV.pure t2 v15]),((6,3),Ob.row 59 t58 v16),((6,4),Ob.row 59 t58 v17),((6,5),Ob.row 55 t54 v18),((888888,8),Ob.row 100 t34 v19)]⟩
noncomputable def Z2t (n m:Nat) (v25 v26 v27 v28 v29:Int) (v30 v31:List Qlw) (v32:List Qtb) (v33 v34 v35 v36 v37 v38:Int) (v39 v40:List Qlw) (v41:List Qtb) (v42:List (Int × Int)):Option Qqq:=
 Qjv Zf6 tab (fiB [.val t36,.val t2,.val t2] Z80) n [.val t36,.val t2,.val t2] [⟨t36,(nF 7),none⟩,⟨Zpc,[true],none⟩] Tryz.f118 [1,1,1,1,1,0,0] [] [1,2,3,6,8,9] m
 ⟨[(1,Vp t2 v25),(2,Vp t2 v26),(3,V1 (.ptr (3,0) 0)),(6,V1 (.ptr (6,0) 0)),(8,V1 (.ref (888888,8))),(9,Vp t2 v27)],[((3,0),Ob.box 37 [LV.pure t2 v28,LV.pure t2 v29,LV.pure t32 v30,LV.pure t32 v31,LV.pure t33 v32,LV.pure t2 v33,LV.pure t2 v34]),((6,0),Ob.box 37 [LV.pure t2 v35,LV.pure t2 v36,LV.ref (6,3),LV.ref (6,4),LV.ref (6,5),LV.pure t2 v37,LV.pure t2 v38]),((6,3),Ob.row 59 t58 v39),((6,4),Ob.row 59 t58 v40),((6,5),Ob.row 55 t54 v41),((888888,8),Ob.row 100 t34 v42)]⟩
theorem Zc2 (n:Nat):∀ m,Z2t n m=Qvf n m
 | 0=>rfl
 | m+1=>by rw [show Z2t n (m+1)=Qqb (Z2t n m) from by kernel_rfl,Zc2 n m];rfl
theorem Zie (n:Nat):∀ m,Z7p n m=Qyi n m
 | 0=>rfl
 | m+1=>by rw [show Z7p n (m+1)=Zdz (Z2t n m) from by kernel_rfl,Zc2 n m];rfl
noncomputable def Zgg (n:Nat) (f_0:Int × Int × Qlh × Qlh × Qto × Int × Int) (hi_1 why_2:Int):Option Qqq:=Z53 (Qyi n n) f_0 hi_1 why_2
noncomputable def Zf9 (f_0:Int × Int × Qlh × Qlh × Qto × Int × Int) (hi_1 why_2:Int):Option Qqq:=Zgg 1099511627776 f_0 hi_1 why_2
noncomputable def Zkv:Ent:=⟨[.val t36,.val t2,.val t2],[⟨t36,(nF 7),none⟩,⟨Zpc,[true],none⟩],fun x=>Zf9 x.1 x.2.1 x.2.2.1⟩
theorem Zgu:GD 118 Zkv:=fnl Z80 (fun n x=>Zgg n x.1 x.2.1 x.2.2.1) (Qjy Zaz (Qjy Zh3 (Qjy Zii (Qjy Z9m (Qjy Z7r Qk3))))) Tryz.func118 fun n x=>Eq.trans (b:=Z53 (Z7p n n) x.1 x.2.1 x.2.2.1) (by kernel_rfl) (by rw [Zie n n];rfl)
noncomputable def Z8h (f_0:Int × Int × Qlh × Qlh × Qto × Int × Int) (lo_1 hi_2:Int):Option ((Z5u × Unit) × Unit):=
 bif f_0.1==0 then
  Option.bind (Qqh f_0) fun r1=>
  some ((r1.1.1,()),())
 else
 bif decide (lo_1<1) then
  Option.bind (Qqh f_0) fun r2=>
  some ((r2.1.1,()),())
 else
 bif decide (lo_1>hi_2) then
  Option.bind (Qqh f_0) fun r3=>
  some ((r3.1.1,()),())
 else
 bif decide (hi_2>1000000) then
  Option.bind (Qqh f_0) fun r4=>
  some ((r4.1.1,()),())
 else
 bif decide (f_0.1<lo_1) then
  Option.bind (Qtk f_0 hi_2) fun r5=>
  some ((r5.1.1,()),())
 else
 bif decide (f_0.1>hi_2) then
  Option.bind (Qtk f_0 hi_2) fun r6=>
  some ((r6.1.1,()),())
 else
  Option.bind (Zf9 f_0 hi_2 1) fun r7=>
  Option.bind (Zbx (u1 r7.1.1 (if hi_2>r7.1.1.2.1 then hi_2 else r7.1.1.2.1))) fun r8=>
  some ((r8.1.1,()),())
noncomputable def Zju:Ent:=⟨[.val t36,.val t2,.val t2],[⟨t36,(nF 7),none⟩],fun x=>Z8h x.1 x.2.1 x.2.2.1⟩
theorem Zfr:GD 103 Zju:=fnk 1 (fo [[1,2,3,6,11,12,15,16,17,20,21,30,31,32,33],[1,2,3,6,22,30,31,32,33],[6],[2,3,6,34],[6],[2,3,6],[3,6],[3,6],[6]]) (Qjy Qwd (Qjy Quk (Qjy Zgu (Qjy Zbg Qk3)))) Tryz.func103
noncomputable def Qzt (m_1:Int × Int × Int × Int × Int × Int × (List Int) × Int × Int × ByteArray) (n_0:Bool × Int × ByteArray × Qwp × Z5u × Int):Option ((Z5u × Unit) × Unit):=
 bif m_1.1==7 then
  Option.bind (Z8f (g4 n_0) ((g7 m_1),(h9 m_1))) fun r4=>
  some ((r4.1.1,()),())
 else
 bif m_1.1==9 then
  Option.bind (Z8h (g4 n_0) (g7 m_1) (g8 m_1)) fun r5=>
  some ((r5.1.1,()),())
 else
  some (((g4 n_0),()),())
noncomputable def Z00 (m_1:Int × Int × Int × Int × Int × Int × (List Int) × Int × Int × ByteArray) (was_2:Int) (n_0:Bool × Int × ByteArray × Qwp × Z5u × Int):Option ((Z5u × Unit) × Unit):=
 bif m_1.1==5 then
  bif was_2==m_1.2.1 then
   Option.bind (Qtk (g4 n_0) (g8 m_1)) fun r3=>
   some ((r3.1.1,()),())
  else
   Qzt m_1 n_0
 else
  Qzt m_1 n_0
noncomputable def Z09 (n_0:Bool × Int × ByteArray × Qwp × Z5u × Int) (m_1:Int × Int × Int × Int × Int × Int × (List Int) × Int × Int × ByteArray) (was_2:Int):Option ((Z5u × Unit) × Unit):=
 bif m_1.2.1==(g3 (g3 n_0)) then
  bif !((g3 m_1)==(g4 (g3 n_0))) then
   some (((g4 n_0),()),())
  else
  bif m_1.1==2 then
   bif was_2 != m_1.2.1 then
    Option.bind (Z8e (g4 n_0) (g7 m_1)) fun r1=>
    Option.bind (Qtk r1.1.1 (IntKind.wrap .i64 ((g7 m_1) - 1))) fun r2=>
    some ((r2.1.1,()),())
   else
    Z00 m_1 was_2 n_0
  else
   Z00 m_1 was_2 n_0
 else
  some (((g4 n_0),()),())
noncomputable def Zk9:Ent:=⟨[.val t38,.val t45,.val t2],[⟨t36,(nF 7),none⟩],fun x=>Z09 x.1 x.2.1 x.2.2.1⟩
theorem Zfz:GD 48 Zk9:=fnk 1 (fo [[2,3,4,6,15,16,17,18,19,20,32,33,34,35,51,52,53,54],[2,3,4,6,7,32,33,34,35,51,52,53,54],[2,3,4,6,22,32,33,34,35,51,52,53,54],[6],[2,3,4,6,27,51,52,53,54],[6],[3,4,6,46],[6],[3,4,6,61],[6],[3,4,6,73],[6],[6]]) (Qjy Qwd (Qjy Zgb (Qjy Zgj (Qjy Zfr Qk3)))) Tryz.func48
noncomputable def Z44 (n_0:Bool × Int × ByteArray × Qwp × Z5u × Int) (b_1:List Int):Option ((Zqd × Zd7 × Unit) × Unit):=
 Option.bind (Qrb n_0) fun r1=>
 bif !n_0.1 then
  some ((r1.1.1,[],()),())
 else
  Option.bind (Zap b_1) fun r2=>
  bif !r2.1.2.1 then
   some (((e5 r1.1.1 (if 1073741824<IntKind.wrap .i64 ((h5 r1.1.1)+1) then 1073741824 else IntKind.wrap .i64 ((h5 r1.1.1)+1))),[],()),())
  else
  bif r2.1.1.2.2.1 != (g3 n_0).1 then
   some (((e5 r1.1.1 (if 1073741824<IntKind.wrap .i64 ((h5 r1.1.1)+1) then 1073741824 else IntKind.wrap .i64 ((h5 r1.1.1)+1))),[],()),())
  else
   Option.bind (Zc1 (g3 n_0) r2.1.1 (if 1>(g4 n_0).1 then 1 else (g4 n_0).1)) fun r3=>
   bif r2.1.1.1==8 then
    Option.bind (Z4x (u3 r1.1.1 r3.1.1) r2.1.1) fun r4=>
    bif Nat.ble (r3.1.2.1.length+r4.1.1.length) 1073741824 then
     Option.bind (Z09 (u3 r1.1.1 r3.1.1) r2.1.1 (g3 (g3 n_0))) fun r5=>
     Option.bind (Qrb (u4 (u3 r1.1.1 r3.1.1) r5.1.1)) fun r6=>
     Option.bind (Z7v (u4 (u3 r1.1.1 r3.1.1) r5.1.1) (g4 n_0)) fun r7=>
     bif Nat.ble ((r3.1.2.1++r4.1.1).length+r7.1.1.length) 1073741824 then
      some ((r6.1.1,(r3.1.2.1++r4.1.1)++r7.1.1,()),())
     else none
    else none
   else
    Option.bind (Z09 (u3 r1.1.1 r3.1.1) r2.1.1 (g3 (g3 n_0))) fun r8=>
    Option.bind (Qrb (u4 (u3 r1.1.1 r3.1.1) r8.1.1)) fun r9=>
    Option.bind (Z7v (u4 (u3 r1.1.1 r3.1.1) r8.1.1) (g4 n_0)) fun r10=>
    bif Nat.ble (r3.1.2.1.length+r10.1.1.length) 1073741824 then
     some ((r9.1.1,r3.1.2.1++r10.1.1,()),())
    else none
noncomputable def Zj6:Ent:=⟨[.val t38,.val t25],[⟨t38,(nF 24),none⟩,⟨t48,[true],none⟩],fun x=>Z44 x.1 x.2.1⟩
theorem Z6u:GD 18 Zj6:=fnk 1 (fo [[1,2,4,25,26,27,28,29,30],[1,2,4,6,25,26,27,28,29,30],[1,2,4,6,15,25,26,27,28,29,30],[4,5],[2,4,6,7,8,25,26,27,28,29,30],[2,4,6,7,31],[4,6],[4,5],[2,4,6,7,9,10],[2,4,6,7,10],[2,4,6,7,10,53],[2,4,6,7,10],[2,4,6,10],[4,5]]) (Qjy Qxx (Qjy Zj2 (Qjy Zh1 (Qjy Zel (Qjy Zfz (Qjy Z9l Qk3)))))) Tryz.func18
noncomputable def Zho (n_0:Bool × Int × ByteArray × Qwp × Z5u × Int):Option ((Zqd × Unit) × Unit):=
 bif !n_0.1 then
  Option.bind (Qrb n_0) fun r1=>
  some ((r1.1.1,()),())
 else
  some (((u4 (u3 (u2 (u0 n_0 false) (⟨#[]⟩:ByteArray)) Zs0) (0,0,[],[],[],0,0)),()),())
noncomputable def Zkk:Ent:=⟨[.val t38],[⟨t38,(nF 24),none⟩],fun x=>Zho x.1⟩
theorem Zfg:GD 33 Zkk:=fnk 1 (fo [[1,2],[1,2,5],[2],[2]]) (Qjy Qxx Qk3) Tryz.func33
noncomputable def Qxo  : Option ((Bool × Unit) × Unit):=
 Option.bind (Zfu Zs2 1 (⟨#[97]⟩:ByteArray) 0) fun r1=>
 Option.bind (Zfu r1.1.1 1 (⟨#[97]⟩:ByteArray) 0) fun r2=>
 Option.bind (Zm2 r1.1.1 (⟨#[120]⟩:ByteArray)) fun r3=>
 Option.bind (Z44 r1.1.1 [121]) fun r4=>
 Option.bind (Zho r1.1.1) fun r5=>
 bif r1.1.2.1 then
  bif r1.1.1.1 then
   bif r1.1.1.2.1==1 then
    bif !r2.1.2.1 then
     bif r3.1.2.2.1 then
      bif (r3.1.2.1.length:Int)==0 then
       bif ((g4 (g4 r3.1.1)).length:Int)==1 then
        bif (h5 r4.1.1)==1 then
         bif (r4.1.2.1.length:Int)==0 then
          bif !r5.1.1.1 then
           some ((r5.1.1.2.1==1,()),())
          else
           some ((false,()),())
         else
          some ((false,()),())
        else
         some ((false,()),())
       else
        some ((false,()),())
      else
       some ((false,()),())
     else
      some ((false,()),())
    else
     some ((false,()),())
   else
    some ((false,()),())
  else
   some ((false,()),())
 else
  some ((false,()),())
noncomputable def Zaa:Ent:=⟨[],[⟨t4,[false],none⟩],fun x=>Qxo⟩
theorem Z6j:GD 10 Zaa:=fnk 1 (fo [[38,39,42,43,44,47,48,51,54,55,56,59,60,61,62,63,66,67,68,71,72,73,76,77,78,81,82,83],[1,2,38,39,42,43,44,47,48,51,54,55,56,59,60,61,62,63,66,67,68,71,72,73,76,77,78,81,82,83],[1,2,4,38,39,42,43,44,47,48,51,54,55,56,59,60,61,62,63,66,67,68,71,72,73,76,77,78,81,82,83],[1,2,4,5,6,7,38,39,42,43,44,47,48,51,54,55,56,59,60,61,62,63,66,67,68,71,72,73,76,77,78,81,82,83],[1,2,4,5,6,7,8,9,38,39,42,43,44,47,48,51,54,55,56,59,60,61,62,63,66,67,68,71,72,73,76,77,78,81,82,83],[1,2,4,5,6,7,8,9,10,38,39,42,43,44,47,48,51,54,55,56,59,60,61,62,63,66,67,68,71,72,73,76,77,78,81,82,83],[0]]) (Qjy Zh6 (Qjy Z6u (Qjy Ziq (Qjy Zfg Qk3)))) Tryz.func10
noncomputable def Z1a (l_0:List Int):Option ((Zdo × Unit) × Unit):=
 some (((l_0,0),()),())
noncomputable def Zd8:Ent:=⟨[.val t25],[⟨t74,[false,false],some 75⟩],fun x=>Z1a x.1⟩
theorem Z8s:GD 11 Zd8:=fnk 1 (fo [[0],[2]]) Qk3 Tryz.func11
noncomputable def Qk5 (p_0:(List Int) × Int) (m_1:Int):Option ((Int × Unit) × (Zdo × Unit)):=
 bif decide (p_0.2 ≥ (p_0.1.length:Int)) then
  some ((0,()),(p_0,()))
 else
 bif decide (m_1<1) then
  some ((0,()),(p_0,()))
 else
 bif decide (0≤IntKind.wrap .i64 ((IntKind.wrap .i64 (p_0.2+1)) - 1))&&decide (IntKind.wrap .i64 ((IntKind.wrap .i64 (p_0.2+1)) - 1)<(p_0.1.length:Int)) then
  bif !(m_1==0) then
   some ((Int.tmod (IntKind.wrap .i64 (List.getD p_0.1 ((IntKind.wrap .i64 ((IntKind.wrap .i64 (p_0.2+1)) - 1)).toNat) 0)) m_1,()),((p_0.1,IntKind.wrap .i64 (p_0.2+1)),()))
  else none
 else none
noncomputable def Qpr:Ent:=⟨[.box 75 t74 [false,false],.val t2],[⟨t2,[false],none⟩],fun x=>Qk5 x.1 x.2.1⟩
theorem Ql9:GD 26 Qpr:=fnk 1 (fo [[0,1,16,17],[0,1,18],[0,4],[0,1],[0,4]]) Qk3 Tryz.func26
abbrev Qlr:Type:=(Int × Int × Unit) × Unit
noncomputable def Zai:Ctx:=[]
def Qyv:Fi:=fo [[0,19,20,28,29,37,38,56,57,58,59,73,74,77,78,79,80,81,82],[0,4,19,20,28,29,37,38,56,57,58,59,73,74,77,78,79,80,81,82],[0,4,19,20,28,29,37,38,56,57,58,59,73,74,77,78,79,80,81,82],[2,3],[0,4,11,19,20,28,29,37,38,56,57,58,59,73,74,77,78,79,80,81,82],[2,3],[0,4,15,28,29,37,38,56,57,58,59,73,74,77,78,79,80,81,82],[0,4,5,6,56,57,58,59,73,74,77,78,79,80,81,82],[0,4,24,37,38,56,57,58,59,73,74,77,78,79,80,81,82],[0,4,5,6,56,57,58,59,73,74,77,78,79,80,81,82],[0,4,33,56,57,58,59,73,74,77,78,79,80,81,82],[0,4,5,6,56,57,58,59,73,74,77,78,79,80,81,82],[0,4,5,6,45,56,57,58,59,73,74,77,78,79,80,81,82],[2,3],[0,4,5,6,7,56,57,58,59,73,74,77,78,79,80,81,82],[0,4,5,6,7,48,56,57,58,59,73,74,77,78,79,80,81,82],[0,4,5,6,7,56,57,58,59,73,74,77,78,79,80,81,82],[0,4,5,6,7,56,57,58,59,60,73,74,77,78,79,80,81,82],[2,3],[0,4,5,6,7,56,57,58,59,73,74,77,78,79,80,81,82],[4,5,83],[2,3],[2,3]]
abbrev Qoo:Type:=ByteArray→Int→Int→Int→Int→Option Qlr
noncomputable def Qzs (s_0:ByteArray) (L1:Qoo):Option Qlr:=
 bif decide (IntKind.wrap .i64 ((s_0.data.getD 0 0).toNat:Int) ≥ 240) then
  bif decide (IntKind.wrap .i64 ((s_0.data.getD 0 0).toNat:Int)≤244) then
   bif decide ((s_0.size:Int)<4) then
    some (((-1),1,()),())
   else
    L1 s_0 (IntKind.wrap .i64 ((IntKind.wrap .i64 ((s_0.data.getD 0 0).toNat:Int)) - 240)) 4 65536 1
  else
   some (((-1),1,()),())
 else
  some (((-1),1,()),())
noncomputable def Qzn (s_0:ByteArray) (L1:Qoo):Option Qlr:=
 bif decide (IntKind.wrap .i64 ((s_0.data.getD 0 0).toNat:Int) ≥ 224) then
  bif decide (IntKind.wrap .i64 ((s_0.data.getD 0 0).toNat:Int)≤239) then
   bif decide ((s_0.size:Int)<3) then
    some (((-1),1,()),())
   else
    L1 s_0 (IntKind.wrap .i64 ((IntKind.wrap .i64 ((s_0.data.getD 0 0).toNat:Int)) - 224)) 3 2048 1
  else
   Qzs s_0 L1
 else
  Qzs s_0 L1
noncomputable def Qz7 (L1:Qoo) (v1:ByteArray) (v2 v3 v4 v5:Int):Option Qlr:=
 bif decide (v5<v3) then
  bif decide (0≤v5)&&decide (v5<(v1.size:Int)) then
   bif decide (((v1.data.getD v5.toNat 0).toNat:Int)<128) then
    some (((-1),1,()),())
   else
   bif decide (0≤v5)&&decide (v5<(v1.size:Int)) then
    bif decide (((v1.data.getD v5.toNat 0).toNat:Int)>191) then
     some (((-1),1,()),())
    else
    bif decide (0≤v5)&&decide (v5<(v1.size:Int)) then
     L1 v1 (IntKind.wrap .i64 ((IntKind.wrap .i64 ((IntKind.wrap .i64 (v2*64))+(IntKind.wrap .i64 ((v1.data.getD v5.toNat 0).toNat:Int)))) - 128)) v3 v4 (IntKind.wrap .i64 (v5+1))
    else none
   else none
  else none
 else
 bif decide (v2<v4) then
  some (((-1),1,()),())
 else
 bif decide (v2>1114111) then
  some (((-1),1,()),())
 else
 bif decide (v2 ≥ 55296) then
  bif decide (v2≤57343) then
   some (((-1),1,()),())
  else
   some ((v2,v3,()),())
 else
  some ((v2,v3,()),())
noncomputable def Z0y (L1:Qoo) (s_0:ByteArray):Option Qlr:=
 bif decide (0<(s_0.size:Int)) then
  bif decide (IntKind.wrap .i64 ((s_0.data.getD 0 0).toNat:Int)<128) then
   some ((IntKind.wrap .i64 ((s_0.data.getD 0 0).toNat:Int),1,()),())
  else
  bif decide (IntKind.wrap .i64 ((s_0.data.getD 0 0).toNat:Int) ≥ 194) then
   bif decide (IntKind.wrap .i64 ((s_0.data.getD 0 0).toNat:Int)≤223) then
    bif decide ((s_0.size:Int)<2) then
     some (((-1),1,()),())
    else
     L1 s_0 (IntKind.wrap .i64 ((IntKind.wrap .i64 ((s_0.data.getD 0 0).toNat:Int)) - 192)) 2 128 1
   else
    Qzn s_0 L1
  else
   Qzn s_0 L1
 else none
noncomputable def Qzj (n:Nat):Nat→Qoo:=iter (fun _ _ _ _ _=>none) fun L=>Qz7 L
noncomputable def Qr2 (n m:Nat) (v1:ByteArray) (v2 v3 v4 v5:Int):Option Qlr:=
 Qjv Zai tab (fiB [.val t9] Qyv) n [.val t9] [⟨t2,[false],none⟩,⟨t2,[false],none⟩] Tryz.f145 [1,1,1,1,1,0,1,0] [] [0,4,5,6,7] m
 ⟨[(0,Vp t9 v1),(4,Vp t2 v2),(5,Vp t2 v3),(6,Vp t2 v4),(7,Vp t2 v5)],[]⟩
theorem Qyk (n:Nat):∀ m,Qr2 n m=Qzj n m
 | 0=>rfl
 | m+1=>by rw [show Qr2 n (m+1)=Qz7 (Qr2 n m) from by kernel_rfl,Qyk n m];rfl
noncomputable def Z0v (n:Nat) (s_0:ByteArray):Option Qlr:=Z0y (Qzj n n) s_0
noncomputable def Z4h (s_0:ByteArray):Option Qlr:=Z0v 1099511627776 s_0
noncomputable def Z12:Ent:=⟨[.val t9],[⟨t2,[false],none⟩,⟨t2,[false],none⟩],fun x=>Z4h x.1⟩
theorem Z64:GD 145 Z12:=fnl Qyv (fun n x=>Z0v n x.1) Qk3 Tryz.func145 fun n x=>Eq.trans (b:=Z0y (Qr2 n n) x.1) (by kernel_rfl) (by rw [Qyk n n];rfl)
abbrev Qn4:Type:=((List Int) × Unit) × Unit
noncomputable def Z9f:Ctx:=[(145,Z12)]
def Qy2:Fi:={ keep:=[],vty:=[(3,28)],vals:=[],live:=[(0,[0]),(1,[0,3]),(2,[0,3,8]),(3,[0,3,4,5]),(4,[0,3]),(5,[2])] }
abbrev Qt6:Type:=ByteArray→List Int→Option Qn4
noncomputable def Qxz (L1:Qt6) (v1:ByteArray) (v2:List Int):Option Qn4:=
 bif decide ((v1.size:Int)>0) then
  Option.bind (Z4h v1) fun r3=>
  bif Nat.ble (v2.length+1) 1073741824 then
   bif (decide (0≤r3.1.2.1)&&decide (r3.1.2.1≤(v1.size:Int)))&&decide ((v1.size:Int)≤(v1.size:Int)) then
    L1 (v1.extract r3.1.2.1.toNat ((v1.size:Int).toNat)) (v2++[r3.1.1])
   else none
  else none
 else
  some ((v2,()),())
noncomputable def Qyx (L1:Qt6) (s_0:ByteArray):Option Qn4:=
 L1 s_0 []
noncomputable def Qy9 (n:Nat):Nat→Qt6:=iter (fun _ _=>none) fun L=>Qxz L
noncomputable def Qqk (n m:Nat) (v1:ByteArray) (v2:List Int):Option Qn4:=
 Qjv Z9f tab (fiB [.val t9] Qy2) n [.val t9] [⟨t28,[true],none⟩] Tryz.f80 [1,1,0,0] [] [0,3] m
 ⟨[(0,Vp t9 v1),(3,V1 (.ref (888888,3)))],[((888888,3),Ob.row 3 t2 v2)]⟩
theorem Qx4 (n:Nat):∀ m,Qqk n m=Qy9 n m
 | 0=>rfl
 | m+1=>by rw [show Qqk n (m+1)=Qxz (Qqk n m) from by kernel_rfl,Qx4 n m];rfl
noncomputable def Qz4 (n:Nat) (s_0:ByteArray):Option Qn4:=Qyx (Qy9 n n) s_0
noncomputable def Z23 (s_0:ByteArray):Option Qn4:=Qz4 1099511627776 s_0
noncomputable def Qzr:Ent:=⟨[.val t9],[⟨t28,[true],none⟩],fun x=>Z23 x.1⟩
theorem Z5j:GD 80 Qzr:=fnl Qy2 (fun n x=>Qz4 n x.1) (Qjy Z64 Qk3) Tryz.func80 fun n x=>Eq.trans (b:=Qyx (Qqk n n) x.1) (by kernel_rfl) (by rw [Qx4 n n];rfl)
abbrev Qp9:Type:=(Bool × Unit) × Unit
noncomputable def Zdc:Ctx:=[(80,Qzr)]
def Z2l:Fi:=fo [[0,19,20,21,22,23,24,25,26,27,28,29,30,36,37,38],[3,19,20,21,22,23,24,25,26,27,28,29,30,36,37,38],[3,4,19,20,21,22,23,24,25,26,27,28,29,30,36,37,38],[3,4,10,19,20,21,22,23,24,25,26,27,28,29,30,36,37,38],[3,4,19,20,21,22,23,24,25,26,27,28,29,30,36,37,38],[3,4,19,20,21,22,23,24,25,26,27,28,29,30,31,36,37,38],[2],[2]]
abbrev Qwg:Type:=Int→List Int→Option Qp9
noncomputable def Z2c (L1:Qwg) (v2:Int) (v3:List Int):Option Qp9:=
 bif decide (v2<(v3.length:Int)) then
  bif decide (0≤v2)&&decide (v2<(v3.length:Int)) then
   bif decide (0≤v2)&&decide (v2<(v3.length:Int)) then
    bif decide (List.getD v3 v2.toNat 0<33) then
     some ((false,()),())
    else
    bif decide (0≤v2)&&decide (v2<(v3.length:Int)) then
     bif decide (0≤v2)&&decide (v2<(v3.length:Int)) then
      bif decide (List.getD v3 v2.toNat 0 ≥ 127) then
       bif decide (0≤v2)&&decide (v2<(v3.length:Int)) then
        bif decide (0≤v2)&&decide (v2<(v3.length:Int)) then
         bif decide (List.getD v3 v2.toNat 0≤159) then
          some ((false,()),())
         else
          L1 (IntKind.wrap .i64 (v2+1)) v3
        else none
       else none
      else
       L1 (IntKind.wrap .i64 (v2+1)) v3
     else none
    else none
   else none
  else none
 else
 bif decide ((v3.length:Int) ≥ 1) then
  some ((decide ((v3.length:Int)≤8),()),())
 else
  some ((false,()),())
noncomputable def Z4p (L1:Qwg) (s_0:ByteArray):Option Qp9:=
 Option.bind (Z23 s_0) fun r1=>
 L1 0 r1.1.1
noncomputable def Z33 (n:Nat):Nat→Qwg:=iter (fun _ _=>none) fun L=>Z2c L
noncomputable def Qso (n m:Nat) (v2:Int) (v3:List Int):Option Qp9:=
 Qjv Zdc tab (fiB [.val t9] Z2l) n [.val t9] [⟨t4,[false],none⟩] Tryz.f37 [1,1,0,1,0] [] [3,4] m
 ⟨[(3,V1 (.ref (888888,3))),(4,Vp t2 v2)],[((888888,3),Ob.row 3 t2 v3)]⟩
theorem Z0h (n:Nat):∀ m,Qso n m=Z33 n m
 | 0=>rfl
 | m+1=>by rw [show Qso n (m+1)=Z2c (Qso n m) from by kernel_rfl,Z0h n m];rfl
noncomputable def Z4f (n:Nat) (s_0:ByteArray):Option Qp9:=Z4p (Z33 n n) s_0
noncomputable def Z15 (s_0:ByteArray):Option Qp9:=Z4f 1099511627776 s_0
noncomputable def Zco:Ent:=⟨[.val t9],[⟨t4,[false],none⟩],fun x=>Z15 x.1⟩
theorem Z9e:GD 37 Zco:=fnl Z2l (fun n x=>Z4f n x.1) (Qjy Z5j Qk3) Tryz.func37 fun n x=>Eq.trans (b:=Z4p (Qso n n) x.1) (by kernel_rfl) (by rw [Z0h n n];rfl)
noncomputable def Qtd (id_0 inc_1 now_2 grand_3:Int):Option ((Qwp × Unit) × Unit):=
 bif id_0==1 then
  some (((id_0,inc_1,now_2,0,0,grand_3,[1],0,now_2,0,0,0,[]),()),())
 else
  some (((id_0,inc_1,now_2,0,0,grand_3,[],0,0,0,0,0,[]),()),())
noncomputable def Z4o:Ent:=⟨[.val t2,.val t2,.val t2,.val t2],[⟨t30,(nF 6++[true,false,false,false,false,false,true]),none⟩],fun x=>Qtd x.1 x.2.1 x.2.2.1 x.2.2.2.1⟩
theorem Qzp:GD 38 Z4o:=fnk 1 (fo [[0,1,2,3,8],[0,2,8,9],[2,8,9,16],[8,9],[8]]) Qk3 Tryz.func38
noncomputable def Qut (n_0:Bool × Int × ByteArray × Qwp × Z5u × Int) (id_1:Int) (name_2:ByteArray) (grand_3:Int):Option ((Zqd × Bool × Unit) × Unit):=
 bif n_0.1 then
  some ((n_0,false,()),())
 else
  Option.bind (Z15 name_2) fun r1=>
  bif !r1.1.1 then
   some ((n_0,false,()),())
  else
  bif decide (id_1<1) then
   some ((n_0,false,()),())
  else
  bif decide (id_1>8) then
   some ((n_0,false,()),())
  else
  bif decide (n_0.2.1 ≥ 1073741824) then
   some ((n_0,false,()),())
  else
   Option.bind (Qtd id_1 (IntKind.wrap .i64 (n_0.2.1+1)) 0 grand_3) fun r2=>
   some (((true,IntKind.wrap .i64 (n_0.2.1+1),name_2,r2.1.1,(0,0,[],[],[],0,0),0),true,()),())
noncomputable def Zb2:Ent:=⟨[.val t38,.val t2,.val t9,.val t2],[⟨t38,(nF 24),none⟩,⟨t4,[false],none⟩],fun x=>Qut x.1 x.2.1 x.2.2.1 x.2.2.2.1⟩
theorem Z7u:GD 14 Zb2:=fnk 1 (fo [[1,2,3,4,8,13,14,15,18,19,22,23,26,27,28],[1,2,3,4,8,29],[8,9],[8,9]]) (Qjy Z9e (Qjy Qzp Qk3)) Tryz.func14
noncomputable def Qnx (p_0:(List Int) × Int):Option ((Bool × Unit) × (Zdo × Unit)):=
 some ((decide (p_0.2 ≥ (p_0.1.length:Int)),()),(p_0,()))
noncomputable def Qrt:Ent:=⟨[.box 75 t74 [false,false]],[⟨t4,[false],none⟩],fun x=>Qnx x.1⟩
theorem Qu0:GD 25 Qrt:=fnk 1 (fo [[0],[0,2]]) Qk3 Tryz.func25
abbrev Qo9:Type:=(Z6m × Unit) × Unit
noncomputable def Zaq:Ctx:=[]
def Z10:Fi:={ keep:=[],vty:=[(5,29)],vals:=[],live:=[(0,[0,1]),(1,[0,1,5]),(2,[0,1,5,6]),(3,[0,1,5,6,10]),(4,[0,1,5,6]),(5,[0,1,5,6,20]),(6,[0,1,5,6]),(7,[4])] }
abbrev Qv6:Type:=Z6m→Int→Int→Z6m→Option Qo9
noncomputable def Qni (L1:Qv6) (v1:List Qlf) (v2 v3:Int) (v4:List Qlf):Option Qo9:=
 bif decide (v3<(v1.length:Int)) then
  bif decide (0≤v3)&&decide (v3<(v1.length:Int)) then
   bif decide (IntKind.wrap .i64 (v2 - (((List.getD v1 v3.toNat (0,0,0)).2).2))≤20) then
    bif decide (0≤v3)&&decide (v3<(v1.length:Int)) then
     bif Nat.ble (v4.length+1) 1073741824 then
      L1 v1 v2 (IntKind.wrap .i64 (v3+1)) (v4++[(List.getD v1 v3.toNat (0,0,0))])
     else none
    else none
   else
    L1 v1 v2 (IntKind.wrap .i64 (v3+1)) v4
  else none
 else
  some ((v4,()),())
noncomputable def Z26 (L1:Qv6) (l_0:List Qlf) (now_1:Int):Option Qo9:=
 L1 l_0 now_1 0 []
noncomputable def Qpj (n:Nat):Nat→Qv6:=iter (fun _ _ _ _=>none) fun L=>Qni L
noncomputable def Qrm (n m:Nat) (v1:List Qlf) (v2 v3:Int) (v4:List Qlf):Option Qo9:=
 Qjv Zaq tab (fiB [.val t29,.val t2] Z10) n [.val t29,.val t2] [⟨t29,[true],none⟩] Tryz.f123 [1,1,0,1,0] [] [0,1,5,6] m
 ⟨[(0,Vp t29 v1),(1,Vp t2 v2),(5,V1 (.ref (888888,5))),(6,Vp t2 v3)],[((888888,5),Ob.row 53 t52 v4)]⟩
theorem Qyw (n:Nat):∀ m,Qrm n m=Qpj n m
 | 0=>rfl
 | m+1=>by rw [show Qrm n (m+1)=Qni (Qrm n m) from by kernel_rfl,Qyw n m];rfl
noncomputable def Z2s (n:Nat) (l_0:List Qlf) (now_1:Int):Option Qo9:=Z26 (Qpj n n) l_0 now_1
noncomputable def Qyq (l_0:List Qlf) (now_1:Int):Option Qo9:=Z2s 1099511627776 l_0 now_1
noncomputable def Z2i:Ent:=⟨[.val t29,.val t2],[⟨t29,[true],none⟩],fun x=>Qyq x.1 x.2.1⟩
theorem Z7b:GD 123 Z2i:=fnl Z10 (fun n x=>Z2s n x.1 x.2.1) Qk3 Tryz.func123 fun n x=>Eq.trans (b:=Z26 (Qrm n n) x.1 x.2.1) (by kernel_rfl) (by rw [Qyw n n];rfl)
end Go.PE
