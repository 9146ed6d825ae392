/-
  Functions of the program, each as the evaluator answers it, and its contract.
  Conditions: none.
-/
import Derived.Test.YtmfiijdlhjajcaaGreatDoorNodeServesT
import Derived.WalkKit
import Derived.BigCall
import Derived.Lib.OthersKept
set_option linter.unusedVariables false
set_option maxRecDepth 100000
namespace Go.PE
open Go.Proofs
noncomputable def Quy (r_0:Int):Option ((Int × Unit) × Unit):=
 bif decide (r_0<0) then
  some (((-1),()),())
 else
 bif decide (r_0≤127) then
  some ((1,()),())
 else
 bif decide (r_0≤2047) then
  some ((2,()),())
 else
 bif decide (55296≤r_0) then
  bif decide (r_0≤57343) then
   some (((-1),()),())
  else
  bif decide (r_0≤65535) then
   some ((3,()),())
  else
  bif decide (r_0≤1114111) then
   some ((4,()),())
  else
   some (((-1),()),())
 else
 bif decide (r_0≤65535) then
  some ((3,()),())
 else
 bif decide (r_0≤1114111) then
  some ((4,()),())
 else
  some (((-1),()),())
noncomputable def Qy6:Ent:=⟨[.val t21],[⟨t2,[false],none⟩],fun x=>Quy x.1⟩
theorem Z4b:GD 174 Qy6:=fnk 1 (fo [[0,16,17],[0,3,16,17],[2],[0,6,16,17],[2],[0,9,16,17],[2],[0,12],[2],[0,19],[2],[22],[2],[2]]) Qk3 Tryz.func174
noncomputable def Qnq (s_0:ByteArray):Option ((Int × Int × Unit) × Unit):=
 bif !(Qeq s_0 (⟨#[]⟩:ByteArray)) then
  bif decide (0<(s_0.size:Int)) then
   bif decide (((s_0.data.getD 0 0).toNat:Int)<128) then
    bif decide (0<(s_0.size:Int)) then
     some ((IntKind.wrap .i32 ((s_0.data.getD 0 0).toNat:Int),1,()),())
    else none
   else none
  else none
 else none
noncomputable def Qr0:Ent:=⟨[.val t9],[⟨t21,[false],none⟩,⟨t2,[false],none⟩],fun x=>Qnq x.1⟩
theorem Qv6:GD 175 Qr0:=fnk 1 (fo [[0,7,8,9],[0,10],[2,3],[2,3]]) Qk3 Tryz.func175
noncomputable def Qzo (letter_0 x_1 x_2:Int) (x_3:List Int):Option ((Bool × Unit) × ((List Int) × Unit)):=
 bif Nat.ble (x_3.length+1) 1073741824 then
  some ((true,()),(x_3++[letter_0],()))
 else none
noncomputable def Z3j:Ent:=⟨[.val t2,.val t2,.val t2,.box 28 t28 [true]],[⟨t4,[false],none⟩],fun x=>Qzo x.1 x.2.1 x.2.2.1 x.2.2.2.1⟩
theorem Z87:GD 144 Z3j:=fnk 1 (fo [[3,0],[3],[3,7]]) Qk3 Tryz.func144
section
open Go.RowKit
def Zid (s:ByteArray):Bool:=s.data.toList.all fun b=>Nat.blt b.toNat 128
def Qsj (s:ByteArray):List Int:=s.data.toList.map fun b=>(b.toNat:Int)
theorem Zk6 {s:ByteArray} (h:Zid s=true) {i:Nat} (hi:i<s.size):(s[i]'hi).toNat<128:=by
  have:=List.all_eq_true.1 h (s.data.toList[i]'(by simpa using hi)) (List.getElem_mem _)
  exact Nat.le_of_ble_eq_true this
theorem Zj9 {s:ByteArray} {i:Nat} (hi:i<s.size):(Qsj s).take (i+1)=(Qsj s).take i++[((s[i]'hi).toNat:Int)]:=by
  have hl:i<(Qsj s).length:=by simpa [Qsj] using hi
  rw [List.take_succ_eq_append_getElem hl]
  simp [Qsj]
  rfl
theorem Zf8 (s:ByteArray):(Qsj s).length=s.size:=by simp [Qsj]
abbrev Zsi:Ty:=.sl 3 (.int .i64)
def Zfd (w:World) (B:Nat) (xs:List Int) (Bl:List Nat):Prop:=
  Q1v tab.ty (fun _=>False) w Zsi [true] xs (.pointer (some ⟨B,0,none⟩)) Bl
theorem Zdt {S:Nat→Prop} {w w':World}:∀ {xs:List Int} {cs:List Value},Q1 tab.ty S w (.int .i64) xs cs→Q1 tab.ty (fun _=>False) w' (.int .i64) xs cs
  | [],cs,h=>h
  | x::r,cs,h=>by
    obtain ⟨c,cr,hc,h1,h2⟩:=h
    exact ⟨c,cr,hc,h1,Zdt h2⟩
theorem Zfd.mv {S:Nat→Prop} {w w':World} {B:Nat} {xs:List Int} {Bl:List Nat} (h:Q1v tab.ty S w Zsi [true] xs (.pointer (some ⟨B,0,none⟩)) Bl) (hk:∀ j∈Bl,w'.heap[j]?=w.heap[j]?):Zfd w' B xs Bl:=by
  obtain ⟨b,T,cs,B',hv,hh,hB,hown⟩:=h
  obtain ⟨c,cr,B1,B2,e1,e2,h1,h2⟩:=hown
  obtain ⟨h0,⟨cells,hr,hc⟩,hb⟩:=h1
  subst hB;subst e2;subst hb
  refine ⟨b,T,cs,_,hv,(hk b (by simp)).trans hh,rfl,c,cr,_,B2,e1,rfl,⟨h0,⟨cells,⟨hr.1,?_⟩,Zdt hc⟩,rfl⟩,h2⟩
  rcases hr.2 with hn | ⟨g,cap,cur,rfl,hg,hh',rest⟩
  · exact .inl hn
  · exact .inr ⟨g,cap,cur,rfl,hg,(hk g (by simp [blk])).trans hh',rest⟩
theorem Zon (c:Nat) (hc:c<128) (W:World):Calls Tryz.prog 174 #[.int .i32 (c:Int)] W fun e W'=>e=.returned (.int .i64 1)∧Fr (fun _=>False) W W':=by
  have hG:Qy6.G ((c:Int),())=some (((1:Int),()),()):=by
    show Quy (c:Int)=_
    unfold Quy
    rw [show decide ((c:Int)<0)=false from decide_eq_false (by omega),show decide ((c:Int)≤127)=true from decide_eq_true (by omega)]
    rfl
  refine (Z4b.2 W (fun _=>False) ((c:Int),()) [.int .i32 (c:Int)] [] (((1:Int),()),()) (fun _ h=>h.elim) ⟨_,_,[],[],rfl,rfl,⟨.inr ⟨rfl,rfl⟩,rfl⟩,rfl,rfl⟩ List.nodup_nil (by simp) hG).mono ?_
  rintro e W' ⟨vs,S',B1,B2,rfl,hr,_,_,_,_,_,hf⟩
  obtain ⟨v,vr,b1,b2,rfl,_,h1,rfl,_⟩:=hr
  obtain ⟨cs,_,hcs,hcs2⟩:=h1
  have:=hcs rfl;subst this
  obtain ⟨c1,cr,_,_,e1,_,h3,_⟩:=hcs2
  have h3:Rep tab.ty S' W' (.int .i64) (1:Int) [c1]∧_=[]:=h3
  obtain ⟨rfl,_⟩:=List.cons.inj e1
  have h4:[v]=[Value.int .i64 1]:=h3.1
  obtain ⟨rfl,_⟩:=List.cons.inj h4
  exact ⟨rfl,hf.mono (fun k hk=>by cases hk)⟩
theorem Zp7 (s:ByteArray) (c:Nat) (h0:s.size≠0) (hs:(s.data.getD 0 0).toNat=c) (hc:c<128) (W:World):Calls Tryz.prog 175 #[.string s] W fun e W'=>e=.returned (.tuple #[.int .i32 (c:Int),.int .i64 1])∧Fr (fun _=>False) W W':=by
  have hG:Qr0.G (s,())=some (((c:Int),(1:Int),()),()):=by
    show Qnq s=_
    unfold Qnq
    have e1:Qeq s (⟨#[]⟩:ByteArray)=false:=by
      rw [← Bool.not_eq_true]
      intro h
      have:s.data.toList=[]:=by simpa [Qeq] using h
      exact h0 (by have:=congrArg List.length this;rw [Array.length_toList] at this;exact this)
    rw [e1,show decide (0<(s.size:Int))=true from decide_eq_true (by omega),hs,show decide ((c:Int)<128)=true from decide_eq_true (by omega)]
    have:IntKind.wrap .i32 (c:Int)=(c:Int):=by
      have h1:(c:Int) % 4294967296=c:=by omega
      rw [IntKind.wrap_i32];omega
    rw [this]
    rfl
  refine (Qv6.2 W (fun _=>False) (s,()) [.string s] [] (((c:Int),(1:Int),()),()) (fun _ h=>h.elim) ⟨_,_,[],[],rfl,rfl,⟨.inr ⟨rfl,rfl⟩,rfl⟩,rfl,rfl⟩ List.nodup_nil (by simp) hG).mono ?_
  rintro e W' ⟨vs,S',B1,B2,rfl,hr,_,_,_,_,_,hf⟩
  obtain ⟨v,vr,b1,b2,rfl,_,h1,v2,vr2,_,_,rfl,_,h2,rfl,_⟩:=hr
  obtain ⟨cs,_,hcs,hcs2⟩:=h1
  have:=hcs rfl;subst this
  obtain ⟨c1,cr,_,_,e1,_,h3,_⟩:=hcs2
  have h3:Rep tab.ty S' W' (.int .i32) (c:Int) [c1]∧_=[]:=h3
  obtain ⟨rfl,_⟩:=List.cons.inj e1
  have h4:[v]=[Value.int .i32 (c:Int)]:=h3.1
  obtain ⟨rfl,_⟩:=List.cons.inj h4
  obtain ⟨cs,_,hcs,hcs2⟩:=h2
  have:=hcs rfl;subst this
  obtain ⟨c1,cr,_,_,e1,_,h3,_⟩:=hcs2
  have h3:Rep tab.ty S' W' (.int .i64) (1:Int) [c1]∧_=[]:=h3
  obtain ⟨rfl,_⟩:=List.cons.inj e1
  have h4:[v2]=[Value.int .i64 1]:=h3.1
  obtain ⟨rfl,_⟩:=List.cons.inj h4
  exact ⟨rfl,hf.mono (fun k hk=>by cases hk)⟩
theorem Zso (x a b:Int) (B:Nat) (xs:List Int) (Bl:List Nat) (W:World) (hB:Zfd W B xs Bl) (hn:Bl.Nodup) (hlt:∀ j∈Bl,j<W.heap.size) (hx:xs.length+1≤1073741824) :
    Calls Tryz.prog 144 #[.int .i64 x,.int .i64 a,.int .i64 b,.pointer (some ⟨B,0,none⟩)] W fun e W'=>e=.returned (.bool true)∧∃ Bl',Zfd W' B (xs++[x]) Bl'∧Bl'.Nodup∧(∀ j∈Bl',j<W'.heap.size∧(W.heap.size≤j∨j∈Bl))∧Fr (fun j=>j∈Bl) W W':=by
  have hG:Z3j.G (x,a,b,xs,())=some ((true,()),(xs++[x],())):=by
    show Qzo x a b xs=_
    unfold Qzo
    rw [show Nat.ble (xs.length+1) 1073741824=true from Q2.2 hx]
    rfl
  refine (Z87.2 W (fun _=>False) (x,a,b,xs,()) [.int .i64 x,.int .i64 a,.int .i64 b,.pointer (some ⟨B,0,none⟩)] Bl ((true,()),(xs++[x],())) (fun _ h=>h.elim)
    ⟨_,_,[],Bl,rfl,rfl,⟨.inr ⟨rfl,rfl⟩,rfl⟩,_,_,[],Bl,rfl,rfl,⟨.inr ⟨rfl,rfl⟩,rfl⟩,_,_,[],Bl,rfl,rfl,⟨.inr ⟨rfl,rfl⟩,rfl⟩,_,_,Bl,[],rfl,(List.append_nil _).symm,hB,rfl,rfl⟩ hn (fun k hk=>⟨fun h=>h,hlt k hk⟩) hG).mono ?_
  rintro e W' ⟨vs,S',B1,B2,rfl,hr,ho,hnd,hbl,_,_,hf⟩
  obtain ⟨v,vr,b1,b2,rfl,_,h1,rfl,_⟩:=hr
  obtain ⟨cs,_,hcs,hcs2⟩:=h1
  have:=hcs rfl;subst this
  obtain ⟨c1,cr,_,_,e1,_,h3,_⟩:=hcs2
  have h3:Rep tab.ty S' W' .bool true [c1]∧_=[]:=h3
  obtain ⟨rfl,_⟩:=List.cons.inj e1
  have h4:[v]=[Value.bool true]:=h3.1
  obtain ⟨rfl,_⟩:=List.cons.inj h4
  obtain ⟨v3,vr3,c1,c2,e3,rfl,hv3,hc2⟩:=ho
  have hc2:c2=[]:=hc2
  subst hc2
  obtain ⟨rfl,_⟩:=List.cons.inj (show [Value.pointer (some ⟨B,0,none⟩)]=v3::vr3 from e3)
  refine ⟨rfl,c1,Zfd.mv hv3 (fun _ _=>rfl),?_,fun j hj=>?_,hf⟩
  · have:=(List.nodup_append.1 hnd).2.1
    simpa using this
  · have:=hbl j (List.mem_append.2 (.inr (List.mem_append.2 (.inl hj))))
    exact this.2
set_option maxHeartbeats 4000000 in
set_option maxRecDepth 1000000 in
theorem Zru (s:ByteArray) (ha:Zid s=true) (hs:s.size≤1073741824) (w:World) (B:Nat) (Bl:List Nat) (hB:Zfd w B [] Bl) (hn:Bl.Nodup) (hlt:∀ j∈Bl,j<w.heap.size) :
    Calls Tryz.prog 143 #[.string s,.func (.func 144) #[] #[.pointer (some ⟨B,0,none⟩)]] w fun e w'=>e=.returned (.tuple #[])∧∃ Bl',Zfd w' B (Qsj s) Bl'∧Bl'.Nodup∧(∀ j∈Bl',j<w'.heap.size∧(w.heap.size≤j∨j∈Bl))∧Fr (fun j=>j∈Bl) w w':=by
  go_enter Tryz.func143,Tryz.ntmps143
  go_wp2
  go_loopw [] (fun wr=>∃ (pos:Nat) (Bl':List Nat),wr.heap[w.heap.size]?=some (.stringIter s pos)∧pos≤s.size∧Zfd wr B ((Qsj s).take pos) Bl'∧Bl'.Nodup∧(∀ j∈Bl',j<wr.heap.size∧(w.heap.size<j∨j∈Bl))∧Fr (fun j=>j∈Bl) w wr) (fun wr=>s.size - wr.iterPos (w.heap.size))
  case atStart=>
    refine ⟨0,Bl,World.iter_heap w s 0,Nat.zero_le _,?_,hn,fun j hj=>⟨?_,.inr hj⟩,?_⟩
    · rw [List.take_zero];exact Zfd.mv hB (fun j hj=>RowKit.Below.heap_alloc w _ j (hlt j hj))
    · have:=hlt j hj;simp [World.iter];omega
    · exact (Fr.alloc _ w _)
  case round=>
    obtain ⟨pos,Bl',hit,hpl,hb,hn',hbl,hf⟩:=hrel
    have hk:w.heap.size<wr.heap.size:=(Array.getElem?_eq_some_iff.1 hit).1
    have hkB:w.heap.size ∉ Bl':=fun h=>by
      rcases (hbl _ h).2 with h | h
      · omega
      · exact absurd (hlt _ h) (by omega)
    by_cases hp:pos<s.size
    · have hnx:∀ ty,(Instr.next (.pointer (some ⟨w.heap.size,0,none⟩)) true ty).run Tryz.prog wr=_:=fun ty=>Lib.run_next_ascii_at wr w.heap.size s pos ty hit hp (Zk6 ha hp)
      generalize hc:(s[pos]'hp).toNat=c at hnx
      have hc128:c<128:=by rw [← hc];exact Zk6 ha hp
      have hit2:=Lib.iterAt_heap wr w.heap.size s pos (pos+1) hit
      go_wp2_with (go_at_call 174;refine (Zon c hc128 _).mono ?_)
      rintro e W1 ⟨rfl,f1⟩
      have hsz:(s.extract pos s.size).size=s.size - pos:=by simp
      have hd0:((s.extract pos s.size).data.getD 0 0).toNat=c:=by
        rw [← hc]
        have e1:(s.extract pos s.size).data[0]?=some (s[pos]'hp):=by
          rw [ByteArray.data_extract,Array.getElem?_extract]
          rw [if_pos (by simp;omega)]
          simp only [Nat.add_zero]
          exact Array.getElem?_eq_getElem hp
        rw [Array.getD_eq_getD_getElem?,e1]
        rfl
      have f0:Fr (fun j=>j∈Bl) w (wr.iterAt w.heap.size s (pos+1)):=hf.trans' (Y:=fun j=>j=w.heap.size) ⟨rfl,rfl,rfl,by rw [Lib.iterAt_size];exact Nat.le_refl _,fun j _ hj=>Lib.iterAt_other _ _ _ _ _ hj⟩ (fun j h1 h2=>absurd h2 (by omega))
      go_wp2_with (go_at_call 175;refine (Zp7 _ c (by rw [hsz];omega) hd0 hc128 _).mono ?_)
      rintro e W2 ⟨rfl,f2⟩
      have hb2:Zfd W2 B ((Qsj s).take pos) Bl':=Zfd.mv hb (fun j hj=>by
        have h1:j<wr.heap.size:=(hbl j hj).1
        have h2:j<(wr.iterAt w.heap.size s (pos+1)).heap.size:=by rw [Lib.iterAt_size];exact h1
        rw [f2.block (Nat.lt_of_lt_of_le h2 f1.size) (fun x=>x),f1.block h2 (fun x=>x)]
        exact Lib.iterAt_other _ _ _ _ _ (fun e=>hkB (by rw [← e];exact hj)))
      have hw2:wr.heap.size≤W2.heap.size:=by
        have:=f1.size;have:=f2.size;rw [Lib.iterAt_size] at *;omega
      have hit3:W2.heap[w.heap.size]?=some (.stringIter s (pos+1)):=by
        have h2:w.heap.size<(wr.iterAt w.heap.size s (pos+1)).heap.size:=by rw [Lib.iterAt_size];exact hk
        rw [f2.block (Nat.lt_of_lt_of_le h2 f1.size) (fun x=>x),f1.block h2 (fun x=>x)]
        exact hit2
      have c65:¬ ((c:Int)=65533):=by omega
      have fn1h:=fun (a b:Int)=>Zso (c:Int) a b B ((Qsj s).take pos) Bl' W2 hb2 hn' (fun j hj=>Nat.lt_of_lt_of_le (hbl j hj).1 hw2) (by rw [List.length_take,Zf8];omega)
      go_wp2_with (go_at_call 144;refine (fn1h _ _).mono ?_)
      rintro e W3 ⟨rfl,Bl3,hb3,hn3,hbl3,f3⟩
      go_wp2
      go_roundw
      case rel=>
        have hk3:W3.heap[w.heap.size]?=some (.stringIter s (pos+1)):=by
          rw [f3.block (by omega) hkB];exact hit3
        refine ⟨pos+1,Bl3,hk3,hp,by rw [Zj9 hp,hc];exact hb3,hn3,fun j hj=>⟨(hbl3 j hj).1,?_⟩,?_⟩
        · rcases (hbl3 j hj).2 with h | h
          · exact .inl (by omega)
          · exact (hbl j h).2
        · refine ((f0.trans' f1 (fun _ _ x=>x.elim)).trans' f2 (fun _ _ x=>x.elim)).trans' f3 (fun j h1 h2=>?_)
          rcases (hbl j h2).2 with h | h
          · omega
          · exact h
      case measure=>
        have hk3:W3.heap[w.heap.size]?=some (.stringIter s (pos+1)):=by
          rw [f3.block (by omega) hkB];exact hit3
        simp only [World.iterPos,hk3,hit]
        omega
    · have hnx:∀ ty,(Instr.next (.pointer (some ⟨w.heap.size,0,none⟩)) true ty).run Tryz.prog wr=_:=fun ty=>Lib.run_next_end_at wr w.heap.size s pos ty hit hp
      go_wp2
      go_end0
      have:pos=s.size:=by omega
      subst this
      rw [List.take_of_length_le (by rw [Zf8];exact Nat.le_refl _)] at hb
      exact ⟨rfl,Bl',hb,hn',fun j hj=>⟨(hbl j hj).1,(hbl j hj).2.imp Nat.le_of_lt id⟩,hf⟩
set_option maxHeartbeats 4000000 in
set_option maxRecDepth 1000000 in
theorem Zo3 (s:ByteArray) (ha:Zid s=true) (hs:s.size≤1073741824) (w:World) :
    Calls Tryz.prog 75 #[.string s] w fun e w'=>∃ v Bl,e=.returned v∧Q13 tab.ty (fun _=>False) w' 3 (.int .i64) (Qsj s) v Bl∧(∀ j∈Bl,j<w'.heap.size∧w.heap.size≤j)∧Fr (fun _=>False) w w':=by
  have hE:=fun W B Bl h1 h2 h3=>Zru s ha hs W B Bl h1 h2 h3
  go_enter Tryz.func75,Tryz.ntmps75
  have hB0:Zfd (w.alloc (.cells #[.slice none 0 0] 28)) w.heap.size [] [w.heap.size]:=
    ⟨w.heap.size,28,#[.slice none 0 0],[],rfl,(by show (w.heap.push _)[w.heap.size]?=_;simp),rfl,.slice none 0 0,[],[],[],rfl,rfl,⟨Nat.zero_lt_one,⟨[],World.ownsRow_nil _ 0 3 1,rfl⟩,rfl⟩,rfl,rfl⟩
  go_wp2_with (go_at_call 143;refine (hE _ _ _ hB0 (by simp) (by simp)).mono ?_)
  rintro e W1 ⟨rfl,Bl1,hb1,hn1,hbl1,f1⟩
  obtain ⟨b,T,cs,B',hv,hh,hB,hown⟩:=hb1
  obtain ⟨c,cr,B1,B2,e1,e2,h1,h2⟩:=hown
  obtain ⟨rfl,rfl⟩:cr=[]∧B2=[]:=h2
  obtain ⟨h0,⟨cells,hr,hc⟩,hb⟩:Q13 tab.ty (fun _=>False) W1 3 (.int .i64) (Qsj s) c B1:=h1
  have hcs:cs=#[c]:=by apply Array.ext';exact e1
  subst hcs
  obtain ⟨rfl⟩:w.heap.size=b:=by injection hv with e;injection e with e;injection e
  have hcell:W1.cell? ⟨w.heap.size,0,none⟩=some c:=by simp [World.cell?,hh]
  have hfro:W1.frozen? ⟨w.heap.size,0,none⟩=false:=by simp [World.frozen?,hh]
  obtain ⟨A,n,cp,rfl⟩:=X1 hr
  subst hB;subst e2;subst hb
  have hne:∀ j∈(blk (Value.slice A n cp)).toList,j≠w.heap.size:=fun j hj e=>by
    have:=(List.nodup_cons.1 hn1).1
    exact this (by rw [← e];simpa using hj)
  have hh2:(W1.setCell ⟨w.heap.size,0,none⟩ (.slice A n cp)).heap[w.heap.size]?=some (.cells #[.slice A n cp] T (0,0)):=by
    obtain ⟨hlt2,hk2⟩:=Array.getElem?_eq_some_iff.1 hh
    show (W1.heap.modify w.heap.size _)[w.heap.size]?=_
    rw [Array.getElem?_eq_getElem (by rw [Array.size_modify];exact hlt2),Array.getElem_modify_self,hk2]
    rfl
  have hcell2:(W1.setCell ⟨w.heap.size,0,none⟩ (.slice A n cp)).cell? ⟨w.heap.size,0,none⟩=some (.slice A n cp):=by simp [World.cell?,hh2]
  go_wp2
  (try simp only [Exit.inBlock,Exit.then])
  refine bodyPost_ret (v:=.slice A n cp) (by simp only [results,show Tryz.f75.results=#[.cell 2 28] from rfl];go_simp) rfl ?_
  refine ⟨_,_,rfl,⟨h0,⟨cells,⟨hr.1,?_⟩,Zdt hc⟩,rfl⟩,fun j hj=>⟨?_,?_⟩,?_⟩
  · rcases hr.2 with hn | ⟨g,cap,cur,e,hg,hh',rest⟩
    · exact .inl hn
    · refine .inr ⟨g,cap,cur,e,hg,?_,rest⟩
      injection e with e _ _
      subst e
      exact (RowKit.Below.heap_setCell W1 _ _ g (hne g (by simp [blk]))).trans hh'
  · have:=(hbl1 j (by simp only [List.mem_cons];exact .inr (by simpa using hj))).1
    simpa using this
  · rcases (hbl1 j (by simp only [List.mem_cons];exact .inr (by simpa using hj))).2 with h | h
    · simp at h;omega
    · simp at h;omega
  · exact ((Fr.alloc (fun _=>False) w _).trans' f1 (fun j h1 h2=>by simp at h2;omega)).trans' (Fr.setCell W1 _ _) (fun j h1 h2=>by simp at h2;omega)
noncomputable def Zee (s_0:ByteArray):Option (((List Int) × Unit) × Unit):=bif Zid s_0&&Nat.ble s_0.size 1073741824 then some ((Qsj s_0,()),()) else none
noncomputable def Zaq:Ent:=⟨[.val t9],[⟨t28,[true],none⟩],fun x=>Zee x.1⟩
theorem Ze9:Q4u tab.ty Tryz.prog 75 Zaq:=by
  refine ⟨⟨_,Tryz.func75,by kernel_rfl,by kernel_rfl⟩,fun w S x vals B r hS ha hn hB hG=>?_⟩
  obtain ⟨s,u⟩:=x
  obtain ⟨v,vr,b1,b2,rfl,rfl,⟨hv,rfl⟩,rfl,rfl⟩:=ha
  have hG:(bif Zid s&&Nat.ble s.size 1073741824 then some ((Qsj s,()),()) else none)=some r:=hG
  cases hq:(Zid s&&Nat.ble s.size 1073741824) with
  | false=>rw [hq] at hG;cases hG
  | true=>
  rw [hq] at hG
  have hG:=Option.some.inj hG
  subst hG
  simp only [Bool.and_eq_true] at hq
  obtain ⟨hq1,hq2⟩:=hq
  have hv2:v=.string s:=by
    rcases hv with ⟨h,_⟩ | ⟨_,h⟩
    · cases h
    · have h:[v]=[Value.string s]:=h
      injection h
  subst hv2
  refine (Zo3 s hq1 (Q2.1 hq2) w).mono ?_
  rintro e w' ⟨v,Bl,rfl,hr,hbl,hf⟩
  obtain ⟨h0,⟨cells,hr,hc⟩,rfl⟩:=hr
  refine ⟨[v],S,(blk v).toList,[],rfl,⟨v,[],(blk v).toList,[],rfl,by simp,⟨[v],(fun h=>by cases h),(fun _=>rfl),v,[],(blk v).toList,[],rfl,by simp,⟨h0,⟨cells,hr,?_⟩,rfl⟩,rfl,rfl⟩,rfl,rfl⟩,rfl,?_,fun k hk=>?_,fun _ h=>h,fun k hk=>⟨Nat.lt_of_lt_of_le (hS k hk) hf.size,.inl hk⟩,hf.mono (fun _ h=>h.elim)⟩
  · exact hc.frame (fun _ h=>h.elim) (Nat.le_refl _) (fun _ _ _=>rfl)
  · cases blk v<;>simp
  · have h1:=hbl k (by simpa using hk)
    exact ⟨fun h=>by have:=hS k h;omega,h1.1,.inl h1.2⟩
end
abbrev Qyk:Type:=(Bool × Unit) × Unit
noncomputable def Zmj:Ctx:=[(75,Zaq)]
def Zej:Fi:=fr [[0,17,0,22,29,0,31],[3,17,0,22,29,0,31],[3,8,9,10,17,0,22,29,0,31],[3,8,0,11,17,0,22,29,0,31],[3,5,8,9,10,17,0,22,29,0,31],[3,8,9,10,17,0,23,29,0,31],[2],[3,8,9,10,17,0,22,29,0,31],[2]]
abbrev Z8q:Type:=Int→Int→List Int→Option Qyk
noncomputable def Zf7 (L1:Z8q) (v2 v3:Int) (v4:List Int):Option Qyk:=
 bif decide (v3<v2) then
  bif decide (0≤v3)&&decide (v3<(v4.length:Int)) then
   bif decide (0≤v3)&&decide (v3<(v4.length:Int)) then
    bif decide (List.getD v4 v3.toNat 0≤32) then
     some ((false,()),())
    else
    bif decide (List.getD v4 v3.toNat 0 ≥ 127) then
     bif decide (List.getD v4 v3.toNat 0≤159) then
      some ((false,()),())
     else
      L1 v2 (IntKind.wrap .i64 (v3+1)) v4
    else
     L1 v2 (IntKind.wrap .i64 (v3+1)) v4
   else none
  else none
 else
 bif decide ((v4.length:Int) ≥ 1) then
  some ((decide ((v4.length:Int)≤8),()),())
 else
  some ((false,()),())
noncomputable def Zgq (L1:Z8q) (s_0:ByteArray):Option Qyk:=
 Option.bind (Zee s_0) fun r1=>
 L1 (r1.1.1.length:Int) 0 r1.1.1
noncomputable def Zek (n:Nat):Nat→Z8q:=iter (fun _ _ _=>none) fun L=>Zf7 L
noncomputable def Z3h (n m:Nat) (v2 v3:Int) (v4:List Int):Option Qyk:=
 Qjv Zmj tab (fiB [.val t9] Zej) n [.val t9] [⟨t4,[false],none⟩] Tryz.f34 [1,1,0,1,0] [] [3,8,9,10] m
 ⟨[(3,V1 (.ref (888888,8))),(8,V1 (.ref (888888,8))),(9,Vp t2 v2),(10,Vp t2 v3)],[((888888,8),Ob.row 3 t2 v4)]⟩
theorem Zd7 (n:Nat):∀ m,Z3h n m=Zek n m
 | 0=>rfl
 | m+1=>by rw [show Z3h n (m+1)=Zf7 (Z3h n m) from by kernel_rfl,Zd7 n m];rfl
noncomputable def Zg5 (n:Nat) (s_0:ByteArray):Option Qyk:=Zgq (Zek n n) s_0
noncomputable def Zl9 (s_0:ByteArray):Option Qyk:=Zg5 1099511627776 s_0
noncomputable def Zln:Ent:=⟨[.val t9],[⟨t4,[false],none⟩],fun x=>Zl9 x.1⟩
theorem Zi6:GD 34 Zln:=fnl Zej (fun n x=>Zg5 n x.1) (Qjy Ze9 Qk3) Tryz.func34 fun n x=>Eq.trans (b:=Zgq (Z3h n n) x.1) (by kernel_rfl) (by rw [Zd7 n n];rfl)
noncomputable def Qnm (s:List Int):Option (((List Int) × Unit) × Unit):=bif Nat.ble s.length 1073741824 then some ((s,()),()) else none
theorem Z9q (s:List Int):Qde [] tab (Qk4 Tryz.f76 []) 1 [.val t28] [⟨t28,[true],none⟩] Tryz.f76 (s,())=bif !(List.isEmpty s) then bif Nat.ble (0+s.length) 1073741824 then some (([]++s,()),()) else none
 else Q3f (some (([],()),())) (bif Nat.ble (0+s.length) 1073741824 then some (([]++s,()),()) else none):=by kernel_rfl
theorem Zbf (s:List Int):Qde [] tab (Qk4 Tryz.f76 []) 1 [.val t28] [⟨t28,[true],none⟩] Tryz.f76 (s,())=Qnm s:=by
  rw [Z9q]
  cases s with
  | nil=>exact Qcu _
  | cons x q=>rw [Nat.zero_add];rfl
noncomputable def Zcn:Ent:=⟨[.val t28],[⟨t28,[true],none⟩],fun x=>Qnm x.1⟩
theorem Qqy:Q4u tab.ty Tryz.prog 76 Zcn:=by
  refine Qjk (Γ:=[]) (fi:=Qk4 Tryz.f76 []) (n:=1) follows Qk3 Zhh Tryz.func76 (by kernel_rfl) (by kernel_rfl) (fun x r h=>?_)
  obtain ⟨s,_u⟩:=x
  exact (Zbf s).trans h
noncomputable def Qnk (s:Qlv):Option ((Qlv × Unit) × Unit):=bif Nat.ble s.length 1073741824 then some ((s,()),()) else none
theorem Z9u (s:Qlv):Qde [] tab (Qk4 Tryz.f77 []) 1 [.val t29] [⟨t29,[true],none⟩] Tryz.f77 (s,())=bif !(List.isEmpty s) then bif Nat.ble (0+s.length) 1073741824 then some (([]++s,()),()) else none
 else Q3f (some (([],()),())) (bif Nat.ble (0+s.length) 1073741824 then some (([]++s,()),()) else none):=by kernel_rfl
theorem Zb7 (s:Qlv):Qde [] tab (Qk4 Tryz.f77 []) 1 [.val t29] [⟨t29,[true],none⟩] Tryz.f77 (s,())=Qnk s:=by
  rw [Z9u]
  cases s with
  | nil=>exact Qcu _
  | cons x q=>rw [Nat.zero_add];rfl
noncomputable def Zby:Ent:=⟨[.val t29],[⟨t29,[true],none⟩],fun x=>Qnk x.1⟩
theorem Qqm:Q4u tab.ty Tryz.prog 77 Zby:=by
  refine Qjk (Γ:=[]) (fi:=Qk4 Tryz.f77 []) (n:=1) follows Qk3 Zhh Tryz.func77 (by kernel_rfl) (by kernel_rfl) (fun x r h=>?_)
  obtain ⟨s,_u⟩:=x
  exact (Zb7 s).trans h
noncomputable def Qkk (s:Qkj):Option ((Qkj × Unit) × Unit):=bif Nat.ble s.length 1073741824 then some ((s,()),()) else none
theorem Z8v (s:Qkj):Qde [] tab (Qk4 Tryz.f78 []) 1 [.val t32] [⟨t32,[true],none⟩] Tryz.f78 (s,())=bif !(List.isEmpty s) then bif Nat.ble (0+s.length) 1073741824 then some (([]++s,()),()) else none
 else Q3f (some (([],()),())) (bif Nat.ble (0+s.length) 1073741824 then some (([]++s,()),()) else none):=by kernel_rfl
theorem Za6 (s:Qkj):Qde [] tab (Qk4 Tryz.f78 []) 1 [.val t32] [⟨t32,[true],none⟩] Tryz.f78 (s,())=Qkk s:=by
  rw [Z8v]
  cases s with
  | nil=>exact Qcu _
  | cons x q=>rw [Nat.zero_add];rfl
noncomputable def Zb5:Ent:=⟨[.val t32],[⟨t32,[true],none⟩],fun x=>Qkk x.1⟩
theorem Qmo:Q4u tab.ty Tryz.prog 78 Zb5:=by
  refine Qjk (Γ:=[]) (fi:=Qk4 Tryz.f78 []) (n:=1) follows Qk3 Zhh Tryz.func78 (by kernel_rfl) (by kernel_rfl) (fun x r h=>?_)
  obtain ⟨s,_u⟩:=x
  exact (Za6 s).trans h
noncomputable def Ql9 (s:Qnj):Option ((Qnj × Unit) × Unit):=bif Nat.ble s.length 1073741824 then some ((s,()),()) else none
theorem Z7l (s:Qnj):Qde [] tab (Qk4 Tryz.f79 []) 1 [.val t33] [⟨t33,[true],none⟩] Tryz.f79 (s,())=bif !(List.isEmpty s) then bif Nat.ble (0+s.length) 1073741824 then some (([]++s,()),()) else none
 else Q3f (some (([],()),())) (bif Nat.ble (0+s.length) 1073741824 then some (([]++s,()),()) else none):=by kernel_rfl
theorem Z7x (s:Qnj):Qde [] tab (Qk4 Tryz.f79 []) 1 [.val t33] [⟨t33,[true],none⟩] Tryz.f79 (s,())=Ql9 s:=by
  rw [Z7l]
  cases s with
  | nil=>exact Qcu _
  | cons x q=>rw [Nat.zero_add];rfl
noncomputable def Z9o:Ent:=⟨[.val t33],[⟨t33,[true],none⟩],fun x=>Ql9 x.1⟩
theorem Qm5:Q4u tab.ty Tryz.prog 79 Z9o:=by
  refine Qjk (Γ:=[]) (fi:=Qk4 Tryz.f79 []) (n:=1) follows Qk3 Zhh Tryz.func79 (by kernel_rfl) (by kernel_rfl) (fun x r h=>?_)
  obtain ⟨s,_u⟩:=x
  exact (Z7x s).trans h
noncomputable def Qs1 (n_0:Zen):Option ((Zen × Unit) × Unit):=
 Option.bind (Qnm (g6 (g3 n_0))) fun r1=>
 Option.bind (Qnk (h12 (g3 n_0))) fun r2=>
 Option.bind (Qkk (g4 n_0).2.2.1) fun r3=>
 Option.bind (Qkk (g3 (g4 n_0))) fun r4=>
 Option.bind (Ql9 (g4 (g4 n_0))) fun r5=>
 some (((u4 (u3 n_0 (e12 (u6 (g3 n_0) r1.1.1) r2.1.1)) (u4 (u3 (u2 (g4 n_0) r3.1.1) r4.1.1) r5.1.1)),()),())
noncomputable def Zm8:Ent:=⟨[.val t38],[⟨t38,(nF 24),none⟩],fun x=>Qs1 x.1⟩
theorem Qyp:GD 35 Zm8:=fnk 1 (fo [[1,2],[1,2],[1,2],[2]]) (Qjy Qqy (Qjy Qqm (Qjy Qmo (Qjy Qm5 Qk3)))) Tryz.func35
noncomputable def Zph (id_0 inc_1 now_2 grand_3:Int):Option ((Qvr × Unit) × Unit):=
 bif id_0==1 then
  some (((id_0,inc_1,now_2,0,0,grand_3,[1],0,now_2,0,0,0,[]),()),())
 else
  some (((id_0,inc_1,now_2,0,0,grand_3,[],0,0,0,0,0,[]),()),())
noncomputable def Zp5:Ent:=⟨[.val t2,.val t2,.val t2,.val t2],[⟨t30,(nF 6++[true,false,false,false,false,false,true]),none⟩],fun x=>Zph x.1 x.2.1 x.2.2.1 x.2.2.2.1⟩
theorem Zki:GD 36 Zp5:=fnk 1 (fo [[0,1,2,3,8],[0,2,8,9],[2,8,9,16],[8,9],[8]]) Qk3 Tryz.func36
noncomputable def Zgs (n_0:Zen) (id_1:Int) (name_2:ByteArray) (grand_3:Int):Option ((Zen × Bool × Unit) × Unit):=
 bif n_0.1 then
  Option.bind (Qs1 n_0) fun r1=>
  some ((r1.1.1,false,()),())
 else
  Option.bind (Zl9 name_2) fun r2=>
  bif !r2.1.1 then
   Option.bind (Qs1 n_0) fun r3=>
   some ((r3.1.1,false,()),())
  else
  bif decide (id_1<1) then
   Option.bind (Qs1 n_0) fun r4=>
   some ((r4.1.1,false,()),())
  else
  bif decide (id_1>8) then
   Option.bind (Qs1 n_0) fun r5=>
   some ((r5.1.1,false,()),())
  else
  bif decide (n_0.2.1 ≥ 1073741824) then
   Option.bind (Qs1 n_0) fun r6=>
   some ((r6.1.1,false,()),())
  else
   Option.bind (Zph id_1 (IntKind.wrap .i64 (n_0.2.1+1)) 0 grand_3) fun r7=>
   some (((true,IntKind.wrap .i64 (n_0.2.1+1),name_2,r7.1.1,(0,0,[],[],[],0,0),0),true,()),())
noncomputable def Zm7:Ent:=⟨[.val t38,.val t2,.val t9,.val t2],[⟨t38,(nF 24),none⟩,⟨t4,[false],none⟩],fun x=>Zgs x.1 x.2.1 x.2.2.1 x.2.2.2.1⟩
theorem Zi3:GD 13 Zm7:=fnk 1 (fr [[1,0,4,8,14,0,16,19,20,23,24,27,0,29],[1,0,4,8,30],[8,9],[1,2,3,8,10],[8,9]]) (Qjy Zi6 (Qjy Qyp (Qjy Zki Qk3))) Tryz.func13
noncomputable def Qqs (f_0:Qxo):Option ((Qxo × Unit) × Unit):=
 Option.bind (Qkk f_0.2.2.1) fun r1=>
 Option.bind (Qkk (g3 f_0)) fun r2=>
 Option.bind (Ql9 (g4 f_0)) fun r3=>
 some (((u4 (u3 (u2 f_0 r1.1.1) r2.1.1) r3.1.1),()),())
noncomputable def Zml:Ent:=⟨[.val t36],[⟨t36,[false,false,true,true,true,false,false],none⟩],fun x=>Qqs x.1⟩
theorem Qvb:GD 116 Zml:=fnk 1 (fo [[1,2],[1,2],[2]]) (Qjy Qmo (Qjy Qm5 Qk3)) Tryz.func116
noncomputable def Z9b (l_0:Qnj) (seq_1:Int) (text_2:ByteArray):Option ((Qnj × Unit) × Unit):=
 Option.bind (Ql9 l_0) fun r1=>
 bif Nat.ble (r1.1.1.length+1) 1073741824 then
  some ((r1.1.1++[(1,seq_1,seq_1,text_2,0)],()),())
 else none
noncomputable def Ziw:Ent:=⟨[.val t33,.val t2,.val t9],[⟨t33,[true],none⟩],fun x=>Z9b x.1 x.2.1 x.2.2.1⟩
theorem Zdc:GD 121 Ziw:=fnk 1 (fo [[0,1,2],[6]]) (Qjy Qm5 Qk3) Tryz.func121
noncomputable def Z63 (r1:(Qkj × Unit) × Unit) (i_1:Qzl):Option ((Qkj × Unit) × Unit):=
 bif Nat.ble (r1.1.1.length+1) 1073741824 then
  bif (decide (0≤(if 0>IntKind.wrap .i64 (((r1.1.1++[i_1]).length:Int) - 6) then 0 else IntKind.wrap .i64 (((r1.1.1++[i_1]).length:Int) - 6)))&&decide ((if 0>IntKind.wrap .i64 (((r1.1.1++[i_1]).length:Int) - 6) then 0 else IntKind.wrap .i64 (((r1.1.1++[i_1]).length:Int) - 6))≤((r1.1.1++[i_1]).length:Int)))&&decide (((r1.1.1++[i_1]).length:Int)≤((r1.1.1++[i_1]).length:Int)) then
   Option.bind (Qkk (List.drop ((if 0>IntKind.wrap .i64 (((r1.1.1++[i_1]).length:Int) - 6) then 0 else IntKind.wrap .i64 (((r1.1.1++[i_1]).length:Int) - 6)).toNat) (List.take (((r1.1.1++[i_1]).length:Int).toNat) (r1.1.1++[i_1])))) fun r2=>
   some ((r2.1.1,()),())
  else none
 else none
noncomputable def Z9h (l_0:Qkj) (i_1:Qzl):Option ((Qkj × Unit) × Unit):=
 Option.bind (Qkk l_0) fun r1=>
 bif decide ((l_0.length:Int)>0) then
  bif decide (0≤IntKind.wrap .i64 ((l_0.length:Int) - 1))&&decide (IntKind.wrap .i64 ((l_0.length:Int) - 1)<(l_0.length:Int)) then
   bif decide (i_1.1≤(List.getD l_0 ((IntKind.wrap .i64 ((l_0.length:Int) - 1)).toNat) (0,(⟨#[]⟩:ByteArray))).1) then
    some ((r1.1.1,()),())
   else
    Z63 r1 i_1
  else none
 else
  Z63 r1 i_1
noncomputable def Zio:Ent:=⟨[.val t32,.val t58],[⟨t32,[true],none⟩],fun x=>Z9h x.1 x.2.1⟩
theorem Zde:GD 122 Zio:=fnk 1 (fr [[0,3,12,0,21],[0,3,5,12,0,21],[3,5,22],[4],[5],[4]]) (Qjy Qmo Qk3) Tryz.func122
noncomputable def Znk (f_0:Qxo) (text_1:ByteArray):Option ((Qxo × Bool × Unit) × Unit):=
 Option.bind (Qqs f_0) fun r1=>
 bif decide ((text_1.size:Int)>12) then
  some ((r1.1.1,false,()),())
 else
 bif decide ((if 1>r1.1.1.1 then 1 else r1.1.1.1)>1000000) then
  some ((r1.1.1,false,()),())
 else
  Option.bind (Z9b (g4 r1.1.1) (if 1>r1.1.1.1 then 1 else r1.1.1.1) text_1) fun r2=>
  Option.bind (Z9h r1.1.1.2.2.1 (if 1>r1.1.1.1 then 1 else r1.1.1.1,text_1)) fun r3=>
  some (((u4 (u2 (u1 (u0 r1.1.1 (IntKind.wrap .i64 ((if 1>r1.1.1.1 then 1 else r1.1.1.1)+1))) (if 1>r1.1.1.1 then 1 else r1.1.1.1)) r3.1.1) r2.1.1),true,()),())
noncomputable def Zns:Ent:=⟨[.val t36,.val t9],[⟨t36,(nF 7),none⟩,⟨t4,[false],none⟩],fun x=>Znk x.1 x.2.1⟩
theorem Zj3:GD 59 Zns:=fnk 1 (fo [[1,2,4,16,17],[1,2,4,16,17],[1,2,4,6,16,17],[1,2,4,6,18],[4,5],[2,4,6],[2,4],[4,5]]) (Qjy Qvb (Qjy Zdc (Qjy Zde Qk3))) Tryz.func59
noncomputable def Z98 (f_0 old_1:Qxo):Option ((Qnj × Unit) × Unit):=
 bif (decide (0≤(if ((g4 f_0).length:Int)<((g4 old_1).length:Int) then ((g4 f_0).length:Int) else ((g4 old_1).length:Int)))&&decide ((if ((g4 f_0).length:Int)<((g4 old_1).length:Int) then ((g4 f_0).length:Int) else ((g4 old_1).length:Int))≤((g4 f_0).length:Int)))&&decide (((g4 f_0).length:Int)≤((g4 f_0).length:Int)) then
  Option.bind (Ql9 (List.drop ((if ((g4 f_0).length:Int)<((g4 old_1).length:Int) then ((g4 f_0).length:Int) else ((g4 old_1).length:Int)).toNat) (List.take (((g4 f_0).length:Int).toNat) (g4 f_0)))) fun r1=>
  some ((r1.1.1,()),())
 else none
noncomputable def Zf0:Ent:=⟨[.val t36,.val t36],[⟨t33,[true],none⟩],fun x=>Z98 x.1 x.2.1⟩
theorem Zg8:GD 104 Zf0:=fnk 1 (fo [[2,3],[4]]) (Qjy Qm5 Qk3) Tryz.func104
noncomputable def Qua (n_0:Zen) (kind_1 to_2 lo_3 hi_4:Int) (s_5:ByteArray):Option ((Qwl × Unit) × Unit):=
 some (((kind_1,(g3 n_0).1,to_2,(g3 n_0).2.1,0,0,[],lo_3,hi_4,s_5),()),())
noncomputable def Z93:Ent:=⟨[.val t38,.val t2,.val t2,.val t2,.val t2,.val t9],[⟨t45,(nF 6++[true,false,false,false]),none⟩],fun x=>Qua x.1 x.2.1 x.2.2.1 x.2.2.2.1 x.2.2.2.2.1 x.2.2.2.2.2.1⟩
theorem Z7n:GD 58 Z93:=fnk 1 (fr [[1,0,6,12],[12]]) Qk3 Tryz.func58
abbrev Qr7:Type:=(Qzk × Unit) × Unit
noncomputable def Zgi:Ctx:=[(58,Z93),(104,Zf0)]
def Z7z:Fi:={ keep:=[],vty:=[(4,48)],vals:=[],live:=[(0,[2,3,4]),(1,[2,4,12,13,14]),(2,[2,4,12,13,14,15]),(3,[2,4,6,12,13,14]),(4,[2,4,6,12,13,14,20,21,22]),(5,[2,4,6,12,13,14,20,21,22,23]),(6,[2,4,6,8,12,13,14,20,21,22]),(7,[2,4,6,8,12,13,14,20,21,22,28]),(8,[2,4,6,12,13,14,20,21,22]),(9,[2,4,6,12,13,14,20,21,22]),(10,[2,4,6,12,13,14,20,21,22]),(11,[2,4,12,13,14]),(12,[4])] }
abbrev Z3o:Type:=Int→Int→Bool→Int→ByteArray→Int→Int→Int→Int→Int→Int→List Int→Int→Int→Int→Int→Int→Qlv→Int→Int→Qkj→Qkj→Qnj→Int→Int→Int→Qzk→Qnj→Option Qr7
abbrev Z37:Type:=Int→Int→Qlv→Int→Int→Bool→Int→ByteArray→Int→Int→Int→Int→Int→Int→List Int→Int→Int→Int→Int→Int→Qlv→Int→Int→Qkj→Qkj→Qnj→Int→Int→Int→Qzk→Int→Int→Int→ByteArray→Int→Qnj→Option Qr7
noncomputable def Z8s (v59:Qzk) (L2:Z37) (v30 v31:Int) (v32:Qlv) (v33 v34:Int) (v35:Bool) (v36:Int) (v37:ByteArray) (v38 v39 v40 v41 v42 v43:Int) (v44:List Int) (v45 v46 v47 v48 v49:Int) (v50:Qlv) (v51 v52:Int) (v53 v54:Qkj) (v55:Qnj) (v56 v57 v58:Int) (r66:(Qwl × Unit) × Unit) (v60 v61 v62:Int) (v63:ByteArray) (v64:Int) (v65:Qnj):Option Qr7:=
 bif Nat.ble (v59.length+1) 1073741824 then
  L2 v30 v31 v32 v33 (IntKind.wrap .i64 (v34+1)) v35 v36 v37 v38 v39 v40 v41 v42 v43 v44 v45 v46 v47 v48 v49 v50 v51 v52 v53 v54 v55 v56 v57 v58 (v59++[r66.1.1]) v60 v61 v62 v63 v64 v65
 else none
noncomputable def Qwk (L2:Z37) (v2 v3:Int) (v4:Bool) (v5:Int) (v6:ByteArray) (v7 v8 v9 v10 v11 v12:Int) (v13:List Int) (v14 v15 v16 v17 v18:Int) (v19:Qlv) (v20 v21:Int) (v22 v23:Qkj) (v24:Qnj) (v25 v26 v27:Int) (v28:Qzk) (v29:Qnj):Option Qr7:=
 bif decide (v3<v2) then
  bif decide (0≤v3)&&decide (v3<(v29.length:Int)) then
   bif decide (0≤v3)&&decide (v3<(v29.length:Int)) then
    L2 v2 v3 v19 (v19.length:Int) 0 v4 v5 v6 v7 v8 v9 v10 v11 v12 v13 v14 v15 v16 v17 v18 v19 v20 v21 v22 v23 v24 v25 v26 v27 v28 ((List.getD v29 v3.toNat Zm2).1) (((List.getD v29 v3.toNat Zm2).2).1) ((((List.getD v29 v3.toNat Zm2).2).2).1) (((((List.getD v29 v3.toNat Zm2).2).2).2).1) (((((List.getD v29 v3.toNat Zm2).2).2).2).2) v29
   else none
  else none
 else
  some ((v28,()),())
noncomputable def Qw6 (L2:Z37) (L1:Z3o) (v30 v31:Int) (v32:Qlv) (v33 v34:Int) (v35:Bool) (v36:Int) (v37:ByteArray) (v38 v39 v40 v41 v42 v43:Int) (v44:List Int) (v45 v46 v47 v48 v49:Int) (v50:Qlv) (v51 v52:Int) (v53 v54:Qkj) (v55:Qnj) (v56 v57 v58:Int) (v59:Qzk) (v60 v61 v62:Int) (v63:ByteArray) (v64:Int) (v65:Qnj):Option Qr7:=
 bif decide (v34<v33) then
  bif decide (0≤v34)&&decide (v34<(v32.length:Int)) then
   bif v60==1 then
    Option.bind (Qua (v35,v36,v37,(v38,v39,v40,v41,v42,v43,v44,v45,v46,v47,v48,v49,v50),(v51,v52,v53,v54,v55,v56,v57),v58) 7 ((List.getD v32 v34.toNat (0,0,0)).1) v61 0 v63) fun r66=>
    Z8s v59 L2 v30 v31 v32 v33 v34 v35 v36 v37 v38 v39 v40 v41 v42 v43 v44 v45 v46 v47 v48 v49 v50 v51 v52 v53 v54 v55 v56 v57 v58 r66 v60 v61 v62 v63 v64 v65
   else
    Option.bind (Qua (v35,v36,v37,(v38,v39,v40,v41,v42,v43,v44,v45,v46,v47,v48,v49,v50),(v51,v52,v53,v54,v55,v56,v57),v58) 9 ((List.getD v32 v34.toNat (0,0,0)).1) v61 v62 (⟨#[]⟩:ByteArray)) fun r67=>
    Z8s v59 L2 v30 v31 v32 v33 v34 v35 v36 v37 v38 v39 v40 v41 v42 v43 v44 v45 v46 v47 v48 v49 v50 v51 v52 v53 v54 v55 v56 v57 v58 r67 v60 v61 v62 v63 v64 v65
  else none
 else
  L1 v30 (IntKind.wrap .i64 (v31+1)) v35 v36 v37 v38 v39 v40 v41 v42 v43 v44 v45 v46 v47 v48 v49 v50 v51 v52 v53 v54 v55 v56 v57 v58 v59 v65
noncomputable def Z5u (L1:Z3o) (n_0:Zen) (old_1:Qxo):Option Qr7:=
 Option.bind (Z98 (g4 n_0) old_1) fun r1=>
 L1 (r1.1.1.length:Int) 0 n_0.1 n_0.2.1 n_0.2.2.1 (g3 n_0).1 (g3 n_0).2.1 (g3 n_0).2.2.1 (g3 (g3 n_0)) (g4 (g3 n_0)) (g5 (g3 n_0)) (g6 (g3 n_0)) (g7 (g3 n_0)) (g8 (g3 n_0)) (g9 (g3 n_0)) (g10 (g3 n_0)) (g11 (g3 n_0)) (h12 (g3 n_0)) (g4 n_0).1 (g4 n_0).2.1 (g4 n_0).2.2.1 (g3 (g4 n_0)) (g4 (g4 n_0)) (g5 (g4 n_0)) (h6 (g4 n_0)) (h5 n_0) [] r1.1.1
noncomputable def Qts (n:Nat) (m1:Nat) (r1:Z3o):Nat→Z37:=iter (fun _ _ _ _ _ _ _ _ _ _ _ _ _ _ _ _ _ _ _ _ _ _ _ _ _ _ _ _ _ _ _ _ _ _ _ _=>none) fun L=>Qw6 L r1
noncomputable def Qtz (n:Nat):Nat→Z3o:=Qjg (fun _ _ _ _ _ _ _ _ _ _ _ _ _ _ _ _ _ _ _ _ _ _ _ _ _ _ _ _=>none) fun m L=>Qwk (Qts n m L n)
noncomputable def Qz1 (n m:Nat) (v2 v3:Int) (v4:Bool) (v5:Int) (v6:ByteArray) (v7 v8 v9 v10 v11 v12:Int) (v13:List Int) (v14 v15 v16 v17 v18:Int) (v19:Qlv) (v20 v21:Int) (v22 v23:Qkj) (v24:Qnj) (v25 v26 v27:Int) (v28:Qzk) (v29:Qnj):Option Qr7:=
 Qjv Zgi tab (fiB [.val t38,.val t36] Z7z) n [.val t38,.val t36] [⟨t48,[true],none⟩] Tryz.f49 [1,0,1,0] [] [2,4,12,13,14] m
 ⟨[(2,V1 (.ptr (2,0) 0)),(4,V1 (.ref (888888,4))),(12,V1 (.ref (888888,12))),(13,Vp t2 v2),(14,Vp t2 v3)],[((2,0),Ob.box 39 [LV.pure t4 v4,LV.pure t2 v5,LV.pure t9 v6,LV.pure t2 v7,LV.pure t2 v8,LV.pure t2 v9,LV.pure t2 v10,LV.pure t2 v11,LV.pure t2 v12,LV.pure t28 v13,LV.pure t2 v14,LV.pure t2 v15,LV.pure t2 v16,LV.pure t2 v17,LV.pure t2 v18,LV.pure t29 v19,LV.pure t2 v20,LV.pure t2 v21,LV.pure t32 v22,LV.pure t32 v23,LV.pure t33 v24,LV.pure t2 v25,LV.pure t2 v26,LV.pure t2 v27]),((888888,4),Ob.row 46 t45 v28),((888888,12),Ob.row 55 t54 v29)]⟩
noncomputable def Z3g (n m1 m:Nat) (v30 v31:Int) (v32:Qlv) (v33 v34:Int) (v35:Bool) (v36:Int) (v37:ByteArray) (v38 v39 v40 v41 v42 v43:Int) (v44:List Int) (v45 v46 v47 v48 v49:Int) (v50:Qlv) (v51 v52:Int) (v53 v54:Qkj) (v55:Qnj) (v56 v57 v58:Int) (v59:Qzk) (v60 v61 v62:Int) (v63:ByteArray) (v64:Int) (v65:Qnj):Option Qr7:=
 Qjv Zgi tab (fiB [.val t38,.val t36] Z7z) n [.val t38,.val t36] [⟨t48,[true],none⟩] Tryz.f49 [1,0,1,0,0,1,1,0,0,1,1,0] [(m1,[2,4,12,13,14])] [2,4,6,12,13,14,20,21,22] m
 ⟨[(2,V1 (.ptr (2,0) 0)),(4,V1 (.ref (888888,4))),(6,V1 (.ptr (6,0) 0)),(12,V1 (.ref (888888,12))),(13,Vp t2 v30),(14,Vp t2 v31),(20,Vp t29 v32),(21,Vp t2 v33),(22,Vp t2 v34)],[((2,0),Ob.box 39 [LV.pure t4 v35,LV.pure t2 v36,LV.pure t9 v37,LV.pure t2 v38,LV.pure t2 v39,LV.pure t2 v40,LV.pure t2 v41,LV.pure t2 v42,LV.pure t2 v43,LV.pure t28 v44,LV.pure t2 v45,LV.pure t2 v46,LV.pure t2 v47,LV.pure t2 v48,LV.pure t2 v49,LV.pure t29 v50,LV.pure t2 v51,LV.pure t2 v52,LV.pure t32 v53,LV.pure t32 v54,LV.pure t33 v55,LV.pure t2 v56,LV.pure t2 v57,LV.pure t2 v58]),((888888,4),Ob.row 46 t45 v59),((6,0),Ob.box 55 [LV.pure t2 v60,LV.pure t2 v61,LV.pure t2 v62,LV.pure t9 v63,LV.pure t2 v64]),((888888,12),Ob.row 55 t54 v65)]⟩
theorem Zbo (n m1:Nat):∀ m,Z3g n m1 m=Qts n m1 (Qz1 n m1) m
 | 0=>rfl
 | m+1=>by rw [show Z3g n m1 (m+1)=Qw6 (Z3g n m1 m) (Qz1 n m1) from by kernel_rfl,Zbo n m1 m];rfl
theorem Zcg (n:Nat):∀ m,Qz1 n m=Qtz n m
 | 0=>rfl
 | m+1=>by rw [show Qz1 n (m+1)=Qwk (Z3g n m n) from by kernel_rfl,Zbo n m n,Zcg n m];rfl
noncomputable def Zh8 (n:Nat) (n_0:Zen) (old_1:Qxo):Option Qr7:=Z5u (Qtz n n) n_0 old_1
noncomputable def Z8k (n_0:Zen) (old_1:Qxo):Option Qr7:=Zh8 1099511627776 n_0 old_1
noncomputable def Zlu:Ent:=⟨[.val t38,.val t36],[⟨t48,[true],none⟩],fun x=>Z8k x.1 x.2.1⟩
theorem Zaj:GD 49 Zlu:=fnl Z7z (fun n x=>Zh8 n x.1 x.2.1) (Qjy Z7n (Qjy Zg8 Qk3)) Tryz.func49 fun n x=>Eq.trans (b:=Z5u (Qz1 n n) x.1 x.2.1) (by kernel_rfl) (by rw [Zcg n n];rfl)
noncomputable def Zmx (n_0:Zen) (s_1:ByteArray):Option ((Zen × Qzk × Bool × Unit) × Unit):=
 Option.bind (Qs1 n_0) fun r1=>
 bif !n_0.1 then
  some ((r1.1.1,[],false,()),())
 else
 bif (g3 n_0).1 != 1 then
  some ((r1.1.1,[],false,()),())
 else
  Option.bind (Znk (g4 n_0) s_1) fun r2=>
  bif !r2.1.2.1 then
   some ((r1.1.1,[],false,()),())
  else
   Option.bind (Z8k (u4 r1.1.1 r2.1.1) (g4 n_0)) fun r3=>
   some (((u4 r1.1.1 r2.1.1),r3.1.1,true,()),())
noncomputable def Znt:Ent:=⟨[.val t38,.val t9],[⟨t38,(nF 24),none⟩,⟨t48,[true],none⟩,⟨t4,[false],none⟩],fun x=>Zmx x.1 x.2.1⟩
theorem Zjh:GD 23 Znt:=fnk 1 (fr [[1,2,4,16,0,19],[1,2,4,7,16,0,19],[1,2,4,7,20],[4,5,6],[2,4,7,8,9],[2,4,7,8,30],[4,5,6],[2,4,7],[4,5,6]]) (Qjy Qyp (Qjy Zaj (Qjy Zj3 Qk3))) Tryz.func23
abbrev Qyd:Type:=(Int × Int × IV × Unit) × Unit
noncomputable def Zls:Ctx:=[]
def Zf3:Fi:=fr [[0,2,3,11,12,33,34,37,38],[0,2,3,11,0,13,33,34,37,38],[0,2,3,5,11,12,33,34,37,38],[0,2,3,5,11,12,33,34,37,38],[0,2,3,5,11,12,33,34,37,38],[0,2,3,5,11,12,29,33,34,37,38],[2,3,39],[2,3,4],[2,3,4]]
abbrev Z8u:Type:=List Int→Int→Int→Option Qyd
noncomputable def Z3p (L1:Z8u) (v1:List Int) (v2 v3:Int):Option Qyd:=
 bif decide (v3<(v1.length:Int)) then
  bif decide (v3<5) then
   bif decide (0≤v3)&&decide (v3<(v1.length:Int)) then
    bif decide (0≤IntKind.wrap .i64 (7*v3)) then
     bif decide (List.getD v1 v3.toNat 0 ≥ 128) then
      L1 v1 (IntKind.wrap .i64 ((BitVec.ofInt 64 v2 ||| BitVec.ofInt 64 (IntKind.wrap .i64 ((IntKind.wrap .i64 (IntKind.wrap .u8 ((BitVec.ofInt 8 (List.getD v1 v3.toNat 0) &&& BitVec.ofInt 8 127).toNat)))*2 ^ (min ((IntKind.wrap .i64 (7*v3)).toNat) 64)))).toNat)) (IntKind.wrap .i64 (v3+1))
     else
     bif decide (IntKind.wrap .i64 (v3+1)>1) then
      bif (List.getD v1 v3.toNat 0)==0 then
       some ((0,0,IV.mk 216 [],()),())
      else
      bif decide (IntKind.wrap .i64 ((BitVec.ofInt 64 v2 ||| BitVec.ofInt 64 (IntKind.wrap .i64 ((IntKind.wrap .i64 (IntKind.wrap .u8 ((BitVec.ofInt 8 (List.getD v1 v3.toNat 0) &&& BitVec.ofInt 8 127).toNat)))*2 ^ (min ((IntKind.wrap .i64 (7*v3)).toNat) 64)))).toNat)>1073741824) then
       some ((0,0,IV.mk 216 [],()),())
      else
       some ((IntKind.wrap .i64 ((BitVec.ofInt 64 v2 ||| BitVec.ofInt 64 (IntKind.wrap .i64 ((IntKind.wrap .i64 (IntKind.wrap .u8 ((BitVec.ofInt 8 (List.getD v1 v3.toNat 0) &&& BitVec.ofInt 8 127).toNat)))*2 ^ (min ((IntKind.wrap .i64 (7*v3)).toNat) 64)))).toNat),IntKind.wrap .i64 (v3+1),IV.nil,()),())
     else
     bif decide (IntKind.wrap .i64 ((BitVec.ofInt 64 v2 ||| BitVec.ofInt 64 (IntKind.wrap .i64 ((IntKind.wrap .i64 (IntKind.wrap .u8 ((BitVec.ofInt 8 (List.getD v1 v3.toNat 0) &&& BitVec.ofInt 8 127).toNat)))*2 ^ (min ((IntKind.wrap .i64 (7*v3)).toNat) 64)))).toNat)>1073741824) then
      some ((0,0,IV.mk 216 [],()),())
     else
      some ((IntKind.wrap .i64 ((BitVec.ofInt 64 v2 ||| BitVec.ofInt 64 (IntKind.wrap .i64 ((IntKind.wrap .i64 (IntKind.wrap .u8 ((BitVec.ofInt 8 (List.getD v1 v3.toNat 0) &&& BitVec.ofInt 8 127).toNat)))*2 ^ (min ((IntKind.wrap .i64 (7*v3)).toNat) 64)))).toNat),IntKind.wrap .i64 (v3+1),IV.nil,()),())
    else none
   else none
  else
   some ((0,0,IV.mk 216 [],()),())
 else
  some ((0,0,IV.mk 216 [],()),())
noncomputable def Zha (L1:Z8u) (b_0:List Int):Option Qyd:=
 L1 b_0 0 0
noncomputable def Z3l (n:Nat):Nat→Z8u:=iter (fun _ _ _=>none) fun L=>Z3p L
noncomputable def Z3y (n m:Nat) (v1:List Int) (v2 v3:Int):Option Qyd:=
 Qjv Zls tab (fiB [.val t25] Zf3) n [.val t25] [⟨t2,[false],none⟩,⟨t2,[false],none⟩,⟨t20,[false],none⟩] Tryz.f197 [1,0,0] [] [0,2,3] m
 ⟨[(0,Vp t25 v1),(2,Vp t2 v2),(3,Vp t2 v3)],[]⟩
theorem Zc9 (n:Nat):∀ m,Z3y n m=Z3l n m
 | 0=>rfl
 | m+1=>by rw [show Z3y n (m+1)=Z3p (Z3y n m) from by kernel_rfl,Zc9 n m];rfl
noncomputable def Zh5 (n:Nat) (b_0:List Int):Option Qyd:=Zha (Z3l n n) b_0
noncomputable def Zgx (b_0:List Int):Option Qyd:=Zh5 1099511627776 b_0
noncomputable def Zmp:Ent:=⟨[.val t25],[⟨t2,[false],none⟩,⟨t2,[false],none⟩,⟨t20,[false],none⟩],fun x=>Zgx x.1⟩
theorem Zhw:GD 197 Zmp:=fnl Zf3 (fun n x=>Zh5 n x.1) Qk3 Tryz.func197 fun n x=>Eq.trans (b:=Zha (Z3y n n) x.1) (by kernel_rfl) (by rw [Zc9 n n];rfl)
noncomputable def Z8h (b_0:List Int):Option ((Int × Int × Bool × Unit) × Unit):=
 Option.bind (Zgx b_0) fun r1=>
 some ((r1.1.1,r1.1.2.1,!(IV.is r1.1.2.2.1 216),()),())
noncomputable def Zm4:Ent:=⟨[.val t25],[⟨t2,[false],none⟩,⟨t2,[false],none⟩,⟨t4,[false],none⟩],fun x=>Z8h x.1⟩
theorem Zat:GD 176 Zm4:=fnk 1 (fo [[0],[2,3,5],[2,3,7],[2,3,4]]) (Qjy Zhw Qk3) Tryz.func176
noncomputable def Qka (r_0:Zfi) (what_1:ByteArray):Option ((Int × Unit) × (Zfi × Unit)):=
 bif !(IV.isNil r_0.2) then
  some ((0,()),(r_0,()))
 else
  Option.bind (Z8h r_0.1) fun r1=>
  bif !r1.1.2.2.1 then
   bif (decide (0≤r1.1.2.1)&&decide (r1.1.2.1≤(r_0.1.length:Int)))&&decide ((r_0.1.length:Int)≤(r_0.1.length:Int)) then
    some ((r1.1.1,()),((List.drop r1.1.2.1.toNat (List.take ((r_0.1.length:Int).toNat) r_0.1),IV.mk 134 [.str what_1]),()))
   else none
  else
  bif (decide (0≤r1.1.2.1)&&decide (r1.1.2.1≤(r_0.1.length:Int)))&&decide ((r_0.1.length:Int)≤(r_0.1.length:Int)) then
   some ((r1.1.1,()),((List.drop r1.1.2.1.toNat (List.take ((r_0.1.length:Int).toNat) r_0.1),r_0.2),()))
  else none
noncomputable def Z6w:Ent:=⟨[.box 131 Zqd [false,false],.val t9],[⟨t2,[false],none⟩],fun x=>Qka x.1 x.2.1⟩
theorem Zbh:GD 146 Z6w:=fnk 1 (fo [[0,1],[0,1,12],[0,4],[0,1,5,6,7],[0,1,5,6,23],[0,5,6],[0,5],[0,4]]) (Qjy Zat Qk3) Tryz.func146
noncomputable def Z5w (b_0:List Int):Option ((ByteArray × Int × Bool × Unit) × Unit):=
 Option.bind (Z8h b_0) fun r1=>
 bif !r1.1.2.2.1 then
  some (((⟨#[]⟩:ByteArray),0,false,()),())
 else
 bif decide (r1.1.1>IntKind.wrap .i64 ((b_0.length:Int) - r1.1.2.1)) then
  some (((⟨#[]⟩:ByteArray),0,false,()),())
 else
 bif (decide (0≤r1.1.2.1)&&decide (r1.1.2.1≤IntKind.wrap .i64 (r1.1.2.1+r1.1.1)))&&decide (IntKind.wrap .i64 (r1.1.2.1+r1.1.1)≤(b_0.length:Int)) then
  some ((Q5g (List.drop r1.1.2.1.toNat (List.take ((IntKind.wrap .i64 (r1.1.2.1+r1.1.1)).toNat) b_0)),IntKind.wrap .i64 (r1.1.2.1+r1.1.1),true,()),())
 else none
noncomputable def Zg9:Ent:=⟨[.val t25],[⟨t9,[false],none⟩,⟨t2,[false],none⟩,⟨t4,[false],none⟩],fun x=>Z5w x.1⟩
theorem Zcp:GD 177 Zg9:=fnk 1 (fr [[0,15,0,20],[0,3,4,5,15,0,20],[0,3,5,21],[2,3,4],[2,3,4]]) (Qjy Zat Qk3) Tryz.func177
noncomputable def Qmt (r_0:Zfi) (what_1:ByteArray):Option (Zqz × (Zfi × Unit)):=
 bif !(IV.isNil r_0.2) then
  some (((⟨#[]⟩:ByteArray),()),(r_0,()))
 else
  Option.bind (Z5w r_0.1) fun r1=>
  bif !r1.1.2.2.1 then
   bif (decide (0≤r1.1.2.1)&&decide (r1.1.2.1≤(r_0.1.length:Int)))&&decide ((r_0.1.length:Int)≤(r_0.1.length:Int)) then
    some ((r1.1.1,()),((List.drop r1.1.2.1.toNat (List.take ((r_0.1.length:Int).toNat) r_0.1),IV.mk 134 [.str what_1]),()))
   else none
  else
  bif (decide (0≤r1.1.2.1)&&decide (r1.1.2.1≤(r_0.1.length:Int)))&&decide ((r_0.1.length:Int)≤(r_0.1.length:Int)) then
   some ((r1.1.1,()),((List.drop r1.1.2.1.toNat (List.take ((r_0.1.length:Int).toNat) r_0.1),r_0.2),()))
  else none
noncomputable def Z4m:Ent:=⟨[.box 131 Zqd [false,false],.val t9],[⟨t9,[false],none⟩],fun x=>Qmt x.1 x.2.1⟩
theorem Za7:GD 147 Z4m:=fnk 1 (fo [[0,1],[0,1,12],[0,4],[0,1,5,6,7],[0,1,5,6,23],[0,5,6],[0,5],[0,4]]) (Qjy Zcp Qk3) Tryz.func147
abbrev Qlf:Type:=(Qwl × Unit) × (Zfi × Unit)
noncomputable def Qzn:Ctx:=[(146,Z6w),(147,Z4m)]
def Qub:Fi:=fr [[0,2,34,0,38],[0,2,34,0,38],[0,2,34,0,38],[0,2,3,34,0,38],[0,2,3,25,34,0,38],[0,2,3,34,0,38],[0,2,3,34,0,39],[0,2,3,34,0,38],[0,2,3,34,0,38],[0,2],[0,2],[0,2]]
abbrev Qpr:Type:=Int→List Int→IV→Int→Int→Int→Int→Int→Int→Int→Int→ByteArray→List Int→Option Qlf
abbrev Z4p:Type:=Int→Bool→List Int→IV→Int→Int→Int→Int→Int→Int→Int→Int→ByteArray→List Int→Option Qlf
noncomputable def Qpq (L1:Qpr) (v8:Int) (v9:List Int) (v10:IV) (v11 v12 v13 v14 v15 v16 v17 v18:Int) (v19:ByteArray) (v20:List Int):Option Qlf:=
 bif decide (v8>0) then
  bif IV.isNil v10 then
   Option.bind (Qka (v9,v10) (⟨#[115,116,101,112]⟩:ByteArray)) fun r21=>
   bif Nat.ble (v20.length+1) 1073741824 then
    L1 (IntKind.wrap .i64 (v8 - 1)) r21.2.1.1 r21.2.1.2 v11 v12 v13 v14 v15 v16 v17 v18 v19 (v20++[r21.1.1])
   else none
  else
   Option.bind (Qka (v9,v10) (⟨#[108,111]⟩:ByteArray)) fun r22=>
   Option.bind (Qka r22.2.1 (⟨#[104,105]⟩:ByteArray)) fun r23=>
   Option.bind (Qmt r23.2.1 (⟨#[116,101,120,116]⟩:ByteArray)) fun r24=>
   some (((v11,v12,v13,v14,v15,v16,v20,r22.1.1,r23.1.1,r24.1.1),()),(r24.2.1,()))
 else
  Option.bind (Qka (v9,v10) (⟨#[108,111]⟩:ByteArray)) fun r25=>
  Option.bind (Qka r25.2.1 (⟨#[104,105]⟩:ByteArray)) fun r26=>
  Option.bind (Qmt r26.2.1 (⟨#[116,101,120,116]⟩:ByteArray)) fun r27=>
  some (((v11,v12,v13,v14,v15,v16,v20,r25.1.1,r26.1.1,r27.1.1),()),(r27.2.1,()))
noncomputable def Z5h (L3:Qpr) (v28:Int) (v29:Bool) (v30:List Int) (v31:IV) (v32 v33 v34 v35 v36 v37 v38 v39:Int) (v40:ByteArray) (v41:List Int):Option Qlf:=
 bif decide (v28>0) then
  bif IV.isNil v31 then
   Option.bind (Qka (v30,v31) (⟨#[115,116,101,112]⟩:ByteArray)) fun r42=>
   bif Nat.ble (v41.length+1) 1073741824 then
    L3 (IntKind.wrap .i64 (v28 - 1)) r42.2.1.1 r42.2.1.2 v32 v33 v34 v35 v36 v37 v38 v39 v40 (v41++[r42.1.1])
   else none
  else
   Option.bind (Qka (v30,v31) (⟨#[108,111]⟩:ByteArray)) fun r63=>
   Option.bind (Qka r63.2.1 (⟨#[104,105]⟩:ByteArray)) fun r64=>
   Option.bind (Qmt r64.2.1 (⟨#[116,101,120,116]⟩:ByteArray)) fun r65=>
   some (((v32,v33,v34,v35,v36,v37,v41,r63.1.1,r64.1.1,r65.1.1),()),(r65.2.1,()))
 else
  Option.bind (Qka (v30,v31) (⟨#[108,111]⟩:ByteArray)) fun r66=>
  Option.bind (Qka r66.2.1 (⟨#[104,105]⟩:ByteArray)) fun r67=>
  Option.bind (Qmt r67.2.1 (⟨#[116,101,120,116]⟩:ByteArray)) fun r68=>
  some (((v32,v33,v34,v35,v36,v37,v41,r66.1.1,r67.1.1,r68.1.1),()),(r68.2.1,()))
noncomputable def Z5s (L3:Qpr) (v43:Int) (v44:List Int) (v45:IV) (v46 v47 v48 v49 v50 v51 v52 v53:Int) (v54:ByteArray) (v55:List Int):Option Qlf:=
 bif decide (v43>0) then
  bif IV.isNil v45 then
   Option.bind (Qka (v44,v45) (⟨#[115,116,101,112]⟩:ByteArray)) fun r56=>
   bif Nat.ble (v55.length+1) 1073741824 then
    L3 (IntKind.wrap .i64 (v43 - 1)) r56.2.1.1 r56.2.1.2 v46 v47 v48 v49 v50 v51 v52 v53 v54 (v55++[r56.1.1])
   else none
  else
   Option.bind (Qka (v44,v45) (⟨#[108,111]⟩:ByteArray)) fun r57=>
   Option.bind (Qka r57.2.1 (⟨#[104,105]⟩:ByteArray)) fun r58=>
   Option.bind (Qmt r58.2.1 (⟨#[116,101,120,116]⟩:ByteArray)) fun r59=>
   some (((v46,v47,v48,v49,v50,v51,v55,r57.1.1,r58.1.1,r59.1.1),()),(r59.2.1,()))
 else
  Option.bind (Qka (v44,v45) (⟨#[108,111]⟩:ByteArray)) fun r60=>
  Option.bind (Qka r60.2.1 (⟨#[104,105]⟩:ByteArray)) fun r61=>
  Option.bind (Qmt r61.2.1 (⟨#[116,101,120,116]⟩:ByteArray)) fun r62=>
  some (((v46,v47,v48,v49,v50,v51,v55,r60.1.1,r61.1.1,r62.1.1),()),(r62.2.1,()))
noncomputable def Qvn (L1:Qpr) (L2:Z4p) (r_0:Zfi):Option Qlf:=
 Option.bind (Qka r_0 (⟨#[107,105,110,100]⟩:ByteArray)) fun r1=>
 Option.bind (Qka r1.2.1 (⟨#[102,114,111,109]⟩:ByteArray)) fun r2=>
 Option.bind (Qka r2.2.1 (⟨#[116,111]⟩:ByteArray)) fun r3=>
 Option.bind (Qka r3.2.1 (⟨#[105,110,99]⟩:ByteArray)) fun r4=>
 Option.bind (Qka r4.2.1 (⟨#[101,112,111,99,104]⟩:ByteArray)) fun r5=>
 Option.bind (Qka r5.2.1 (⟨#[97,103,101]⟩:ByteArray)) fun r6=>
 Option.bind (Qka r6.2.1 (⟨#[119,97,121]⟩:ByteArray)) fun r7=>
 bif decide (r7.1.1>64) then
  L1 r7.1.1 r7.2.1.1 (IV.mk 134 [.str (⟨#[119,97,121]⟩:ByteArray)]) r1.1.1 r2.1.1 r3.1.1 r4.1.1 r5.1.1 r6.1.1 0 0 (⟨#[]⟩:ByteArray) []
 else
  L2 r7.1.1 (decide (r7.1.1>64)) r7.2.1.1 r7.2.1.2 r1.1.1 r2.1.1 r3.1.1 r4.1.1 r5.1.1 r6.1.1 0 0 (⟨#[]⟩:ByteArray) []
noncomputable def Qny (n:Nat):Nat→Qpr:=iter (fun _ _ _ _ _ _ _ _ _ _ _ _ _=>none) fun L=>Qpq L
noncomputable def Z50 (n:Nat):Nat→Qpr:=iter (fun _ _ _ _ _ _ _ _ _ _ _ _ _=>none) fun L=>Z5s L
noncomputable def Que (n:Nat):Nat→Z4p:=Qjg (fun _ _ _ _ _ _ _ _ _ _ _ _ _ _=>none) fun m L=>Z5h (Z50 n m)
noncomputable def Qu9 (n m:Nat) (v8:Int) (v9:List Int) (v10:IV) (v11 v12 v13 v14 v15 v16 v17 v18:Int) (v19:ByteArray) (v20:List Int):Option Qlf:=
 Qjv Qzn tab (fiB [.box 131 Zqd [false,false]] Qub) n [.box 131 Zqd [false,false]] [⟨t45,(nF 6++[true,false,false,false]),none⟩] Tryz.f86 [1,1,1,1,1,0,0] [] [0,2,3] m
 ⟨[(0,V1 (.ptr (0,0) 0)),(2,V1 (.ptr (2,0) 0)),(3,Vp t2 v8)],[((0,0),Ob.box 131 [LV.pure t25 v9,LV.pure t20 v10]),((2,0),Ob.box 46 [LV.pure t2 v11,LV.pure t2 v12,LV.pure t2 v13,LV.pure t2 v14,LV.pure t2 v15,LV.pure t2 v16,LV.ref (2,7),LV.pure t2 v17,LV.pure t2 v18,LV.pure t9 v19]),((2,7),Ob.row 3 t2 v20)]⟩
noncomputable def Qyg (n m:Nat) (v28:Int) (v29:Bool) (v30:List Int) (v31:IV) (v32 v33 v34 v35 v36 v37 v38 v39:Int) (v40:ByteArray) (v41:List Int):Option Qlf:=
 Qjv Qzn tab (fiB [.box 131 Zqd [false,false]] Qub) n [.box 131 Zqd [false,false]] [⟨t45,(nF 6++[true,false,false,false]),none⟩] Tryz.f86 [1,1,1,1,1,0,0] [] [0,2,3,25] m
 ⟨[(0,V1 (.ptr (0,0) 0)),(2,V1 (.ptr (2,0) 0)),(3,Vp t2 v28),(25,Vp t4 v29)],[((0,0),Ob.box 131 [LV.pure t25 v30,LV.pure t20 v31]),((2,0),Ob.box 46 [LV.pure t2 v32,LV.pure t2 v33,LV.pure t2 v34,LV.pure t2 v35,LV.pure t2 v36,LV.pure t2 v37,LV.ref (2,7),LV.pure t2 v38,LV.pure t2 v39,LV.pure t9 v40]),((2,7),Ob.row 3 t2 v41)]⟩
noncomputable def Quf (n m:Nat) (v43:Int) (v44:List Int) (v45:IV) (v46 v47 v48 v49 v50 v51 v52 v53:Int) (v54:ByteArray) (v55:List Int):Option Qlf:=
 Qjv Qzn tab (fiB [.box 131 Zqd [false,false]] Qub) n [.box 131 Zqd [false,false]] [⟨t45,(nF 6++[true,false,false,false]),none⟩] Tryz.f86 [1,1,1,1,1,0,0] [] [0,2,3,25] m
 ⟨[(0,V1 (.ptr (0,0) 0)),(2,V1 (.ptr (2,0) 0)),(3,Vp t2 v43)],[((0,0),Ob.box 131 [LV.pure t25 v44,LV.pure t20 v45]),((2,0),Ob.box 46 [LV.pure t2 v46,LV.pure t2 v47,LV.pure t2 v48,LV.pure t2 v49,LV.pure t2 v50,LV.pure t2 v51,LV.ref (2,7),LV.pure t2 v52,LV.pure t2 v53,LV.pure t9 v54]),((2,7),Ob.row 3 t2 v55)]⟩
theorem Z40 (n:Nat):∀ m,Qu9 n m=Qny n m
 | 0=>rfl
 | m+1=>by rw [show Qu9 n (m+1)=Qpq (Qu9 n m) from by kernel_rfl,Z40 n m];rfl
theorem Z2r (n:Nat):∀ m,Quf n m=Z50 n m
 | 0=>rfl
 | m+1=>by rw [show Quf n (m+1)=Z5s (Quf n m) from by kernel_rfl,Z2r n m];rfl
theorem Zcj (n:Nat):∀ m,Qyg n m=Que n m
 | 0=>rfl
 | m+1=>by rw [show Qyg n (m+1)=Z5h (Quf n m) from by kernel_rfl,Z2r n m];rfl
noncomputable def Z6z (n:Nat) (r_0:Zfi):Option Qlf:=Qvn (Qny n n) (Que n n) r_0
noncomputable def Z4a (r_0:Zfi):Option Qlf:=Z6z 1099511627776 r_0
noncomputable def Z6t:Ent:=⟨[.box 131 Zqd [false,false]],[⟨t45,(nF 6++[true,false,false,false]),none⟩],fun x=>Z4a x.1⟩
theorem Zav:GD 86 Z6t:=fnl Qub (fun n x=>Z6z n x.1) (Qjy Zbh (Qjy Za7 Qk3)) Tryz.func86 fun n x=>Eq.trans (b:=Qvn (Qu9 n n) (Qyg n n) x.1) (by kernel_rfl) (by rw [Z40 n n,Zcj n n];rfl)
abbrev Qmm:Type:=(Int × Unit) × Unit
noncomputable def Z7h:Ctx:=[]
def Qxk:Fi:=fo [[0,1],[0,1,7,8],[0,1,7,8,9],[0,1,5,7,8],[0,1,5,7,8,16],[4],[0,1,7,8],[4]]
abbrev Qsu:Type:=List Int→(Int × Unit→Option (Bool × Unit))→Int→Int→Option Qmm
noncomputable def Qmb (L1:Qsu) (v1:List Int) (v2:(Int × Unit→Option (Bool × Unit))) (v3 v4:Int):Option Qmm:=
 bif decide (v4<v3) then
  bif decide (0≤v4)&&decide (v4<(v1.length:Int)) then
   Option.bind (v2 (List.getD v1 v4.toNat 0,())) fun r5=>
   bif r5.1 then
    some ((v4,()),())
   else
    L1 v1 v2 v3 (IntKind.wrap .i64 (v4+1))
  else none
 else
  some (((-1),()),())
noncomputable def Qxv (L1:Qsu) (s_0:List Int) (f_1:(Int × Unit→Option (Bool × Unit))):Option Qmm:=
 L1 s_0 f_1 (s_0.length:Int) 0
noncomputable def Qld (n:Nat):Nat→Qsu:=iter (fun _ _ _ _=>none) fun L=>Qmb L
noncomputable def Qpl (n m:Nat) (v1:List Int) (v2:(Int × Unit→Option (Bool × Unit))) (v3 v4:Int):Option Qmm:=
 Qjv Z7h tab (fiB [.val t28,.fn [t2] [t4]] Qxk) n [.val t28,.fn [t2] [t4]] [⟨t2,[false],none⟩] Tryz.f208 [1,0,1,0] [] [0,1,7,8] m
 ⟨[(0,Vp t28 v1),(1,V1 (.clo [t2] [t4] v2)),(7,Vp t2 v3),(8,Vp t2 v4)],[]⟩
theorem Qwe (n:Nat):∀ m,Qpl n m=Qld n m
 | 0=>rfl
 | m+1=>by rw [show Qpl n (m+1)=Qmb (Qpl n m) from by kernel_rfl,Qwe n m];rfl
noncomputable def Qxz (n:Nat) (s_0:List Int) (f_1:(Int × Unit→Option (Bool × Unit))):Option Qmm:=Qxv (Qld n n) s_0 f_1
noncomputable def Qv5 (s_0:List Int) (f_1:(Int × Unit→Option (Bool × Unit))):Option Qmm:=Qxz 1099511627776 s_0 f_1
noncomputable def Z7j:Ent:=⟨[.val t28,.fn [t2] [t4]],[⟨t2,[false],none⟩],fun x=>Qv5 x.1 x.2.1⟩
theorem Z4h:GD 208 Z7j:=fnl Qxk (fun n x=>Qxz n x.1 x.2.1) Qk3 Tryz.func208 fun n x=>Eq.trans (b:=Qxv (Qpl n n) x.1 x.2.1) (by kernel_rfl) (by rw [Qwe n n];rfl)
noncomputable def Qpc (s_0:List Int) (f_1:(Int × Unit→Option (Bool × Unit))):Option ((Bool × Unit) × Unit):=
 Option.bind (Qv5 s_0 f_1) fun r1=>
 some ((decide (r1.1.1 ≥ 0),()),())
noncomputable def Z47:Ent:=⟨[.val t28,.fn [t2] [t4]],[⟨t4,[false],none⟩],fun x=>Qpc x.1 x.2.1⟩
theorem Z0y:GD 198 Z47:=fnk 1 (fo [[0,1],[4]]) (Qjy Z4h Qk3) Tryz.func198
noncomputable def Z81 (v_0 x_1 x_2:Int):Option ((Bool × Unit) × Unit):=
 bif decide (v_0<x_1) then
  some ((true,()),())
 else
  some ((decide (v_0>x_2),()),())
noncomputable def Zht:Ent:=⟨[.val t2,.rbox t2,.rbox t2],[⟨t4,[false],none⟩],fun x=>Z81 x.1 x.2.1 x.2.2.1⟩
theorem Zds:GD 199 Zht:=fnk 1 (fr [[0,1,2,9,0,11],[4]]) Qk3 Tryz.func199
noncomputable def Qp1 (lo_0 hi_1:Int) (l_2:List Int):Option ((Bool × Unit) × Unit):=
 Option.bind (Qpc l_2 (fun x=>(Z81 x.1 lo_0 hi_1).bind fun r=>some (r.1.1,()))) fun r1=>
 some ((!r1.1.1,()),())
noncomputable def Zo0:Ent:=⟨[.val t2,.val t2,.val t28],[⟨t4,[false],none⟩],fun x=>Qp1 x.1 x.2.1 x.2.2.1⟩
theorem Zc3:GD 178 Zo0:=fnk 1 (fo [[2,3,4],[6]]) (Qjy Z0y (Qjy Zds Qk3)) Tryz.func178
noncomputable def Zjm (m_0:Qwl):Option ((Qwl × Unit) × Unit):=
 some (((m_0.1,m_0.2.1,m_0.2.2.1,m_0.2.2.2.1,0,0,[],0,0,(⟨#[]⟩:ByteArray)),()),())
noncomputable def Zoh:Ent:=⟨[.val t45],[⟨t45,(nF 6++[true,false,false,false]),none⟩],fun x=>Zjm x.1⟩
theorem Zjd:GD 200 Zoh:=fnk 1 (fo [[1,2],[2]]) Qk3 Tryz.func200
abbrev Qov:Type:=(Int × Unit) × Unit
noncomputable def Zct:Ctx:=[]
def Z2b:Fi:=fo [[0,1],[0,1,7,8],[0,1,7,8,9],[0,1,5,7,8],[0,1,5,7,8,16],[4],[0,1,7,8],[4]]
abbrev Qvv:Type:=List Int→Int→Int→Int→Option Qov
noncomputable def Qnu (L1:Qvv) (v1:List Int) (v2 v3 v4:Int):Option Qov:=
 bif decide (v4<v3) then
  bif decide (0≤v4)&&decide (v4<(v1.length:Int)) then
   bif v2==(List.getD v1 v4.toNat 0) then
    some ((v4,()),())
   else
    L1 v1 v2 v3 (IntKind.wrap .i64 (v4+1))
  else none
 else
  some (((-1),()),())
noncomputable def Z3v (L1:Qvv) (s_0:List Int) (v_1:Int):Option Qov:=
 L1 s_0 v_1 (s_0.length:Int) 0
noncomputable def Qmw (n:Nat):Nat→Qvv:=iter (fun _ _ _ _=>none) fun L=>Qnu L
noncomputable def Qsl (n m:Nat) (v1:List Int) (v2 v3 v4:Int):Option Qov:=
 Qjv Zct tab (fiB [.val t28,.val t2] Z2b) n [.val t28,.val t2] [⟨t2,[false],none⟩] Tryz.f210 [1,0,1,0] [] [0,1,7,8] m
 ⟨[(0,Vp t28 v1),(1,Vp t2 v2),(7,Vp t2 v3),(8,Vp t2 v4)],[]⟩
theorem Z03 (n:Nat):∀ m,Qsl n m=Qmw n m
 | 0=>rfl
 | m+1=>by rw [show Qsl n (m+1)=Qnu (Qsl n m) from by kernel_rfl,Z03 n m];rfl
noncomputable def Z3x (n:Nat) (s_0:List Int) (v_1:Int):Option Qov:=Z3v (Qmw n n) s_0 v_1
noncomputable def Qzr (s_0:List Int) (v_1:Int):Option Qov:=Z3x 1099511627776 s_0 v_1
noncomputable def Zbz:Ent:=⟨[.val t28,.val t2],[⟨t2,[false],none⟩],fun x=>Qzr x.1 x.2.1⟩
theorem Z89:GD 210 Zbz:=fnl Z2b (fun n x=>Z3x n x.1 x.2.1) Qk3 Tryz.func210 fun n x=>Eq.trans (b:=Z3v (Qsl n n) x.1 x.2.1) (by kernel_rfl) (by rw [Z03 n n];rfl)
noncomputable def Qq7 (s_0:List Int) (v_1:Int):Option ((Bool × Unit) × Unit):=
 Option.bind (Qzr s_0 v_1) fun r1=>
 some ((decide (r1.1.1 ≥ 0),()),())
noncomputable def Qzi:Ent:=⟨[.val t28,.val t2],[⟨t4,[false],none⟩],fun x=>Qq7 x.1 x.2.1⟩
theorem Qw8:GD 202 Qzi:=fnk 1 (fo [[0,1],[4]]) (Qjy Z89 Qk3) Tryz.func202
abbrev Qyj:Type:=(IV × Unit) × Unit
noncomputable def Zm6:Ctx:=[(202,Qzi)]
def Zf9:Fi:=fr [[0,9,0,11,14,0,17,31,32,35,0,39],[0,18,31,32,35,0,39],[2],[0,21,0,23,31,32,35,0,39],[0,21,0,24,31,32,35,0,39],[0,3,4,21,0,23,31,32,35,0,39],[0,3,21,0,23,31,32,35,0,40],[2],[0,21,0,23,31,32,35,0,39],[2]]
abbrev Z8g:Type:=List Int→List Int→Int→Int→Option Qyj
noncomputable def Qwi (L1:Z8g) (v1 v2:List Int) (v3 v4:Int):Option Qyj:=
 bif decide (v4<v3) then
  bif decide (0≤v4)&&decide (v4<(v2.length:Int)) then
   bif decide (List.getD v2 v4.toNat 0<1) then
    some ((IV.mk 222 [.int .i64 v4],()),())
   else
   bif decide (List.getD v2 v4.toNat 0>8) then
    some ((IV.mk 222 [.int .i64 v4],()),())
   else
   bif decide (0≤v4)&&decide (v4≤(v1.length:Int)) then
    Option.bind (Qq7 (List.drop 0 (List.take v4.toNat v1)) (List.getD v2 v4.toNat 0)) fun r5=>
    bif r5.1.1 then
     some ((IV.mk 222 [.int .i64 v4],()),())
    else
     L1 v1 v2 v3 (IntKind.wrap .i64 (v4+1))
   else none
  else none
 else
  some ((IV.nil,()),())
noncomputable def Z6j (L1:Z8g) (p_0:List Int):Option Qyj:=
 bif decide ((p_0.length:Int)<1) then
  some ((IV.mk 222 [.int .i64 0],()),())
 else
 bif decide ((p_0.length:Int)>10) then
  some ((IV.mk 222 [.int .i64 0],()),())
 else
 bif decide (0<(p_0.length:Int)) then
  bif (List.getD p_0 0 0) != 1 then
   some ((IV.mk 222 [.int .i64 0],()),())
  else
   L1 p_0 p_0 (p_0.length:Int) 0
 else none
noncomputable def Qs4 (n:Nat):Nat→Z8g:=iter (fun _ _ _ _=>none) fun L=>Qwi L
noncomputable def Z3d (n m:Nat) (v1 v2:List Int) (v3 v4:Int):Option Qyj:=
 Qjv Zm6 tab (fiB [.val t28] Zf9) n [.val t28] [⟨t20,[false],none⟩] Tryz.f204 [1,1,0,1,0] [] [0,21,22,23] m
 ⟨[(0,Vp t28 v1),(21,Vp t28 v2),(22,Vp t2 v3),(23,Vp t2 v4)],[]⟩
theorem Zdb (n:Nat):∀ m,Z3d n m=Qs4 n m
 | 0=>rfl
 | m+1=>by rw [show Z3d n (m+1)=Qwi (Z3d n m) from by kernel_rfl,Zdb n m];rfl
noncomputable def Zhj (n:Nat) (p_0:List Int):Option Qyj:=Z6j (Qs4 n n) p_0
noncomputable def Zfx (p_0:List Int):Option Qyj:=Zhj 1099511627776 p_0
noncomputable def Zly:Ent:=⟨[.val t28],[⟨t20,[false],none⟩],fun x=>Zfx x.1⟩
theorem Zi5:GD 204 Zly:=fnl Zf9 (fun n x=>Zhj n x.1) (Qjy Qw8 Qk3) Tryz.func204 fun n x=>Eq.trans (b:=Z6j (Z3d n n) x.1) (by kernel_rfl) (by rw [Zdb n n];rfl)
noncomputable def Z0v (p_0:List Int):Option ((Bool × Unit) × Unit):=
 Option.bind (Zfx p_0) fun r1=>
 some ((!(IV.is r1.1.1 222),()),())
noncomputable def Zom:Ent:=⟨[.val t28],[⟨t4,[false],none⟩],fun x=>Z0v x.1⟩
theorem Zbv:GD 183 Zom:=fnk 1 (fo [[0],[4],[2]]) (Qjy Zi5 Qk3) Tryz.func183
abbrev Qog:Type:=(Bool × Unit) × Unit
noncomputable def Zd4:Ctx:=[]
def Z1b:Fi:=fr [[0,1],[0,1,10],[4],[0,1,12,13],[0,1,12,0,14],[0,1,5,12,13],[0,1,12,13,24],[4],[0,1,12,13],[4]]
abbrev Qvx:Type:=List Int→List Int→Int→Int→Option Qog
noncomputable def Qnr (L1:Qvx) (v1 v2:List Int) (v3 v4:Int):Option Qog:=
 bif decide (v4<v3) then
  bif decide (0≤v4)&&decide (v4<(v1.length:Int)) then
   bif decide (0≤v4)&&decide (v4<(v2.length:Int)) then
    bif (List.getD v1 v4.toNat 0) != (List.getD v2 v4.toNat 0) then
     some ((false,()),())
    else
     L1 v1 v2 v3 (IntKind.wrap .i64 (v4+1))
   else none
  else none
 else
  some ((true,()),())
noncomputable def Qtg (L1:Qvx) (s1_0 s2_1:List Int):Option Qog:=
 bif (s1_0.length:Int) != (s2_1.length:Int) then
  some ((false,()),())
 else
  L1 s1_0 s2_1 (s1_0.length:Int) 0
noncomputable def Qnz (n:Nat):Nat→Qvx:=iter (fun _ _ _ _=>none) fun L=>Qnr L
noncomputable def Qsk (n m:Nat) (v1 v2:List Int) (v3 v4:Int):Option Qog:=
 Qjv Zd4 tab (fiB [.val t28,.val t28] Z1b) n [.val t28,.val t28] [⟨t4,[false],none⟩] Tryz.f209 [1,1,0,1,0] [] [0,1,12,13] m
 ⟨[(0,Vp t28 v1),(1,Vp t28 v2),(12,Vp t2 v3),(13,Vp t2 v4)],[]⟩
theorem Z0r (n:Nat):∀ m,Qsk n m=Qnz n m
 | 0=>rfl
 | m+1=>by rw [show Qsk n (m+1)=Qnr (Qsk n m) from by kernel_rfl,Z0r n m];rfl
noncomputable def Z3t (n:Nat) (s1_0 s2_1:List Int):Option Qog:=Qtg (Qnz n n) s1_0 s2_1
noncomputable def Qzp (s1_0 s2_1:List Int):Option Qog:=Z3t 1099511627776 s1_0 s2_1
noncomputable def Zc7:Ent:=⟨[.val t28,.val t28],[⟨t4,[false],none⟩],fun x=>Qzp x.1 x.2.1⟩
theorem Z7m:GD 209 Zc7:=fnl Z1b (fun n x=>Z3t n x.1 x.2.1) Qk3 Tryz.func209 fun n x=>Eq.trans (b:=Qtg (Qsk n n) x.1 x.2.1) (by kernel_rfl) (by rw [Z0r n n];rfl)
noncomputable def Qqb (a_0 b_1:Qwl):Option ((Bool × Unit) × Unit):=
 bif a_0.1==b_1.1 then
  bif a_0.2.1==b_1.2.1 then
   bif a_0.2.2.1==b_1.2.2.1 then
    bif a_0.2.2.2.1==b_1.2.2.2.1 then
     bif a_0.2.2.2.2.1==b_1.2.2.2.2.1 then
      bif a_0.2.2.2.2.2.1==b_1.2.2.2.2.2.1 then
       Option.bind (Qzp a_0.2.2.2.2.2.2.1 b_1.2.2.2.2.2.2.1) fun r1=>
       bif r1.1.1 then
        bif a_0.2.2.2.2.2.2.2.1==b_1.2.2.2.2.2.2.2.1 then
         bif a_0.2.2.2.2.2.2.2.2.1==b_1.2.2.2.2.2.2.2.2.1 then
          some ((Qeq a_0.2.2.2.2.2.2.2.2.2 b_1.2.2.2.2.2.2.2.2.2,()),())
         else
          some ((false,()),())
        else
         some ((false,()),())
       else
        some ((false,()),())
      else
       some ((false,()),())
     else
      some ((false,()),())
    else
     some ((false,()),())
   else
    some ((false,()),())
  else
   some ((false,()),())
 else
  some ((false,()),())
noncomputable def Zo1:Ent:=⟨[.val t45,.val t45],[⟨t4,[false],none⟩],fun x=>Qqb x.1 x.2.1⟩
theorem Zju:GD 201 Zo1:=fnk 1 (fr [[2,3,11,0,15,18,0,22,25,0,29,32,0,36,39,0,43,46,0,50,53,0,57,60,0,64,67,0,71],[4]]) (Qjy Z7m Qk3) Tryz.func201
noncomputable def Z9c (m_0:Qwl):Option ((Bool × Unit) × Unit):=
 Option.bind (Zjm m_0) fun r1=>
 bif m_0.1==2 then
  bif m_0.1==2 then
   bif m_0.1==2 then
    Option.bind (Qp1 0 1073741824 [m_0.2.2.2.2.1,m_0.2.2.2.2.2.1]) fun r2=>
    bif r2.1.1 then
     Option.bind (Z0v m_0.2.2.2.2.2.2.1) fun r3=>
     bif r3.1.1 then
      Option.bind (Qp1 0 1000000 [m_0.2.2.2.2.2.2.2.1,r1.1.1.2.2.2.2.2.2.2.2.1]) fun r4=>
      bif r4.1.1 then
       Option.bind (Qqb m_0 (r1.1.1.1,r1.1.1.2.1,r1.1.1.2.2.1,r1.1.1.2.2.2.1,m_0.2.2.2.2.1,m_0.2.2.2.2.2.1,m_0.2.2.2.2.2.2.1,m_0.2.2.2.2.2.2.2.1,r1.1.1.2.2.2.2.2.2.2.2)) fun r5=>
       some ((r5.1.1,()),())
      else
       some ((false,()),())
     else
      some ((false,()),())
    else
     some ((false,()),())
   else
    Option.bind (Qp1 0 1073741824 [m_0.2.2.2.2.1,m_0.2.2.2.2.2.1]) fun r6=>
    bif r6.1.1 then
     Option.bind (Z0v m_0.2.2.2.2.2.2.1) fun r7=>
     bif r7.1.1 then
      Option.bind (Qp1 0 1000000 [r1.1.1.2.2.2.2.2.2.2.1,m_0.2.2.2.2.2.2.2.2.1]) fun r8=>
      bif r8.1.1 then
       Option.bind (Qqb m_0 (r1.1.1.1,r1.1.1.2.1,r1.1.1.2.2.1,r1.1.1.2.2.2.1,m_0.2.2.2.2.1,m_0.2.2.2.2.2.1,m_0.2.2.2.2.2.2.1,r1.1.1.2.2.2.2.2.2.2.1,m_0.2.2.2.2.2.2.2.2.1,r1.1.1.2.2.2.2.2.2.2.2.2)) fun r9=>
       some ((r9.1.1,()),())
      else
       some ((false,()),())
     else
      some ((false,()),())
    else
     some ((false,()),())
  else
  bif m_0.1==7 then
   Option.bind (Qp1 1 1000000 [m_0.2.2.2.2.2.2.2.1]) fun r10=>
   bif r10.1.1 then
    bif decide ((m_0.2.2.2.2.2.2.2.2.2.size:Int)≤12) then
     Option.bind (Qqb m_0 (r1.1.1.1,r1.1.1.2.1,r1.1.1.2.2.1,r1.1.1.2.2.2.1,r1.1.1.2.2.2.2.1,r1.1.1.2.2.2.2.2.1,r1.1.1.2.2.2.2.2.2.1,m_0.2.2.2.2.2.2.2.1,r1.1.1.2.2.2.2.2.2.2.2.1,m_0.2.2.2.2.2.2.2.2.2)) fun r11=>
     some ((r11.1.1,()),())
    else
     some ((false,()),())
   else
    some ((false,()),())
  else
  bif m_0.1==8 then
   bif m_0.1==8 then
    bif decide (m_0.2.2.2.2.2.2.2.1≤m_0.2.2.2.2.2.2.2.2.1) then
     Option.bind (Qp1 1 1000000 [m_0.2.2.2.2.2.2.2.1,m_0.2.2.2.2.2.2.2.2.1]) fun r12=>
     bif r12.1.1 then
      Option.bind (Qqb m_0 (r1.1.1.1,r1.1.1.2.1,r1.1.1.2.2.1,r1.1.1.2.2.2.1,r1.1.1.2.2.2.2.1,r1.1.1.2.2.2.2.2.1,r1.1.1.2.2.2.2.2.2.1,m_0.2.2.2.2.2.2.2.1,m_0.2.2.2.2.2.2.2.2.1,r1.1.1.2.2.2.2.2.2.2.2.2)) fun r13=>
      some ((r13.1.1,()),())
     else
      some ((false,()),())
    else
     some ((false,()),())
   else
    Option.bind (Qqb m_0 r1.1.1) fun r14=>
    some ((r14.1.1,()),())
  else
  bif m_0.1==9 then
   bif decide (m_0.2.2.2.2.2.2.2.1≤m_0.2.2.2.2.2.2.2.2.1) then
    Option.bind (Qp1 1 1000000 [m_0.2.2.2.2.2.2.2.1,m_0.2.2.2.2.2.2.2.2.1]) fun r15=>
    bif r15.1.1 then
     Option.bind (Qqb m_0 (r1.1.1.1,r1.1.1.2.1,r1.1.1.2.2.1,r1.1.1.2.2.2.1,r1.1.1.2.2.2.2.1,r1.1.1.2.2.2.2.2.1,r1.1.1.2.2.2.2.2.2.1,m_0.2.2.2.2.2.2.2.1,m_0.2.2.2.2.2.2.2.2.1,r1.1.1.2.2.2.2.2.2.2.2.2)) fun r16=>
     some ((r16.1.1,()),())
    else
     some ((false,()),())
   else
    some ((false,()),())
  else
   Option.bind (Qqb m_0 r1.1.1) fun r17=>
   some ((r17.1.1,()),())
 else
 bif m_0.1==5 then
  bif m_0.1==2 then
   Option.bind (Qp1 0 1073741824 [m_0.2.2.2.2.1,m_0.2.2.2.2.2.1]) fun r18=>
   bif r18.1.1 then
    Option.bind (Z0v m_0.2.2.2.2.2.2.1) fun r19=>
    bif r19.1.1 then
     Option.bind (Qp1 0 1000000 [m_0.2.2.2.2.2.2.2.1,r1.1.1.2.2.2.2.2.2.2.2.1]) fun r20=>
     bif r20.1.1 then
      Option.bind (Qqb m_0 (r1.1.1.1,r1.1.1.2.1,r1.1.1.2.2.1,r1.1.1.2.2.2.1,m_0.2.2.2.2.1,m_0.2.2.2.2.2.1,m_0.2.2.2.2.2.2.1,m_0.2.2.2.2.2.2.2.1,r1.1.1.2.2.2.2.2.2.2.2)) fun r21=>
      some ((r21.1.1,()),())
     else
      some ((false,()),())
    else
     some ((false,()),())
   else
    some ((false,()),())
  else
   Option.bind (Qp1 0 1073741824 [m_0.2.2.2.2.1,m_0.2.2.2.2.2.1]) fun r22=>
   bif r22.1.1 then
    Option.bind (Z0v m_0.2.2.2.2.2.2.1) fun r23=>
    bif r23.1.1 then
     Option.bind (Qp1 0 1000000 [r1.1.1.2.2.2.2.2.2.2.1,m_0.2.2.2.2.2.2.2.2.1]) fun r24=>
     bif r24.1.1 then
      Option.bind (Qqb m_0 (r1.1.1.1,r1.1.1.2.1,r1.1.1.2.2.1,r1.1.1.2.2.2.1,m_0.2.2.2.2.1,m_0.2.2.2.2.2.1,m_0.2.2.2.2.2.2.1,r1.1.1.2.2.2.2.2.2.2.1,m_0.2.2.2.2.2.2.2.2.1,r1.1.1.2.2.2.2.2.2.2.2.2)) fun r25=>
      some ((r25.1.1,()),())
     else
      some ((false,()),())
    else
     some ((false,()),())
   else
    some ((false,()),())
 else
 bif m_0.1==7 then
  Option.bind (Qp1 1 1000000 [m_0.2.2.2.2.2.2.2.1]) fun r26=>
  bif r26.1.1 then
   bif decide ((m_0.2.2.2.2.2.2.2.2.2.size:Int)≤12) then
    Option.bind (Qqb m_0 (r1.1.1.1,r1.1.1.2.1,r1.1.1.2.2.1,r1.1.1.2.2.2.1,r1.1.1.2.2.2.2.1,r1.1.1.2.2.2.2.2.1,r1.1.1.2.2.2.2.2.2.1,m_0.2.2.2.2.2.2.2.1,r1.1.1.2.2.2.2.2.2.2.2.1,m_0.2.2.2.2.2.2.2.2.2)) fun r27=>
    some ((r27.1.1,()),())
   else
    some ((false,()),())
  else
   some ((false,()),())
 else
 bif m_0.1==8 then
  bif m_0.1==8 then
   bif decide (m_0.2.2.2.2.2.2.2.1≤m_0.2.2.2.2.2.2.2.2.1) then
    Option.bind (Qp1 1 1000000 [m_0.2.2.2.2.2.2.2.1,m_0.2.2.2.2.2.2.2.2.1]) fun r28=>
    bif r28.1.1 then
     Option.bind (Qqb m_0 (r1.1.1.1,r1.1.1.2.1,r1.1.1.2.2.1,r1.1.1.2.2.2.1,r1.1.1.2.2.2.2.1,r1.1.1.2.2.2.2.2.1,r1.1.1.2.2.2.2.2.2.1,m_0.2.2.2.2.2.2.2.1,m_0.2.2.2.2.2.2.2.2.1,r1.1.1.2.2.2.2.2.2.2.2.2)) fun r29=>
     some ((r29.1.1,()),())
    else
     some ((false,()),())
   else
    some ((false,()),())
  else
   Option.bind (Qqb m_0 r1.1.1) fun r30=>
   some ((r30.1.1,()),())
 else
 bif m_0.1==9 then
  bif decide (m_0.2.2.2.2.2.2.2.1≤m_0.2.2.2.2.2.2.2.2.1) then
   Option.bind (Qp1 1 1000000 [m_0.2.2.2.2.2.2.2.1,m_0.2.2.2.2.2.2.2.2.1]) fun r31=>
   bif r31.1.1 then
    Option.bind (Qqb m_0 (r1.1.1.1,r1.1.1.2.1,r1.1.1.2.2.1,r1.1.1.2.2.2.1,r1.1.1.2.2.2.2.1,r1.1.1.2.2.2.2.2.1,r1.1.1.2.2.2.2.2.2.1,m_0.2.2.2.2.2.2.2.1,m_0.2.2.2.2.2.2.2.2.1,r1.1.1.2.2.2.2.2.2.2.2.2)) fun r32=>
    some ((r32.1.1,()),())
   else
    some ((false,()),())
  else
   some ((false,()),())
 else
  Option.bind (Qqb m_0 r1.1.1) fun r33=>
  some ((r33.1.1,()),())
noncomputable def Zkq:Ent:=⟨[.val t45],[⟨t4,[false],none⟩],fun x=>Z9c x.1⟩
theorem Zfu:GD 179 Zkq:=fnk 1 (fr [[1,36,0,38,41,0,46,49,0,51,66,0,69,72,0,74,91,0,96,99,0,101],[1,3,36,0,38,41,0,46,49,0,51,66,0,69,72,0,74,91,0,96,99,0,101],[1,3,7,36,0,38,41,0,46,49,0,51,66,0,69,72,0,74,91,0,96,99,0,101],[1,3,7,8,36,0,38,41,0,46,49,0,51,66,0,69,72,0,74,91,0,96,99,0,101],[1,3,7,8,36,0,38,41,0,46,49,0,51,66,0,69,72,0,74,91,0,96,99,0,101],[1,3,36,0,38,41,0,46,49,0,51],[1,3,22,36,0,38,41,0,46,49,0,51],[1,3,36,0,38,41,0,46,49,0,51],[1,3,36,0,38,41,0,46,49,0,51],[2],[1,3,7,53,66,0,69,72,0,74,91,0,96,99,0,101],[1,3,66,0,69,72,0,74],[2],[1,3,7,76,91,0,96,99,0,101],[1,3,76,91,0,96,99,0,101],[1,3,91,0,96,99,0,101],[2],[2]]) (Qjy Zc3 (Qjy Zbv (Qjy Zjd (Qjy Zju Qk3)))) Tryz.func179
noncomputable def Zjk (m_0:Qwl):Option ((Bool × Unit) × Unit):=
 Option.bind (Qp1 1 9 [m_0.1]) fun r1=>
 bif r1.1.1 then
  Option.bind (Qp1 1 8 [m_0.2.1,m_0.2.2.1]) fun r2=>
  bif r2.1.1 then
   bif m_0.2.1 != m_0.2.2.1 then
    Option.bind (Qp1 1 1073741824 [m_0.2.2.2.1]) fun r3=>
    bif r3.1.1 then
     Option.bind (Z9c m_0) fun r4=>
     some ((r4.1.1,()),())
    else
     some ((false,()),())
   else
    some ((false,()),())
  else
   some ((false,()),())
 else
  some ((false,()),())
noncomputable def Zku:Ent:=⟨[.val t45],[⟨t4,[false],none⟩],fun x=>Zjk x.1⟩
theorem Zk5:GD 148 Zku:=fnk 1 (fr [[1,8,0,13,16,0,20,23,0,26,29,30],[2]]) (Qjy Zc3 (Qjy Zfu Qk3)) Tryz.func148
noncomputable def Quj (s:List Int):Option (((List Int) × Unit) × Unit):=bif Nat.ble s.length 1073741824 then some ((s,()),()) else none
theorem Z8f (s:List Int):Qde [] tab (Qk4 Tryz.f180 []) 1 [.val t25] [⟨t25,[true],none⟩] Tryz.f180 (s,())=bif !(List.isEmpty s) then bif Nat.ble (0+s.length) 1073741824 then some (([]++s,()),()) else none
 else Q3f (some (([],()),())) (bif Nat.ble (0+s.length) 1073741824 then some (([]++s,()),()) else none):=by kernel_rfl
theorem Za2 (s:List Int):Qde [] tab (Qk4 Tryz.f180 []) 1 [.val t25] [⟨t25,[true],none⟩] Tryz.f180 (s,())=Quj s:=by
  rw [Z8f]
  cases s with
  | nil=>exact Qcu _
  | cons x q=>rw [Nat.zero_add];rfl
noncomputable def Z1y:Ent:=⟨[.val t25],[⟨t25,[true],none⟩],fun x=>Quj x.1⟩
theorem Z7b:Q4u tab.ty Tryz.prog 180 Z1y:=by
  refine Qjk (Γ:=[]) (fi:=Qk4 Tryz.f180 []) (n:=1) follows Qk3 Zhh Tryz.func180 (by kernel_rfl) (by kernel_rfl) (fun x r h=>?_)
  obtain ⟨s,_u⟩:=x
  exact (Za2 s).trans h
abbrev Z14:Type:=((List Int) × Unit) × Unit
noncomputable def Zo8:Ctx:=[(180,Z1y)]
def Zgl:Fi:=fo [[0,1],[0,1],[0,5],[0,5,11],[0,5],[0,5],[4]]
abbrev Zbj:Type:=Int→List Int→Option Z14
noncomputable def Z6l (L1:Zbj) (v2:Int) (v3:List Int):Option Z14:=
 bif decide (v2 ≥ 128) then
  bif Nat.ble (v3.length+1) 1073741824 then
   L1 (Int.fdiv v2 (2 ^ 7)) (v3++[IntKind.wrap .u8 ((BitVec.ofInt 8 (IntKind.wrap .u8 v2) ||| BitVec.ofInt 8 128).toNat)])
  else none
 else
 bif Nat.ble (v3.length+1) 1073741824 then
  some ((v3++[IntKind.wrap .u8 v2],()),())
 else none
noncomputable def Z9j (L1:Zbj) (b_0:List Int) (v_1:Int):Option Z14:=
 Option.bind (Quj b_0) fun r1=>
 L1 (IntKind.wrap .u64 v_1) r1.1.1
noncomputable def Z1e (n:Nat):Nat→Zbj:=iter (fun _ _=>none) fun L=>Z6l L
noncomputable def Z69 (n m:Nat) (v2:Int) (v3:List Int):Option Z14:=
 Qjv Zo8 tab (fiB [.val t25,.val t2] Zgl) n [.val t25,.val t2] [⟨t25,[true],none⟩] Tryz.f149 [1,1,1,0,0] [] [0,5] m
 ⟨[(0,V1 (.ref (888888,0))),(5,Vp t12 v2)],[((888888,0),Ob.row 5 t5 v3)]⟩
theorem Zf2 (n:Nat):∀ m,Z69 n m=Z1e n m
 | 0=>rfl
 | m+1=>by rw [show Z69 n (m+1)=Z6l (Z69 n m) from by kernel_rfl,Zf2 n m];rfl
noncomputable def Zic (n:Nat) (b_0:List Int) (v_1:Int):Option Z14:=Z9j (Z1e n n) b_0 v_1
noncomputable def Zfo (b_0:List Int) (v_1:Int):Option Z14:=Zic 1099511627776 b_0 v_1
noncomputable def Zj0:Ent:=⟨[.val t25,.val t2],[⟨t25,[true],none⟩],fun x=>Zfo x.1 x.2.1⟩
theorem Zcb:GD 149 Zj0:=fnl Zgl (fun n x=>Zic n x.1 x.2.1) (Qjy Z7b Qk3) Tryz.func149 fun n x=>Eq.trans (b:=Z9j (Z69 n n) x.1 x.2.1) (by kernel_rfl) (by rw [Zf2 n n];rfl)
noncomputable def Z3w (b_0:List Int) (s_1:ByteArray):Option (((List Int) × Unit) × Unit):=
 Option.bind (Zfo b_0 (s_1.size:Int)) fun r1=>
 bif Nat.ble (r1.1.1.length+(s_1.data.toList.map fun b=>(b.toNat:Int)).length) 1073741824 then
  some ((r1.1.1++(s_1.data.toList.map fun b=>(b.toNat:Int)),()),())
 else none
noncomputable def Zai:Ent:=⟨[.val t25,.val t9],[⟨t25,[true],none⟩],fun x=>Z3w x.1 x.2.1⟩
theorem Zdy:GD 150 Zai:=fnk 1 (fo [[0,1],[4]]) (Qjy Zcb Qk3) Tryz.func150
abbrev Qwm:Type:=(Int × Unit) × Unit
noncomputable def Zk9:Ctx:=[]
def Ze3:Fi:=fr [[0],[0,3],[3,7,8,9],[3,7,0,10],[3,5,7,8,9],[3,7,8,9],[3,7,8,9,17],[3,7,8,9,17,18],[3,6,0,9,17],[3,6,0,9,17],[3,7,8,9,17,24],[3,7,8,9,17],[3,7,8,9,17],[3,7,8,9],[2]]
abbrev Z9g:Type:=Int→List Int→Int→Int→Option Qwm
abbrev Ze4:Type:=Int→List Int→Int→Int→Int→Option Qwm
noncomputable def Z15 (L2:Ze4) (v1:Int) (v2:List Int) (v3 v4:Int):Option Qwm:=
 bif decide (v4<v3) then
  bif decide (0≤v4)&&decide (v4<(v2.length:Int)) then
   L2 (IntKind.wrap .u32 ((BitVec.ofInt 32 v1 ^^^ BitVec.ofInt 32 (IntKind.wrap .u32 (List.getD v2 v4.toNat 0))).toNat)) v2 v3 v4 0
  else none
 else
  some ((IntKind.wrap .u32 ((BitVec.ofInt 32 v1 ^^^ BitVec.ofInt 32 4294967295).toNat),()),())
noncomputable def Z16 (L2:Ze4) (L1:Z9g) (v5:Int) (v6:List Int) (v7 v8 v9:Int):Option Qwm:=
 bif decide (v9<8) then
  bif (IntKind.wrap .u32 ((BitVec.ofInt 32 v5 &&& BitVec.ofInt 32 1).toNat))==1 then
   L2 (IntKind.wrap .u32 ((BitVec.ofInt 32 (Int.fdiv v5 (2 ^ 1)) ^^^ BitVec.ofInt 32 3988292384).toNat)) v6 v7 v8 (IntKind.wrap .i64 (v9+1))
  else
   L2 (Int.fdiv v5 (2 ^ 1)) v6 v7 v8 (IntKind.wrap .i64 (v9+1))
 else
  L1 v5 v6 v7 (IntKind.wrap .i64 (v8+1))
noncomputable def Zk7 (L1:Z9g) (b_0:List Int):Option Qwm:=
 L1 4294967295 b_0 (b_0.length:Int) 0
noncomputable def Qyc (n:Nat) (m1:Nat) (r1:Z9g):Nat→Ze4:=iter (fun _ _ _ _ _=>none) fun L=>Z16 L r1
noncomputable def Z17 (n:Nat):Nat→Z9g:=Qjg (fun _ _ _ _=>none) fun m L=>Z15 (Qyc n m L n)
noncomputable def Z4q (n m:Nat) (v1:Int) (v2:List Int) (v3 v4:Int):Option Qwm:=
 Qjv Zk9 tab (fiB [.val t25] Ze3) n [.val t25] [⟨t91,[false],none⟩] Tryz.f151 [1,1,0,1,0] [] [3,7,8,9] m
 ⟨[(3,Vp t91 v1),(7,Vp t25 v2),(8,Vp t2 v3),(9,Vp t2 v4)],[]⟩
noncomputable def Z9i (n m1 m:Nat) (v5:Int) (v6:List Int) (v7 v8 v9:Int):Option Qwm:=
 Qjv Zk9 tab (fiB [.val t25] Ze3) n [.val t25] [⟨t91,[false],none⟩] Tryz.f151 [1,1,0,1,0,0,1,1,0,0,1,1,1,0] [(m1,[3,7,8,9])] [3,7,8,9,17] m
 ⟨[(3,Vp t91 v5),(7,Vp t25 v6),(8,Vp t2 v7),(9,Vp t2 v8),(17,Vp t2 v9)],[]⟩
theorem Zh1 (n m1:Nat):∀ m,Z9i n m1 m=Qyc n m1 (Z4q n m1) m
 | 0=>rfl
 | m+1=>by rw [show Z9i n m1 (m+1)=Z16 (Z9i n m1 m) (Z4q n m1) from by kernel_rfl,Zh1 n m1 m];rfl
theorem Zgk (n:Nat):∀ m,Z4q n m=Z17 n m
 | 0=>rfl
 | m+1=>by rw [show Z4q n (m+1)=Z15 (Z9i n m n) from by kernel_rfl,Zh1 n m n,Zgk n m];rfl
noncomputable def Zky (n:Nat) (b_0:List Int):Option Qwm:=Zk7 (Z17 n n) b_0
noncomputable def Zmo (b_0:List Int):Option Qwm:=Zky 1099511627776 b_0
noncomputable def Zlh:Ent:=⟨[.val t25],[⟨t91,[false],none⟩],fun x=>Zmo x.1⟩
theorem Zko:GD 151 Zlh:=fnl Ze3 (fun n x=>Zky n x.1) Qk3 Tryz.func151 fun n x=>Eq.trans (b:=Zk7 (Z4q n n) x.1) (by kernel_rfl) (by rw [Zgk n n];rfl)
abbrev Z4u:Type:=((List Int) × Unit) × Unit
noncomputable def Zp4:Ctx:=[(148,Zku),(149,Zj0),(150,Zai),(151,Zlh)]
def Zil:Fi:={ keep:=[],vty:=[(4,25)],vals:=[],live:=[(0,[1]),(1,[1,10]),(2,[2]),(3,[1,3]),(4,[1,3]),(5,[1,3,4]),(6,[1,4,37,38,39]),(7,[1,4,37,38,39,40]),(8,[1,4,6,37,38,39]),(9,[1,4,37,38,39]),(10,[1,4,37,38,39]),(11,[4]),(12,[4,7]),(13,[2])] }
abbrev Zeb:Type:=Int→Int→Int→Int→Int→Int→Int→Int→List Int→Int→Int→ByteArray→List Int→List Int→Option Z4u
noncomputable def Z19 (L1:Zeb) (v2 v3 v4 v5 v6 v7 v8 v9:Int) (v10:List Int) (v11 v12:Int) (v13:ByteArray) (v14 v15:List Int):Option Z4u:=
 bif decide (v3<v2) then
  bif decide (0≤v3)&&decide (v3<(v15.length:Int)) then
   bif decide (0≤v3)&&decide (v3<(v15.length:Int)) then
    Option.bind (Zfo v14 (List.getD v15 v3.toNat 0)) fun r16=>
    L1 v2 (IntKind.wrap .i64 (v3+1)) v4 v5 v6 v7 v8 v9 v10 v11 v12 v13 r16.1.1 v15
   else none
  else none
 else
  Option.bind (Z3w v14 v13) fun r17=>
  Option.bind (Zmo r17.1.1) fun r18=>
  bif Nat.ble (r17.1.1.length+4) 1073741824 then
   some ((r17.1.1++[IntKind.wrap .u8 (Int.fdiv r18.1.1 (2 ^ 24)),IntKind.wrap .u8 (Int.fdiv r18.1.1 (2 ^ 16)),IntKind.wrap .u8 (Int.fdiv r18.1.1 (2 ^ 8)),IntKind.wrap .u8 r18.1.1],()),())
  else none
noncomputable def Zd9 (L1:Zeb) (m_0:Qwl):Option Z4u:=
 Option.bind (Zjk m_0) fun r1=>
 bif !r1.1.1 then
  some (([],()),())
 else
 bif Nat.ble (7+m_0.2.2.2.2.2.2.1.length) 1073741824 then
  bif Nat.ble (([m_0.1,m_0.2.1,m_0.2.2.1,m_0.2.2.2.1,m_0.2.2.2.2.1,m_0.2.2.2.2.2.1,(m_0.2.2.2.2.2.2.1.length:Int)]++m_0.2.2.2.2.2.2.1).length+2) 1073741824 then
   L1 ((([m_0.1,m_0.2.1,m_0.2.2.1,m_0.2.2.2.1,m_0.2.2.2.2.1,m_0.2.2.2.2.2.1,(m_0.2.2.2.2.2.2.1.length:Int)]++m_0.2.2.2.2.2.2.1)++[m_0.2.2.2.2.2.2.2.1,m_0.2.2.2.2.2.2.2.2.1]).length:Int) 0 m_0.1 m_0.2.1 m_0.2.2.1 m_0.2.2.2.1 m_0.2.2.2.2.1 m_0.2.2.2.2.2.1 m_0.2.2.2.2.2.2.1 m_0.2.2.2.2.2.2.2.1 m_0.2.2.2.2.2.2.2.2.1 m_0.2.2.2.2.2.2.2.2.2 [] (([m_0.1,m_0.2.1,m_0.2.2.1,m_0.2.2.2.1,m_0.2.2.2.2.1,m_0.2.2.2.2.2.1,(m_0.2.2.2.2.2.2.1.length:Int)]++m_0.2.2.2.2.2.2.1)++[m_0.2.2.2.2.2.2.2.1,m_0.2.2.2.2.2.2.2.2.1])
  else none
 else none
noncomputable def Z12 (n:Nat):Nat→Zeb:=iter (fun _ _ _ _ _ _ _ _ _ _ _ _ _ _=>none) fun L=>Z19 L
noncomputable def Z9d (n m:Nat) (v2 v3 v4 v5 v6 v7 v8 v9:Int) (v10:List Int) (v11 v12:Int) (v13:ByteArray) (v14 v15:List Int):Option Z4u:=
 Qjv Zp4 tab (fiB [.val t45] Zil) n [.val t45] [⟨t25,[true],none⟩] Tryz.f87 [1,1,1,1,1,0,1,0] [] [1,4,37,38,39] m
 ⟨[(1,V1 (.ptr (1,0) 0)),(4,V1 (.ref (888888,4))),(37,V1 (.ref (888888,37))),(38,Vp t2 v2),(39,Vp t2 v3)],[((1,0),Ob.box 46 [LV.pure t2 v4,LV.pure t2 v5,LV.pure t2 v6,LV.pure t2 v7,LV.pure t2 v8,LV.pure t2 v9,LV.pure t28 v10,LV.pure t2 v11,LV.pure t2 v12,LV.pure t9 v13]),((888888,4),Ob.row 5 t5 v14),((888888,37),Ob.row 3 t2 v15)]⟩
theorem Zgo (n:Nat):∀ m,Z9d n m=Z12 n m
 | 0=>rfl
 | m+1=>by rw [show Z9d n (m+1)=Z19 (Z9d n m) from by kernel_rfl,Zgo n m];rfl
noncomputable def Zk8 (n:Nat) (m_0:Qwl):Option Z4u:=Zd9 (Z12 n n) m_0
noncomputable def Zma (m_0:Qwl):Option Z4u:=Zk8 1099511627776 m_0
noncomputable def Zl2:Ent:=⟨[.val t45],[⟨t25,[true],none⟩],fun x=>Zma x.1⟩
theorem Zl1:GD 87 Zl2:=fnl Zil (fun n x=>Zk8 n x.1) (Qjy Zk5 (Qjy Zcb (Qjy Zdy (Qjy Zko Qk3)))) Tryz.func87 fun n x=>Eq.trans (b:=Zd9 (Z9d n n) x.1) (by kernel_rfl) (by rw [Zgo n n];rfl)
abbrev Qo1:Type:=(Bool × Unit) × Unit
noncomputable def Zba:Ctx:=[]
def Z0k:Fi:=fr [[0,1],[0,1,10],[4],[0,1,12,13],[0,1,12,0,14],[0,1,5,12,13],[0,1,12,13,24],[4],[0,1,12,13],[4]]
abbrev Quz:Type:=List Int→List Int→Int→Int→Option Qo1
noncomputable def Qnf (L1:Quz) (v1 v2:List Int) (v3 v4:Int):Option Qo1:=
 bif decide (v4<v3) then
  bif decide (0≤v4)&&decide (v4<(v1.length:Int)) then
   bif decide (0≤v4)&&decide (v4<(v2.length:Int)) then
    bif (List.getD v1 v4.toNat 0) != (List.getD v2 v4.toNat 0) then
     some ((false,()),())
    else
     L1 v1 v2 v3 (IntKind.wrap .i64 (v4+1))
   else none
  else none
 else
  some ((true,()),())
noncomputable def Qsr (L1:Quz) (s1_0 s2_1:List Int):Option Qo1:=
 bif (s1_0.length:Int) != (s2_1.length:Int) then
  some ((false,()),())
 else
  L1 s1_0 s2_1 (s1_0.length:Int) 0
noncomputable def Qnb (n:Nat):Nat→Quz:=iter (fun _ _ _ _=>none) fun L=>Qnf L
noncomputable def Qrp (n m:Nat) (v1 v2:List Int) (v3 v4:Int):Option Qo1:=
 Qjv Zba tab (fiB [.val t25,.val t25] Z0k) n [.val t25,.val t25] [⟨t4,[false],none⟩] Tryz.f88 [1,1,0,1,0] [] [0,1,12,13] m
 ⟨[(0,Vp t25 v1),(1,Vp t25 v2),(12,Vp t2 v3),(13,Vp t2 v4)],[]⟩
theorem Qz9 (n:Nat):∀ m,Qrp n m=Qnb n m
 | 0=>rfl
 | m+1=>by rw [show Qrp n (m+1)=Qnf (Qrp n m) from by kernel_rfl,Qz9 n m];rfl
noncomputable def Z1m (n:Nat) (s1_0 s2_1:List Int):Option Qo1:=Qsr (Qnb n n) s1_0 s2_1
noncomputable def Qu5 (s1_0 s2_1:List Int):Option Qo1:=Z1m 1099511627776 s1_0 s2_1
noncomputable def Z1g:Ent:=⟨[.val t25,.val t25],[⟨t4,[false],none⟩],fun x=>Qu5 x.1 x.2.1⟩
theorem Z7g:GD 88 Z1g:=fnl Z0k (fun n x=>Z1m n x.1 x.2.1) Qk3 Tryz.func88 fun n x=>Eq.trans (b:=Qsr (Qrp n n) x.1 x.2.1) (by kernel_rfl) (by rw [Qz9 n n];rfl)
noncomputable def Zdu:Ctx:=[(86,Z6t),(87,Zl2),(88,Z1g)]
def Zbd:Fi:={ keep:=[],vty:=[],vals:=[],live:=[(0,[0,2,34,35,38,39,40,41]),(1,[0,2,11,34,35,38,39,40,41]),(2,[2,3]),(3,[0,2,4,34,35,38,39,40,41]),(4,[0,2,4,5,34,35,38,39,40,41]),(5,[0,2,5,7,34,35,38,39,40,41]),(6,[0,2,5,7,8,34,35,38,39,40,41]),(7,[2,5,42]),(8,[2,3]),(9,[2,3])] }
noncomputable def Z3a (Q3f:Option ((Qwl × Bool × Unit) × Unit)→Option ((Qwl × Bool × Unit) × Unit)→Option ((Qwl × Bool × Unit) × Unit)) (b_0:List Int):Option ((Qwl × Bool × Unit) × Unit):=
 bif decide ((b_0.length:Int)<4) then
  some ((Qzj,false,()),())
 else
 bif decide (0≤IntKind.wrap .i64 ((b_0.length:Int) - 4))&&decide (IntKind.wrap .i64 ((b_0.length:Int) - 4)≤(b_0.length:Int)) then
  Option.bind (Z4a (List.drop 0 (List.take ((IntKind.wrap .i64 ((b_0.length:Int) - 4)).toNat) b_0),IV.nil)) fun (r1:(Qwl × Unit) × (Zfi × Unit))=>
  Option.bind (Zma r1.1.1) fun (r2:((List Int) × Unit) × Unit)=>
  bif IV.is r1.2.1.2 134 then
   some ((Qzj,false,()),())
  else
  bif !(List.isEmpty r2.1.1) then
   Option.bind (Qu5 r2.1.1 b_0) fun (r3:(Bool × Unit) × Unit)=>
   bif !r3.1.1 then
    some ((Qzj,false,()),())
   else
    some ((r1.1.1,true,()),())
  else
   Q3f (
    some ((Qzj,false,()),())) (
    Option.bind (Qu5 r2.1.1 b_0) fun (r4:(Bool × Unit) × Unit)=>
    bif !r4.1.1 then
     some ((Qzj,false,()),())
    else
     some ((r1.1.1,true,()),()))
 else none
noncomputable def Zd8 (b_0:List Int):Option ((Qwl × Bool × Unit) × Unit):=Z3a (@Qav _ (@instDecidableEqProd _ _ (@instDecidableEqProd _ _ (@instDecidableEqProd _ _ inferInstance (@instDecidableEqProd _ _ inferInstance (@instDecidableEqProd _ _ inferInstance (@instDecidableEqProd _ _ inferInstance (@instDecidableEqProd _ _ inferInstance (@instDecidableEqProd _ _ inferInstance (@instDecidableEqProd _ _ inferInstance (@instDecidableEqProd _ _ inferInstance (@instDecidableEqProd _ _ inferInstance inferInstance))))))))) (@instDecidableEqProd _ _ inferInstance inferInstance)) inferInstance)) b_0
theorem Zkb (b_0:List Int):Qde Zdu tab Zbd 1 [.val t25] [⟨t45,[false,false,false,false,false,false,true,false,false,false],none⟩,⟨t4,[false],none⟩] Tryz.f45 (b_0,())=Z3a Q3f b_0:=by kernel_rfl
theorem Zm1 (b_0:List Int):Qde Zdu tab Zbd 1 [.val t25] [⟨t45,[false,false,false,false,false,false,true,false,false,false],none⟩,⟨t4,[false],none⟩] Tryz.f45 (b_0,())=Zd8 b_0:=(Zkb b_0).trans (congrArg (fun b=>Z3a b b_0) (@Qiu _ (@instDecidableEqProd _ _ (@instDecidableEqProd _ _ (@instDecidableEqProd _ _ inferInstance (@instDecidableEqProd _ _ inferInstance (@instDecidableEqProd _ _ inferInstance (@instDecidableEqProd _ _ inferInstance (@instDecidableEqProd _ _ inferInstance (@instDecidableEqProd _ _ inferInstance (@instDecidableEqProd _ _ inferInstance (@instDecidableEqProd _ _ inferInstance (@instDecidableEqProd _ _ inferInstance inferInstance))))))))) (@instDecidableEqProd _ _ inferInstance inferInstance)) inferInstance)))
noncomputable def Znr:Ent:=⟨[.val t25],[⟨t45,[false,false,false,false,false,false,true,false,false,false],none⟩,⟨t4,[false],none⟩],fun x=>Zd8 x.1⟩
theorem Zj6:Q4u tab.ty Tryz.prog 45 Znr:=by
  refine Qjk (Γ:=Zdu) (fi:=Zbd) (n:=1) follows (Qjy Zav (Qjy Zl1 (Qjy Z7g Qk3))) Zhh Tryz.func45 (by kernel_rfl) (by kernel_rfl) (fun x r h=>?_)
  obtain ⟨b_0,_u⟩:=x
  exact (Zm1 b_0).trans h
noncomputable def Zmt (t_0:Qvr):Option ((Qxp × Unit) × Unit):=
 Option.bind (Qnm (g6 t_0)) fun r1=>
 Option.bind (Qnk (h12 t_0)) fun r2=>
 some ((((e12 (u6 t_0 r1.1.1) r2.1.1),[]),()),())
noncomputable def Zqk:Ent:=⟨[.val t30],[⟨Zoq,(nF 13++[true]),some 141⟩],fun x=>Zmt x.1⟩
theorem Zmf:GD 89 Zqk:=fnk 1 (fo [[1],[1],[2]]) (Qjy Qqy (Qjy Qqm Qk3)) Tryz.func89
abbrev Qkg:Type:=(Int × Bool × Unit) × Unit
noncomputable def Qux:Ctx:=[]
def Qoj:Fi:=fr [[0,1,2,40,0,47],[0,1,2,8,40,0,47],[0,1,2,8,9,10,40,0,47],[0,1,2,8,9,10,17,40,0,47],[0,1,2,8,0,11,40,0,47],[0,1,2,8,0,11,31,40,0,47],[0,1,2,8,9,10,40,0,47],[0,1,2,8,9,10,40,0,47],[6,7]]
abbrev Qme:Type:=Qlv→Int→(Qyn × Int × Unit→Option (Int × Unit))→Int→Int→Int→Option Qkg
noncomputable def Ql3 (L1:Qme) (v1:Qlv) (v2:Int) (v3:(Qyn × Int × Unit→Option (Int × Unit))) (v4 v5 v6:Int):Option Qkg:=
 bif decide (v5<v6) then
  bif decide (0≤IntKind.wrap .i64 (Int.fdiv (IntKind.wrap .u64 (IntKind.wrap .i64 (v5+v6))) (2 ^ 1)))&&decide (IntKind.wrap .i64 (Int.fdiv (IntKind.wrap .u64 (IntKind.wrap .i64 (v5+v6))) (2 ^ 1))<(v1.length:Int)) then
   Option.bind (v3 ((List.getD v1 ((IntKind.wrap .i64 (Int.fdiv (IntKind.wrap .u64 (IntKind.wrap .i64 (v5+v6))) (2 ^ 1))).toNat) (0,0,0)),v2,())) fun r7=>
   bif decide (r7.1<0) then
    L1 v1 v2 v3 v4 (IntKind.wrap .i64 ((IntKind.wrap .i64 (Int.fdiv (IntKind.wrap .u64 (IntKind.wrap .i64 (v5+v6))) (2 ^ 1)))+1)) v6
   else
    L1 v1 v2 v3 v4 v5 (IntKind.wrap .i64 (Int.fdiv (IntKind.wrap .u64 (IntKind.wrap .i64 (v5+v6))) (2 ^ 1)))
  else none
 else
 bif decide (v5<v4) then
  bif decide (0≤v5)&&decide (v5<(v1.length:Int)) then
   Option.bind (v3 ((List.getD v1 v5.toNat (0,0,0)),v2,())) fun r8=>
   some ((v5,r8.1==0,()),())
  else none
 else
  some ((v5,false,()),())
noncomputable def Qpa (L1:Qme) (x_0:Qlv) (target_1:Int) (cmp_2:(Qyn × Int × Unit→Option (Int × Unit))):Option Qkg:=
 L1 x_0 target_1 cmp_2 (x_0.length:Int) 0 (x_0.length:Int)
noncomputable def Ql2 (n:Nat):Nat→Qme:=iter (fun _ _ _ _ _ _=>none) fun L=>Ql3 L
noncomputable def Ql1 (n m:Nat) (v1:Qlv) (v2:Int) (v3:(Qyn × Int × Unit→Option (Int × Unit))) (v4 v5 v6:Int):Option Qkg:=
 Qjv Qux tab (fiB [.val t29,.val t2,.fn [t52,t2] [t2]] Qoj) n [.val t29,.val t2,.fn [t52,t2] [t2]] [⟨t2,[false],none⟩,⟨t4,[false],none⟩] Tryz.f186 [1,1,1,0,0] [] [0,1,2,8,9,10] m
 ⟨[(0,Vp t29 v1),(1,Vp t2 v2),(2,V1 (.clo [t52,t2] [t2] v3)),(8,Vp t2 v4),(9,Vp t2 v5),(10,Vp t2 v6)],[]⟩
theorem Qoa (n:Nat):∀ m,Ql1 n m=Ql2 n m
 | 0=>rfl
 | m+1=>by rw [show Ql1 n (m+1)=Ql3 (Ql1 n m) from by kernel_rfl,Qoa n m];rfl
noncomputable def Qp9 (n:Nat) (x_0:Qlv) (target_1:Int) (cmp_2:(Qyn × Int × Unit→Option (Int × Unit))):Option Qkg:=Qpa (Ql2 n n) x_0 target_1 cmp_2
noncomputable def Qmu (x_0:Qlv) (target_1:Int) (cmp_2:(Qyn × Int × Unit→Option (Int × Unit))):Option Qkg:=Qp9 1099511627776 x_0 target_1 cmp_2
noncomputable def Qv4:Ent:=⟨[.val t29,.val t2,.fn [t52,t2] [t2]],[⟨t2,[false],none⟩,⟨t4,[false],none⟩],fun x=>Qmu x.1 x.2.1 x.2.2.1⟩
theorem Qtj:GD 186 Qv4:=fnl Qoj (fun n x=>Qp9 n x.1 x.2.1 x.2.2.1) Qk3 Tryz.func186 fun n x=>Eq.trans (b:=Qpa (Ql1 n n) x.1 x.2.1 x.2.2.1) (by kernel_rfl) (by rw [Qoa n n];rfl)
noncomputable def Z0w (x_0:Int):Option ((Bool × Unit) × Unit):=
 some ((x_0 != x_0,()),())
noncomputable def Zhi:Ent:=⟨[.val t2],[⟨t4,[false],none⟩],fun x=>Z0w x.1⟩
theorem Zd1:GD 205 Zhi:=fnk 1 (fo [[0],[2]]) Qk3 Tryz.func205
noncomputable def Qs3 (x_0 y_1:Int):Option ((Int × Unit) × Unit):=
 Option.bind (Z0w x_0) fun r1=>
 Option.bind (Z0w y_1) fun r2=>
 bif r1.1.1 then
  bif r2.1.1 then
   some ((0,()),())
  else
   some (((-1),()),())
 else
 bif r2.1.1 then
  some ((1,()),())
 else
 bif decide (x_0<y_1) then
  some (((-1),()),())
 else
 bif decide (x_0>y_1) then
  some ((1,()),())
 else
  some ((0,()),())
noncomputable def Zdw:Ent:=⟨[.val t2,.val t2],[⟨t2,[false],none⟩],fun x=>Qs3 x.1 x.2.1⟩
theorem Quw:GD 188 Zdw:=fnk 1 (fo [[0,1],[0,1,5],[0,1,5,6],[0,1,6,11],[12],[4],[4],[0,1,13],[4],[0,1,16],[4],[19],[4],[4]]) (Qjy Zd1 Qk3) Tryz.func188
noncomputable def Z49 (k_0:Qyn) (id_1:Int):Option ((Int × Unit) × Unit):=
 Option.bind (Qs3 k_0.1 id_1) fun r1=>
 some ((r1.1.1,()),())
noncomputable def Zfk:Ent:=⟨[.val t52,.val t2],[⟨t2,[false],none⟩],fun x=>Z49 x.1 x.2.1⟩
theorem Zaw:GD 187 Zfk:=fnk 1 (fo [[1,2],[4]]) (Qjy Quw Qk3) Tryz.func187
noncomputable def Z5k (l_0:Qlv) (id_1:Int):Option ((Int × Bool × Unit) × Unit):=
 Option.bind (Qmu l_0 id_1 (fun x=>(Z49 x.1 x.2.1).bind fun r=>some (r.1.1,()))) fun r1=>
 some ((r1.1.1,r1.1.2.1,()),())
noncomputable def Zkt:Ent:=⟨[.val t29,.val t2],[⟨t2,[false],none⟩,⟨t4,[false],none⟩],fun x=>Z5k x.1 x.2.1⟩
theorem Z7o:GD 158 Zkt:=fnk 1 (fo [[0,1],[4,5]]) (Qjy Qtj (Qjy Zaw Qk3)) Tryz.func158
noncomputable def Qza (l_0:Qlv) (id_1:Int):Option ((Qyn × Bool × Unit) × Unit):=
 Option.bind (Z5k l_0 id_1) fun r1=>
 bif !r1.1.2.1 then
  some (((0,0,0),false,()),())
 else
 bif decide (0≤r1.1.1)&&decide (r1.1.1<(l_0.length:Int)) then
  some (((List.getD l_0 r1.1.1.toNat (0,0,0)),true,()),())
 else none
noncomputable def Zfy:Ent:=⟨[.val t29,.val t2],[⟨t52,[false,false,false],none⟩,⟨t4,[false],none⟩],fun x=>Qza x.1 x.2.1⟩
theorem Qyr:GD 98 Zfy:=fnk 1 (fo [[0,1,4],[0,4,6,7],[0,4,6,15],[4,5],[4,5]]) (Qjy Z7o Qk3) Tryz.func98
noncomputable def Zcs (l_0:Qlv) (id_1 inc_2:Int):Option ((Bool × Unit) × Unit):=
 Option.bind (Qza l_0 id_1) fun r1=>
 bif r1.1.2.1 then
  some ((decide (r1.1.1.2.1>inc_2),()),())
 else
  some ((false,()),())
noncomputable def Zod:Ent:=⟨[.val t29,.val t2,.val t2],[⟨t4,[false],none⟩],fun x=>Zcs x.1 x.2.1 x.2.2.1⟩
theorem Zbk:GD 90 Zod:=fnk 1 (fr [[0,1,2,17,0,20],[2,7,8,17,0,20],[6]]) (Qjy Qyr Qk3) Tryz.func90
noncomputable def Qx2 (n_0:Qxp) (step_1:Int):Option (Unit × (Qxp × Unit)):=
 some ((),(((u11 (u9 (u6 (u4 (u3 n_0.1 0) 0) []) 0) step_1),n_0.2),()))
noncomputable def Zfw:Ent:=⟨[.box 141 Zoq (nF 13++[true]),.val t2],[],fun x=>Qx2 x.1 x.2.1⟩
theorem Qx3:GD 91 Zfw:=fnk 1 (fo [[0]]) Qk3 Tryz.func91
noncomputable def Zch (t_0:Qvr):Option ((Bool × Unit) × Unit):=
 bif t_0.1==1 then
  some ((true,()),())
 else
 bif (g3 t_0) != 0 then
  some ((decide (IntKind.wrap .i64 (t_0.2.2.1 - (g8 t_0))≤20),()),())
 else
  some ((false,()),())
noncomputable def Zm3:Ent:=⟨[.val t30],[⟨t4,[false],none⟩],fun x=>Zch x.1⟩
theorem Zhm:GD 111 Zm3:=fnk 1 (fr [[1,7,0,17],[2]]) Qk3 Tryz.func111
noncomputable def Zcr (p_0:List Int) (id_1:Int):Option ((Bool × Unit) × Unit):=
 Option.bind (Qq7 p_0 id_1) fun r1=>
 some ((r1.1.1,()),())
noncomputable def Zo7:Ent:=⟨[.val t28,.val t2],[⟨t4,[false],none⟩],fun x=>Zcr x.1 x.2.1⟩
theorem Zji:GD 181 Zo7:=fnk 1 (fo [[0,1],[4]]) (Qjy Qw8 Qk3) Tryz.func181
noncomputable def Z0s (n_0:Qxp) (id_1:Int):Option ((Bool × Unit) × (Qxp × Unit)):=
 bif n_0.1.1==1 then
  Option.bind (Qza (h12 n_0.1) id_1) fun r1=>
  Option.bind (Zch n_0.1) fun r2=>
  bif r2.1.1 then
   Option.bind (Zcr (g6 n_0.1) id_1) fun r3=>
   bif !r3.1.1 then
    bif r1.1.2.1 then
     some ((true,()),(n_0,()))
    else
     some ((decide (((h12 n_0.1).length:Int)<8),()),(n_0,()))
   else
    some ((false,()),(n_0,()))
  else
   some ((false,()),(n_0,()))
 else
  Option.bind (Qza (h12 n_0.1) id_1) fun r4=>
  Option.bind (Zch n_0.1) fun r5=>
  bif r5.1.1 then
   Option.bind (Zcr (g6 n_0.1) id_1) fun r6=>
   bif !r6.1.1 then
    bif r4.1.2.1 then
     some ((true,()),(n_0,()))
    else
     some ((decide (((h12 n_0.1).length:Int)<3),()),(n_0,()))
   else
    some ((false,()),(n_0,()))
  else
   some ((false,()),(n_0,()))
noncomputable def Zhl:Ent:=⟨[.box 141 Zoq (nF 13++[true]),.val t2],[⟨t4,[false],none⟩],fun x=>Z0s x.1 x.2.1⟩
theorem Zbr:GD 152 Zhl:=fnk 1 (fr [[0,1,30,0,37,40,0,50],[0,1,5,30,0,37,40,0,50],[0,1,5,13,30,0,37,40,0,50],[0,1,5,30,0,37,40,0,50],[0,1,5,7,30,0,37,40,0,50],[0,4]]) (Qjy Qyr (Qjy Zhm (Qjy Zji Qk3))) Tryz.func152
noncomputable def Qui (n_0:Qxp) (kind_1 to_2 lo_3:Int):Option (Unit × (Qxp × Unit)):=
 Option.bind (Qnm (g6 n_0.1)) fun r1=>
 bif Nat.ble (n_0.2.length+1) 1073741824 then
  some ((),((n_0.1,n_0.2++[(kind_1,n_0.1.1,to_2,n_0.1.2.1,(g7 n_0.1),IntKind.wrap .i64 (n_0.1.2.2.1 - (g8 n_0.1)),r1.1.1,lo_3,0,(⟨#[]⟩:ByteArray))]),()))
 else none
noncomputable def Ql0 (n_0:Qxp) (kind_1 to_2 lo_3:Int):Option (Unit × (Qxp × Unit)):=
 bif kind_1==2 then
  Qui n_0 kind_1 to_2 lo_3
 else
 bif kind_1==5 then
  Qui n_0 kind_1 to_2 lo_3
 else
 bif Nat.ble (n_0.2.length+1) 1073741824 then
  some ((),((n_0.1,n_0.2++[(kind_1,n_0.1.1,to_2,n_0.1.2.1,0,0,[],lo_3,0,(⟨#[]⟩:ByteArray))]),()))
 else none
noncomputable def Zfh:Ent:=⟨[.box 141 Zoq (nF 13++[true]),.val t2,.val t2,.val t2],[],fun x=>Ql0 x.1 x.2.1 x.2.2.1 x.2.2.2.1⟩
theorem Qsf:GD 142 Zfh:=fnk 1 (fo [[0,1,8,26,27],[0,8,28],[0,8],[0]]) (Qjy Qqy Qk3) Tryz.func142
noncomputable def Z1h:Ctx:=[(203,Qjh)]
def Qzu:Fi:={ keep:=[],vty:=[],vals:=[],live:=[(0,[0,1,2]),(1,[0,1,2]),(2,[0,1,2,7]),(3,[0,1,2,7,16]),(4,[6]),(5,[0,1,2,7,8]),(6,[0,1,2,7,8,22]),(7,[6]),(8,[0,1,2,7,8,31]),(9,[0,1,2,7,9]),(10,[0,1,7,9]),(11,[9]),(12,[6]),(13,[0,1,2,7,8]),(14,[0,1,2,7,8,68]),(15,[0,1,2]),(16,[0]),(17,[6]),(18,[0,1,7]),(19,[0]),(20,[6])] }
noncomputable def Z2e (c:Nat) (s_0:Qlv) (i_1:Int) (v_2:Qlv):Option ((Qlv × Unit) × Unit):=
 bif (decide (0≤i_1)&&decide (i_1≤((s_0.length:Nat):Int)))&&decide (((s_0.length:Nat):Int)≤((((List.map some s_0++List.replicate c none).length) - 0:Nat):Int)) then
  bif (v_2.length:Int)==0 then
   bif Nat.ble s_0.length ((List.map some s_0++List.replicate c none).length) then
    Option.bind (Qd (List.take s_0.length (List.map some s_0++List.replicate c none))) fun (z1:Qlv)=>
    some ((z1,()),())
   else none
  else
  bif i_1==((s_0.length:Nat):Int) then
   bif Nat.ble (0+s_0.length) ((List.map some s_0++List.replicate c none).length) then
    bif Nat.ble (s_0.length+v_2.length) ((List.map some s_0++List.replicate c none).length) then
     bif Nat.ble (s_0.length+v_2.length) ((Q6 (List.map some s_0++List.replicate c none) s_0.length v_2).length) then
      Option.bind (Qd (List.take (s_0.length+v_2.length) (Q6 (List.map some s_0++List.replicate c none) s_0.length v_2))) fun (z2:Qlv)=>
      some ((z2,()),())
     else none
    else
    bif Nat.ble (s_0.length+v_2.length) 1073741824 then
     Option.bind (Qd (List.take s_0.length (List.map some s_0++List.replicate c none))) fun (z3:Qlv)=>
     some ((z3++v_2,()),())
    else none
   else none
  else
  bif Nat.ble (0+s_0.length) ((List.map some s_0++List.replicate c none).length) then
   bif decide (IntKind.wrap .i64 (((s_0.length:Nat):Int)+(v_2.length:Int))>((((List.map some s_0++List.replicate c none).length) - 0:Nat):Int)) then
    bif decide (0≤i_1)&&decide (i_1≤((((List.map some s_0++List.replicate c none).length) - 0:Nat):Int)) then
     bif Nat.ble (0+((i_1 - 0).toNat)) ((List.map some s_0++List.replicate c none).length) then
      bif decide (0<IntKind.wrap .i64 ((IntKind.wrap .i64 (((s_0.length:Nat):Int)+(v_2.length:Int))) - i_1))&&true&&Nat.blt ((List.map some s_0++List.replicate c none).length) (((i_1 - 0).toNat)+((List.replicate ((IntKind.wrap .i64 ((IntKind.wrap .i64 (((s_0.length:Nat):Int)+(v_2.length:Int))) - i_1)).toNat) ((0,0,0):Qyn)).length))&&Nat.ble (((List.map some s_0++List.replicate c none).length)+((List.replicate ((IntKind.wrap .i64 ((IntKind.wrap .i64 (((s_0.length:Nat):Int)+(v_2.length:Int))) - i_1)).toNat) ((0,0,0):Qyn)).length)) 536870912 then
       bif (decide (0≤i_1)&&decide (i_1≤((((i_1 - 0).toNat)+((List.replicate ((IntKind.wrap .i64 ((IntKind.wrap .i64 (((s_0.length:Nat):Int)+(v_2.length:Int))) - i_1)).toNat) ((0,0,0):Qyn)).length):Nat):Int)))&&decide (((((i_1 - 0).toNat)+((List.replicate ((IntKind.wrap .i64 ((IntKind.wrap .i64 (((s_0.length:Nat):Int)+(v_2.length:Int))) - i_1)).toNat) ((0,0,0):Qyn)).length):Nat):Int)≤((((List.take ((i_1 - 0).toNat) (List.map some s_0++List.replicate c none)++List.map some (List.replicate ((IntKind.wrap .i64 ((IntKind.wrap .i64 (((s_0.length:Nat):Int)+(v_2.length:Int))) - i_1)).toNat) ((0,0,0):Qyn))).length) - 0:Nat):Int)) then
        bif Nat.ble ((0+i_1.toNat)+((((((i_1 - 0).toNat)+((List.replicate ((IntKind.wrap .i64 ((IntKind.wrap .i64 (((s_0.length:Nat):Int)+(v_2.length:Int))) - i_1)).toNat) ((0,0,0):Qyn)).length):Nat):Int) - i_1).toNat)) ((List.take ((i_1 - 0).toNat) (List.map some s_0++List.replicate c none)++List.map some (List.replicate ((IntKind.wrap .i64 ((IntKind.wrap .i64 (((s_0.length:Nat):Int)+(v_2.length:Int))) - i_1)).toNat) ((0,0,0):Qyn))).length) then
         bif (decide (0≤IntKind.wrap .i64 (i_1+(v_2.length:Int)))&&decide (IntKind.wrap .i64 (i_1+(v_2.length:Int))≤((((i_1 - 0).toNat)+((List.replicate ((IntKind.wrap .i64 ((IntKind.wrap .i64 (((s_0.length:Nat):Int)+(v_2.length:Int))) - i_1)).toNat) ((0,0,0):Qyn)).length):Nat):Int)))&&decide (((((i_1 - 0).toNat)+((List.replicate ((IntKind.wrap .i64 ((IntKind.wrap .i64 (((s_0.length:Nat):Int)+(v_2.length:Int))) - i_1)).toNat) ((0,0,0):Qyn)).length):Nat):Int)≤((((Q6 (List.take ((i_1 - 0).toNat) (List.map some s_0++List.replicate c none)++List.map some (List.replicate ((IntKind.wrap .i64 ((IntKind.wrap .i64 (((s_0.length:Nat):Int)+(v_2.length:Int))) - i_1)).toNat) ((0,0,0):Qyn))) (0+i_1.toNat) (List.take ((((((i_1 - 0).toNat)+((List.replicate ((IntKind.wrap .i64 ((IntKind.wrap .i64 (((s_0.length:Nat):Int)+(v_2.length:Int))) - i_1)).toNat) ((0,0,0):Qyn)).length):Nat):Int) - i_1).toNat) v_2)).length) - 0:Nat):Int)) then
          bif (decide (0≤i_1)&&decide (i_1≤((s_0.length:Nat):Int)))&&decide (((s_0.length:Nat):Int)≤((((List.map some s_0++List.replicate c none).length) - 0:Nat):Int)) then
           bif Nat.ble ((0+((IntKind.wrap .i64 (i_1+(v_2.length:Int))).toNat))+((((((i_1 - 0).toNat)+((List.replicate ((IntKind.wrap .i64 ((IntKind.wrap .i64 (((s_0.length:Nat):Int)+(v_2.length:Int))) - i_1)).toNat) ((0,0,0):Qyn)).length):Nat):Int) - (IntKind.wrap .i64 (i_1+(v_2.length:Int)))).toNat)) ((Q6 (List.take ((i_1 - 0).toNat) (List.map some s_0++List.replicate c none)++List.map some (List.replicate ((IntKind.wrap .i64 ((IntKind.wrap .i64 (((s_0.length:Nat):Int)+(v_2.length:Int))) - i_1)).toNat) ((0,0,0):Qyn))) (0+i_1.toNat) (List.take ((((((i_1 - 0).toNat)+((List.replicate ((IntKind.wrap .i64 ((IntKind.wrap .i64 (((s_0.length:Nat):Int)+(v_2.length:Int))) - i_1)).toNat) ((0,0,0):Qyn)).length):Nat):Int) - i_1).toNat) v_2)).length) then
            bif Nat.ble ((0+i_1.toNat)+((((s_0.length:Nat):Int) - i_1).toNat)) ((List.map some s_0++List.replicate c none).length) then
            Option.bind (Qd (List.take (min ((((((i_1 - 0).toNat)+((List.replicate ((IntKind.wrap .i64 ((IntKind.wrap .i64 (((s_0.length:Nat):Int)+(v_2.length:Int))) - i_1)).toNat) ((0,0,0):Qyn)).length):Nat):Int) - (IntKind.wrap .i64 (i_1+(v_2.length:Int)))).toNat) ((((s_0.length:Nat):Int) - i_1).toNat)) (List.drop (0+i_1.toNat) (List.map some s_0++List.replicate c none)))) fun (z4:Qlv)=>
            bif Nat.ble (((i_1 - 0).toNat)+((List.replicate ((IntKind.wrap .i64 ((IntKind.wrap .i64 (((s_0.length:Nat):Int)+(v_2.length:Int))) - i_1)).toNat) ((0,0,0):Qyn)).length)) ((Q6 (Q6 (List.take ((i_1 - 0).toNat) (List.map some s_0++List.replicate c none)++List.map some (List.replicate ((IntKind.wrap .i64 ((IntKind.wrap .i64 (((s_0.length:Nat):Int)+(v_2.length:Int))) - i_1)).toNat) ((0,0,0):Qyn))) (0+i_1.toNat) (List.take ((((((i_1 - 0).toNat)+((List.replicate ((IntKind.wrap .i64 ((IntKind.wrap .i64 (((s_0.length:Nat):Int)+(v_2.length:Int))) - i_1)).toNat) ((0,0,0):Qyn)).length):Nat):Int) - i_1).toNat) v_2)) (0+((IntKind.wrap .i64 (i_1+(v_2.length:Int))).toNat)) z4).length) then
            Option.bind (Qd (List.take (((i_1 - 0).toNat)+((List.replicate ((IntKind.wrap .i64 ((IntKind.wrap .i64 (((s_0.length:Nat):Int)+(v_2.length:Int))) - i_1)).toNat) ((0,0,0):Qyn)).length)) (Q6 (Q6 (List.take ((i_1 - 0).toNat) (List.map some s_0++List.replicate c none)++List.map some (List.replicate ((IntKind.wrap .i64 ((IntKind.wrap .i64 (((s_0.length:Nat):Int)+(v_2.length:Int))) - i_1)).toNat) ((0,0,0):Qyn))) (0+i_1.toNat) (List.take ((((((i_1 - 0).toNat)+((List.replicate ((IntKind.wrap .i64 ((IntKind.wrap .i64 (((s_0.length:Nat):Int)+(v_2.length:Int))) - i_1)).toNat) ((0,0,0):Qyn)).length):Nat):Int) - i_1).toNat) v_2)) (0+((IntKind.wrap .i64 (i_1+(v_2.length:Int))).toNat)) z4))) fun (z5:Qlv)=>
            some ((z5,()),())
            else none
            else none
           else none
          else none
         else none
        else none
       else none
      else none
     else none
    else none
   else
   bif decide (0≤IntKind.wrap .i64 (((s_0.length:Nat):Int)+(v_2.length:Int)))&&decide (IntKind.wrap .i64 (((s_0.length:Nat):Int)+(v_2.length:Int))≤((((List.map some s_0++List.replicate c none).length) - 0:Nat):Int)) then
    bif (decide (0≤IntKind.wrap .i64 (i_1+(v_2.length:Int)))&&decide (IntKind.wrap .i64 (i_1+(v_2.length:Int))≤((((IntKind.wrap .i64 (((s_0.length:Nat):Int)+(v_2.length:Int))) - 0).toNat:Nat):Int)))&&decide (((((IntKind.wrap .i64 (((s_0.length:Nat):Int)+(v_2.length:Int))) - 0).toNat:Nat):Int)≤((((List.map some s_0++List.replicate c none).length) - 0:Nat):Int)) then
     bif (decide (0≤IntKind.wrap .i64 (i_1+(v_2.length:Int)))&&decide (IntKind.wrap .i64 (i_1+(v_2.length:Int))≤((((IntKind.wrap .i64 (((s_0.length:Nat):Int)+(v_2.length:Int))) - 0).toNat:Nat):Int)))&&decide (((((IntKind.wrap .i64 (((s_0.length:Nat):Int)+(v_2.length:Int))) - 0).toNat:Nat):Int)≤((((List.map some s_0++List.replicate c none).length) - 0:Nat):Int)) then
      bif (decide (0≤i_1)&&decide (i_1≤((((IntKind.wrap .i64 (((s_0.length:Nat):Int)+(v_2.length:Int))) - 0).toNat:Nat):Int)))&&decide (((((IntKind.wrap .i64 (((s_0.length:Nat):Int)+(v_2.length:Int))) - 0).toNat:Nat):Int)≤((((List.map some s_0++List.replicate c none).length) - 0:Nat):Int)) then
       bif Nat.ble ((0+((IntKind.wrap .i64 (i_1+(v_2.length:Int))).toNat))+((((((IntKind.wrap .i64 (((s_0.length:Nat):Int)+(v_2.length:Int))) - 0).toNat:Nat):Int) - (IntKind.wrap .i64 (i_1+(v_2.length:Int)))).toNat)) ((List.map some s_0++List.replicate c none).length) then
        bif Nat.ble ((0+i_1.toNat)+((((((IntKind.wrap .i64 (((s_0.length:Nat):Int)+(v_2.length:Int))) - 0).toNat:Nat):Int) - i_1).toNat)) ((List.map some s_0++List.replicate c none).length) then
         Option.bind (Qd (List.take (min ((((((IntKind.wrap .i64 (((s_0.length:Nat):Int)+(v_2.length:Int))) - 0).toNat:Nat):Int) - (IntKind.wrap .i64 (i_1+(v_2.length:Int)))).toNat) ((((((IntKind.wrap .i64 (((s_0.length:Nat):Int)+(v_2.length:Int))) - 0).toNat:Nat):Int) - i_1).toNat)) (List.drop (0+i_1.toNat) (List.map some s_0++List.replicate c none)))) fun (z6:Qlv)=>
         bif (decide (0≤i_1)&&decide (i_1≤((((IntKind.wrap .i64 (((s_0.length:Nat):Int)+(v_2.length:Int))) - 0).toNat:Nat):Int)))&&decide (((((IntKind.wrap .i64 (((s_0.length:Nat):Int)+(v_2.length:Int))) - 0).toNat:Nat):Int)≤((((Q6 (List.map some s_0++List.replicate c none) (0+((IntKind.wrap .i64 (i_1+(v_2.length:Int))).toNat)) z6).length) - 0:Nat):Int)) then
          bif Nat.ble ((0+i_1.toNat)+((((((IntKind.wrap .i64 (((s_0.length:Nat):Int)+(v_2.length:Int))) - 0).toNat:Nat):Int) - i_1).toNat)) ((Q6 (List.map some s_0++List.replicate c none) (0+((IntKind.wrap .i64 (i_1+(v_2.length:Int))).toNat)) z6).length) then
           bif Nat.ble (((IntKind.wrap .i64 (((s_0.length:Nat):Int)+(v_2.length:Int))) - 0).toNat) ((Q6 (Q6 (List.map some s_0++List.replicate c none) (0+((IntKind.wrap .i64 (i_1+(v_2.length:Int))).toNat)) z6) (0+i_1.toNat) (List.take ((((((IntKind.wrap .i64 (((s_0.length:Nat):Int)+(v_2.length:Int))) - 0).toNat:Nat):Int) - i_1).toNat) v_2)).length) then
            Option.bind (Qd (List.take (((IntKind.wrap .i64 (((s_0.length:Nat):Int)+(v_2.length:Int))) - 0).toNat) (Q6 (Q6 (List.map some s_0++List.replicate c none) (0+((IntKind.wrap .i64 (i_1+(v_2.length:Int))).toNat)) z6) (0+i_1.toNat) (List.take ((((((IntKind.wrap .i64 (((s_0.length:Nat):Int)+(v_2.length:Int))) - 0).toNat:Nat):Int) - i_1).toNat) v_2)))) fun (z7:Qlv)=>
            some ((z7,()),())
           else none
          else none
         else none
        else none
       else none
      else none
     else none
    else none
   else none
  else none
 else none
theorem Z74 (c:Nat) (s_0:Qlv) (i_1:Int) (v_2:Qlv):Qde Z1h tab { Qzu with cap:=c } 1 [.ownc 53 t52,.val t2,.own 53 t52] [⟨t29,[true],none⟩] Tryz.f203 (s_0,i_1,v_2,())=Z2e c s_0 i_1 v_2:=by kernel_rfl
theorem Z7i (c:Nat) (s_0:Qlv) (i_1:Int) (v_2:Qlv):Z2e c s_0 i_1 v_2=Qei ((0,0,0):Qyn) c s_0 i_1 v_2:=by kernel_rfl
noncomputable def Qye (s_0:Qlv) (i_1:Int) (v_2:Qlv):Option ((Qlv × Unit) × Unit):=Qeg s_0 i_1 v_2
noncomputable def Zb6:Ent:=⟨[.ownc 53 t52,.val t2,.own 53 t52],[⟨t29,[true],none⟩],fun x=>Qye x.1 x.2.1 x.2.2.1⟩
theorem Z7e:Q4u tab.ty Tryz.prog 203 Zb6:=by
  refine Qgs (Γ:=Z1h) (fi:=Qzu) (n:=1) follows (Qjy (Qjx Tryz.func203 (by kernel_rfl) (by kernel_rfl)) Qk3) Zhh Tryz.func203 (by kernel_rfl) (by kernel_rfl) (fun c x r hc h=>?_)
  obtain ⟨s_0,i_1,v_2,_u⟩:=x
  exact (Z74 c s_0 i_1 v_2).trans ((Z7i c s_0 i_1 v_2).trans (Qin ((0,0,0):Qyn) c s_0 i_1 v_2 r hc h))
noncomputable def Z7v (l_0:Qlv) (k_1:Qyn):Option ((Qlv × Bool × Unit) × Unit):=
 Option.bind (Qnk l_0) fun r1=>
 Option.bind (Zcs l_0 k_1.1 k_1.2.1) fun r2=>
 bif r2.1.1 then
  some ((r1.1.1,false,()),())
 else
  Option.bind (Z5k l_0 k_1.1) fun r3=>
  bif r3.1.2.1 then
   bif decide (0≤r3.1.1)&&decide (r3.1.1<(r1.1.1.length:Int)) then
    bif decide (0≤r3.1.1)&&decide (r3.1.1<(r1.1.1.length:Int)) then
     some ((List.set r1.1.1 r3.1.1.toNat k_1,true,()),())
    else none
   else none
  else
   Option.bind (Qye r1.1.1 r3.1.1 [k_1]) fun r4=>
   some ((r4.1.1,true,()),())
noncomputable def Zmc:Ent:=⟨[.val t29,.val t52],[⟨t29,[true],none⟩,⟨t4,[false],none⟩],fun x=>Z7v x.1 x.2.1⟩
theorem Zhu:GD 182 Zmc:=fnk 1 (fo [[0,3],[0,3,6],[0,3,6,16],[4,5],[3,6,7,8],[3,6,7,25],[6],[4,5],[4,5]]) (Qjy Qqm (Qjy Zbk (Qjy Z7o (Qjy Z7e Qk3)))) Tryz.func182
noncomputable def Qva (n_0:Qxp) (m_1:Qwl):Option (Unit × (Qxp × Unit)):=
 Option.bind (Z7v (h12 n_0.1) (m_1.2.1,(g3 m_1),n_0.1.2.2.1)) fun r1=>
 some ((),(((e12 n_0.1 r1.1.1),n_0.2),()))
noncomputable def Zfe:Ent:=⟨[.box 141 Zoq (nF 13++[true]),.val t45],[],fun x=>Qva x.1 x.2.1⟩
theorem Z1s:GD 153 Zfe:=fnk 1 (fo [[0,3],[0]]) (Qjy Zhu Qk3) Tryz.func153
noncomputable def Qu2 (n_0:Qxp) (m_1:Qwl) (lo_2:Int):Option (Unit × (Qxp × Unit)):=
 Option.bind (Z0s n_0 m_1.2.1) fun r1=>
 bif !r1.1.1 then
  Option.bind (Ql0 r1.2.1 3 m_1.2.1 0) fun r2=>
  some ((),(r2.2.1,()))
 else
  Option.bind (Qva r1.2.1 m_1) fun r3=>
  Option.bind (Ql0 r3.2.1 2 m_1.2.1 lo_2) fun r4=>
  some ((),(r4.2.1,()))
noncomputable def Zdl:Ent:=⟨[.box 141 Zoq (nF 13++[true]),.val t45,.val t2],[],fun x=>Qu2 x.1 x.2.1 x.2.2.1⟩
theorem Za9:GD 92 Zdl:=fnk 1 (fo [[0,2,4],[0,2,4,10],[0],[0,2,4],[0]]) (Qjy Qsf (Qjy Zbr (Qjy Z1s Qk3))) Tryz.func92
noncomputable def Zbn (p_0:List Int) (id_1:Int):Option (((List Int) × Bool × Unit) × Unit):=
 Option.bind (Qnm p_0) fun r1=>
 bif Nat.ble (r1.1.1.length+1) 1073741824 then
  Option.bind (Z0v (r1.1.1++[id_1])) fun r2=>
  bif !r2.1.1 then
   some (([],false,()),())
  else
   some ((r1.1.1++[id_1],true,()),())
 else none
noncomputable def Znx:Ent:=⟨[.val t28,.val t2],[⟨t28,[true],none⟩,⟨t4,[false],none⟩],fun x=>Zbn x.1 x.2.1⟩
theorem Zbs:GD 154 Znx:=fnk 1 (fo [[0,1],[6],[6,14],[4,5],[4,5]]) (Qjy Qqy (Qjy Zbv Qk3)) Tryz.func154
noncomputable def Z5f (p_0:List Int):Option ((Int × Unit) × Unit):=
 bif decide ((p_0.length:Int)<2) then
  some ((0,()),())
 else
 bif decide (0≤IntKind.wrap .i64 ((p_0.length:Int) - 2))&&decide (IntKind.wrap .i64 ((p_0.length:Int) - 2)<(p_0.length:Int)) then
  some ((List.getD p_0 ((IntKind.wrap .i64 ((p_0.length:Int) - 2)).toNat) 0,()),())
 else none
noncomputable def Zkh:Ent:=⟨[.val t28],[⟨t2,[false],none⟩],fun x=>Z5f x.1⟩
theorem Zga:GD 184 Zkh:=fnk 1 (fo [[0],[0,5],[2],[2]]) Qk3 Tryz.func184
noncomputable def Qyt (n_0:Qxp) (m_1:Qwl) (p_2:List Int):Option (Unit × (Qxp × Unit)):=
 Option.bind (Z5f (g6 m_1)) fun r1=>
 bif r1.1.1==0 then
  some ((),(((u6 (u5 n_0.1 1) p_2),n_0.2),()))
 else
  some ((),(((u6 (u5 n_0.1 r1.1.1) p_2),n_0.2),()))
noncomputable def Zhv:Ent:=⟨[.box 141 Zoq (nF 13++[true]),.val t45,.val t28],[],fun x=>Qyt x.1 x.2.1 x.2.2.1⟩
theorem Z54:GD 155 Zhv:=fnk 1 (fo [[0,2,4],[0],[0,23],[0]]) (Qjy Zga Qk3) Tryz.func155
noncomputable def Qta (n_0:Qxp) (m_1:Qwl):Option (Unit × (Qxp × Unit)):=
 Option.bind (Ql0 ((u9 n_0.1 0),n_0.2) 6 m_1.2.1 0) fun r4=>
 some ((),(((u11 r4.2.1.1 (IntKind.wrap .i64 ((g11 r4.2.1.1)+1))),r4.2.1.2),()))
noncomputable def Qtr (n_0:Qxp) (m_1:Qwl):Option (Unit × (Qxp × Unit)):=
 bif (g9 n_0.1) != m_1.2.1 then
  bif (g3 n_0.1) != m_1.2.1 then
   Option.bind (Ql0 n_0 6 m_1.2.1 0) fun r1=>
   some ((),(r1.2.1,()))
  else
   some ((),(n_0,()))
 else
 bif (g3 n_0.1) != 0 then
  bif (g3 n_0.1) != m_1.2.1 then
   Option.bind (Ql0 n_0 6 m_1.2.1 0) fun r2=>
   some ((),(r2.2.1,()))
  else
   some ((),(n_0,()))
 else
  Option.bind (Zbn (g6 m_1) n_0.1.1) fun r3=>
  bif !r3.1.2.1 then
   Qta n_0 m_1
  else
  bif decide ((g5 m_1)>20) then
   Qta n_0 m_1
  else
   Option.bind (Qyt ((u9 n_0.1 0),n_0.2) m_1 r3.1.1) fun r6=>
   some ((),(((u11 (u8 (u7 (u4 (u3 r6.2.1.1 m_1.2.1) (g3 m_1)) (g4 m_1)) (IntKind.wrap .i64 (r6.2.1.1.2.2.1 - (g5 m_1)))) 0),r6.2.1.2),()))
noncomputable def Ze2:Ent:=⟨[.box 141 Zoq (nF 13++[true]),.val t45],[],fun x=>Qtr x.1 x.2.1⟩
theorem Za4:GD 93 Ze2:=fnk 1 (fr [[0,3,15,0,20,52,0,54],[0,3,21,52,0,54],[0,3,29],[0],[0,3,52,0,54],[0,3,4,5,52,0,54],[0,3,4,55],[0],[0],[0,3],[0]]) (Qjy Qsf (Qjy Zbs (Qjy Z54 Qk3))) Tryz.func93
noncomputable def Qxj (n_0:Qxp) (m_1:Qwl):Option (Unit × (Qxp × Unit)):=
 bif m_1.2.1==(g9 n_0.1) then
  some ((),(((u11 (u9 n_0.1 0) (IntKind.wrap .i64 ((g11 n_0.1)+1))),n_0.2),()))
 else
 bif m_1.2.1==(g3 n_0.1) then
  Option.bind (Qx2 n_0 0) fun r1=>
  some ((),(r1.2.1,()))
 else
  some ((),(n_0,()))
noncomputable def Zdq:Ent:=⟨[.box 141 Zoq (nF 13++[true]),.val t45],[],fun x=>Qxj x.1 x.2.1⟩
theorem Z9s:GD 94 Zdq:=fnk 1 (fo [[0,3],[0,5],[0,5,6],[0],[0],[0,26],[0]]) (Qjy Qx3 Qk3) Tryz.func94
noncomputable def Qtm (n_0:Qxp) (m_1:Qwl):Option (Unit × (Qxp × Unit)):=
 Option.bind (Qza (h12 n_0.1) m_1.2.1) fun r1=>
 bif r1.1.2.1 then
  Option.bind (Qva n_0 m_1) fun r2=>
  some ((),(r2.2.1,()))
 else
  Option.bind (Ql0 n_0 3 m_1.2.1 0) fun r3=>
  some ((),(r3.2.1,()))
noncomputable def Zdn:Ent:=⟨[.box 141 Zoq (nF 13++[true]),.val t45],[],fun x=>Qtm x.1 x.2.1⟩
theorem Zac:GD 95 Zdn:=fnk 1 (fo [[0,3],[0,3,5],[0,3,17],[0],[0]]) (Qjy Qyr (Qjy Qsf (Qjy Z1s Qk3))) Tryz.func95
noncomputable def Qws (n_0:Qxp) (m_1:Qwl):Option (Unit × (Qxp × Unit)):=
 bif m_1.2.1 != (g3 n_0.1) then
  Option.bind (Ql0 n_0 6 m_1.2.1 0) fun r1=>
  some ((),(r1.2.1,()))
 else
  Option.bind (Zbn (g6 m_1) n_0.1.1) fun r2=>
  bif !r2.1.2.1 then
   Option.bind (Ql0 n_0 6 m_1.2.1 0) fun r3=>
   Option.bind (Qx2 r3.2.1 1) fun r4=>
   some ((),(r4.2.1,()))
  else
   Option.bind (Qyt n_0 m_1 r2.1.1) fun r5=>
   bif decide (IntKind.wrap .i64 (r5.2.1.1.2.2.1 - (g5 m_1))>(g8 r5.2.1.1)) then
    some ((),(((u8 (u7 r5.2.1.1 (g4 m_1)) (IntKind.wrap .i64 (r5.2.1.1.2.2.1 - (g5 m_1)))),r5.2.1.2),()))
   else
    some ((),(r5.2.1,()))
noncomputable def Zea:Ent:=⟨[.box 141 Zoq (nF 13++[true]),.val t45],[],fun x=>Qws x.1 x.2.1⟩
theorem Zaa:GD 96 Zea:=fnk 1 (fo [[0,3],[0,3,13],[0],[0,3,4,5],[0,3,4,30],[0],[0],[0,3],[0,3,54],[0]]) (Qjy Qx3 (Qjy Qsf (Qjy Zbs (Qjy Z54 Qk3)))) Tryz.func96
abbrev Qmr:Type:=(Int × Unit) × Unit
noncomputable def Z73:Ctx:=[]
def Qx7:Fi:=fo [[0,1],[0,1,7,8],[0,1,7,8,9],[0,1,5,7,8],[0,1,5,7,8,16],[4],[0,1,7,8],[4]]
abbrev Qsa:Type:=Qlv→(Qyn × Unit→Option (Bool × Unit))→Int→Int→Option Qmr
noncomputable def Qm9 (L1:Qsa) (v1:Qlv) (v2:(Qyn × Unit→Option (Bool × Unit))) (v3 v4:Int):Option Qmr:=
 bif decide (v4<v3) then
  bif decide (0≤v4)&&decide (v4<(v1.length:Int)) then
   Option.bind (v2 ((List.getD v1 v4.toNat (0,0,0)),())) fun r5=>
   bif r5.1 then
    some ((v4,()),())
   else
    L1 v1 v2 v3 (IntKind.wrap .i64 (v4+1))
  else none
 else
  some (((-1),()),())
noncomputable def Qxs (L1:Qsa) (s_0:Qlv) (f_1:(Qyn × Unit→Option (Bool × Unit))):Option Qmr:=
 L1 s_0 f_1 (s_0.length:Int) 0
noncomputable def Qlb (n:Nat):Nat→Qsa:=iter (fun _ _ _ _=>none) fun L=>Qm9 L
noncomputable def Qpm (n m:Nat) (v1:Qlv) (v2:(Qyn × Unit→Option (Bool × Unit))) (v3 v4:Int):Option Qmr:=
 Qjv Z73 tab (fiB [.val t29,.fn [t52] [t4]] Qx7) n [.val t29,.fn [t52] [t4]] [⟨t2,[false],none⟩] Tryz.f185 [1,0,1,0] [] [0,1,7,8] m
 ⟨[(0,Vp t29 v1),(1,V1 (.clo [t52] [t4] v2)),(7,Vp t2 v3),(8,Vp t2 v4)],[]⟩
theorem Qwj (n:Nat):∀ m,Qpm n m=Qlb n m
 | 0=>rfl
 | m+1=>by rw [show Qpm n (m+1)=Qm9 (Qpm n m) from by kernel_rfl,Qwj n m];rfl
noncomputable def Qy8 (n:Nat) (s_0:Qlv) (f_1:(Qyn × Unit→Option (Bool × Unit))):Option Qmr:=Qxs (Qlb n n) s_0 f_1
noncomputable def Quu (s_0:Qlv) (f_1:(Qyn × Unit→Option (Bool × Unit))):Option Qmr:=Qy8 1099511627776 s_0 f_1
noncomputable def Qxw:Ent:=⟨[.val t29,.fn [t52] [t4]],[⟨t2,[false],none⟩],fun x=>Quu x.1 x.2.1⟩
theorem Z48:GD 185 Qxw:=fnl Qx7 (fun n x=>Qy8 n x.1 x.2.1) Qk3 Tryz.func185 fun n x=>Eq.trans (b:=Qxs (Qpm n n) x.1 x.2.1) (by kernel_rfl) (by rw [Qwj n n];rfl)
abbrev Qmc:Type:=(Qlv × Unit) × Unit
noncomputable def Z6e:Ctx:=[(156,Qjh),(185,Qxw)]
def Qw3:Fi:={ keep:=[],vty:=[],vals:=[],live:=[(0,[0,1]),(1,[0,1,5]),(2,[0,1,5,12]),(3,[4]),(4,[0,1,5,6]),(5,[0,1,5,6,19]),(6,[0,1,5,6]),(7,[0,1,5,6,7]),(8,[0,1,5,6,7,29]),(9,[0,1,5,6]),(10,[0,1,5,6]),(11,[0,5]),(12,[4])],melt:=[(11,1000000),(12,1000000)] }
abbrev Qrt:Type:=(Qyn × Unit→Option (Bool × Unit))→Int→Int→Qlv→Option Qmc
noncomputable def Qlu (L1:Qrt) (v2:(Qyn × Unit→Option (Bool × Unit))) (v3 v4:Int) (v5:Qlv):Option Qmc:=
 bif decide (v4<(v5.length:Int)) then
  bif decide (0≤v4)&&decide (v4<(v5.length:Int)) then
   bif decide (0≤v4)&&decide (v4<(v5.length:Int)) then
    Option.bind (v2 ((List.getD v5 v4.toNat (0,0,0)),())) fun r6=>
    bif !r6.1 then
     bif decide (0≤v3)&&decide (v3<(v5.length:Int)) then
      bif decide (0≤v3)&&decide (v3<(v5.length:Int)) then
       L1 v2 (IntKind.wrap .i64 (v3+1)) (IntKind.wrap .i64 (v4+1)) (List.set v5 v3.toNat (List.getD v5 v4.toNat (0,0,0)))
      else none
     else none
    else
     L1 v2 v3 (IntKind.wrap .i64 (v4+1)) v5
   else none
  else none
 else
 bif (decide (0≤v3)&&decide (v3≤((v5.length:Nat):Int)))&&decide (((v5.length:Nat):Int)≤(((List.map some v5).length:Nat):Int)) then
  bif Nat.ble ((0+v3.toNat)+((((v5.length:Nat):Int) - v3).toNat)) ((List.map some v5).length) then
   bif decide (0≤v3)&&decide (v3≤(((Q6 (List.map some v5) (0+v3.toNat) (List.replicate ((((v5.length:Nat):Int) - v3).toNat) ((0,0,0):Qyn))).length:Nat):Int)) then
    bif Nat.ble ((v3 - 0).toNat) ((Q6 (List.map some v5) (0+v3.toNat) (List.replicate ((((v5.length:Nat):Int) - v3).toNat) ((0,0,0):Qyn))).length) then
     Option.bind (Qd (List.take ((v3 - 0).toNat) (Q6 (List.map some v5) (0+v3.toNat) (List.replicate ((((v5.length:Nat):Int) - v3).toNat) ((0,0,0):Qyn))))) fun z7=>
     some ((z7,()),())
    else none
   else none
  else none
 else none
noncomputable def Qpi (L1:Qrt) (s_0:Qlv) (del_1:(Qyn × Unit→Option (Bool × Unit))):Option Qmc:=
 Option.bind (Quu s_0 del_1) fun r1=>
 bif r1.1.1==(-1) then
  some ((s_0,()),())
 else
  L1 del_1 r1.1.1 (IntKind.wrap .i64 (r1.1.1+1)) s_0
noncomputable def Qm0 (n:Nat):Nat→Qrt:=iter (fun _ _ _ _=>none) fun L=>Qlu L
noncomputable def Qof (n m:Nat) (v2:(Qyn × Unit→Option (Bool × Unit))) (v3 v4:Int) (v5:Qlv):Option Qmc:=
 Qjv Z6e tab (fiB [.own 53 t52,.fn [t52] [t4]] Qw3) n [.own 53 t52,.fn [t52] [t4]] [⟨t29,[true],none⟩] Tryz.f156 [1,1,1,0,1,0] [] [0,1,5,6] m
 ⟨[(0,V1 (.ref (888888,0))),(1,V1 (.clo [t52] [t4] v2)),(5,Vp t2 v3),(6,Vp t2 v4)],[((888888,0),Ob.row 53 t52 v5)]⟩
theorem Qv7 (n:Nat):∀ m,Qof n m=Qm0 n m
 | 0=>rfl
 | m+1=>by rw [show Qof n (m+1)=Qlu (Qof n m) from by kernel_rfl,Qv7 n m];rfl
noncomputable def Qx8 (n:Nat) (s_0:Qlv) (del_1:(Qyn × Unit→Option (Bool × Unit))):Option Qmc:=Qpi (Qm0 n n) s_0 del_1
noncomputable def Qtp (s_0:Qlv) (del_1:(Qyn × Unit→Option (Bool × Unit))):Option Qmc:=Qx8 1099511627776 s_0 del_1
noncomputable def Z67:Ent:=⟨[.own 53 t52,.fn [t52] [t4]],[⟨t29,[true],none⟩],fun x=>Qtp x.1 x.2.1⟩
theorem Z2m:GD 156 Z67:=fnl Qw3 (fun n x=>Qx8 n x.1 x.2.1) (Qjy (Qjx Tryz.func156 (by kernel_rfl) (by kernel_rfl)) (Qjy Z48 Qk3)) Tryz.func156 fun n x=>Eq.trans (b:=Qpi (Qof n n) x.1 x.2.1) (by kernel_rfl) (by rw [Qv7 n n];rfl)
noncomputable def Zd2 (k_0:Qyn) (x_1:Int):Option ((Bool × Unit) × Unit):=
 some ((k_0.1==x_1,()),())
noncomputable def Zge:Ent:=⟨[.val t52,.rbox t2],[⟨t4,[false],none⟩],fun x=>Zd2 x.1 x.2.1⟩
theorem Zcf:GD 157 Zge:=fnk 1 (fo [[1,2],[3]]) Qk3 Tryz.func157
noncomputable def Z86 (l_0:Qlv) (id_1:Int):Option ((Qlv × Unit) × Unit):=
 Option.bind (Qnk l_0) fun r1=>
 Option.bind (Qtp r1.1.1 (fun x=>(Zd2 x.1 id_1).bind fun r=>some (r.1.1,()))) fun r2=>
 some ((r2.1.1,()),())
noncomputable def Zlt:Ent:=⟨[.val t29,.val t2],[⟨t29,[true],none⟩],fun x=>Z86 x.1 x.2.1⟩
theorem Zhr:GD 97 Zlt:=fnk 1 (fo [[0,3],[4]]) (Qjy Qqm (Qjy Z2m (Qjy Zcf Qk3))) Tryz.func97
noncomputable def Qqq (m_1:Qwl) (r1:(Qxp × Unit) × Unit) (lo_2:Int):Option ((Qvr × Qzk × Unit) × Unit):=
 bif m_1.1==1 then
  Option.bind (Qu2 r1.1.1 m_1 lo_2) fun r10=>
  some ((r10.2.1.1,r10.2.1.2,()),())
 else
 bif m_1.1==2 then
  Option.bind (Qtr r1.1.1 m_1) fun r11=>
  some ((r11.2.1.1,r11.2.1.2,()),())
 else
 bif m_1.1==3 then
  Option.bind (Qxj r1.1.1 m_1) fun r12=>
  some ((r12.2.1.1,r12.2.1.2,()),())
 else
 bif m_1.1==4 then
  Option.bind (Qtm r1.1.1 m_1) fun r13=>
  some ((r13.2.1.1,r13.2.1.2,()),())
 else
 bif m_1.1==5 then
  Option.bind (Qws r1.1.1 m_1) fun r14=>
  some ((r14.2.1.1,r14.2.1.2,()),())
 else
 bif m_1.1==6 then
  Option.bind (Z86 (h12 r1.1.1.1) m_1.2.1) fun r15=>
  some (((e12 r1.1.1.1 r15.1.1),r1.1.1.2,()),())
 else
  some ((r1.1.1.1,r1.1.1.2,()),())
noncomputable def Z7w (r1:(Qxp × Unit) × Unit) (m_1:Qwl) (lo_2:Int):Option ((Qvr × Qzk × Unit) × Unit):=
 bif (g3 r1.1.1.1) != 0 then
  bif m_1.2.1==(g3 r1.1.1.1) then
   bif decide ((g3 m_1)>(g4 r1.1.1.1)) then
    Option.bind (Qx2 r1.1.1 0) fun r3=>
    bif m_1.1==1 then
     Option.bind (Qu2 r3.2.1 m_1 lo_2) fun r4=>
     some ((r4.2.1.1,r4.2.1.2,()),())
    else
    bif m_1.1==2 then
     Option.bind (Qtr r3.2.1 m_1) fun r5=>
     some ((r5.2.1.1,r5.2.1.2,()),())
    else
    bif m_1.1==3 then
     Option.bind (Qxj r3.2.1 m_1) fun r6=>
     some ((r6.2.1.1,r6.2.1.2,()),())
    else
    bif m_1.1==4 then
     Option.bind (Qtm r3.2.1 m_1) fun r7=>
     some ((r7.2.1.1,r7.2.1.2,()),())
    else
    bif m_1.1==5 then
     Option.bind (Qws r3.2.1 m_1) fun r8=>
     some ((r8.2.1.1,r8.2.1.2,()),())
    else
    bif m_1.1==6 then
     Option.bind (Z86 (h12 r3.2.1.1) m_1.2.1) fun r9=>
     some (((e12 r3.2.1.1 r9.1.1),r3.2.1.2,()),())
    else
     some ((r3.2.1.1,r3.2.1.2,()),())
   else
    Qqq m_1 r1 lo_2
  else
   Qqq m_1 r1 lo_2
 else
  Qqq m_1 r1 lo_2
noncomputable def Zce (t_0:Qvr) (m_1:Qwl) (lo_2:Int):Option ((Qvr × Qzk × Unit) × Unit):=
 Option.bind (Zmt t_0) fun r1=>
 Option.bind (Zcs (h12 r1.1.1.1) m_1.2.1 (g3 m_1)) fun r2=>
 bif r2.1.1 then
  some ((r1.1.1.1,[],()),())
 else
 bif m_1.2.1==(g3 r1.1.1.1) then
  bif decide ((g3 m_1)<(g4 r1.1.1.1)) then
   some ((r1.1.1.1,[],()),())
  else
   Z7w r1 m_1 lo_2
 else
  Z7w r1 m_1 lo_2
noncomputable def Zlp:Ent:=⟨[.val t30,.val t45,.val t2],[⟨t30,(nF 13),none⟩,⟨t48,[true],none⟩],fun x=>Zce x.1 x.2.1 x.2.2.1⟩
theorem Zhy:GD 46 Zlp:=fnk 1 (fr [[2,3,4,6,22,0,39,52,0,59,62,0,69],[2,4,6,8,22,0,39,52,0,59,62,0,69],[2,4,6,8,40,52,0,59,62,0,69],[6,7],[2,4,6,8,70],[2,4,6,8],[2,4,6,8,74],[2,4,6,8,74,75],[6,8],[4,6,8,74,81],[6,8],[4,6,8,74,86],[6,8],[4,6,8,74,91],[6,8],[4,6,8,74,96],[6,8],[4,6,8,101],[6,8],[6,7]]) (Qjy Zmf (Qjy Zbk (Qjy Qx3 (Qjy Za9 (Qjy Za4 (Qjy Z9s (Qjy Zac (Qjy Zaa (Qjy Zhr Qk3))))))))) Tryz.func46
abbrev Qkf:Type:=(Int × Bool × Unit) × Unit
noncomputable def Qtt:Ctx:=[]
def Qo3:Fi:=fr [[0,1,2,40,0,47],[0,1,2,8,40,0,47],[0,1,2,8,9,10,40,0,47],[0,1,2,8,9,10,17,40,0,47],[0,1,2,8,0,11,40,0,47],[0,1,2,8,0,11,31,40,0,47],[0,1,2,8,9,10,40,0,47],[0,1,2,8,9,10,40,0,47],[6,7]]
abbrev Qlq:Type:=Qkj→Int→(Qzl × Int × Unit→Option (Int × Unit))→Int→Int→Int→Option Qkf
noncomputable def Qku (L1:Qlq) (v1:Qkj) (v2:Int) (v3:(Qzl × Int × Unit→Option (Int × Unit))) (v4 v5 v6:Int):Option Qkf:=
 bif decide (v5<v6) then
  bif decide (0≤IntKind.wrap .i64 (Int.fdiv (IntKind.wrap .u64 (IntKind.wrap .i64 (v5+v6))) (2 ^ 1)))&&decide (IntKind.wrap .i64 (Int.fdiv (IntKind.wrap .u64 (IntKind.wrap .i64 (v5+v6))) (2 ^ 1))<(v1.length:Int)) then
   Option.bind (v3 ((List.getD v1 ((IntKind.wrap .i64 (Int.fdiv (IntKind.wrap .u64 (IntKind.wrap .i64 (v5+v6))) (2 ^ 1))).toNat) (0,(⟨#[]⟩:ByteArray))),v2,())) fun r7=>
   bif decide (r7.1<0) then
    L1 v1 v2 v3 v4 (IntKind.wrap .i64 ((IntKind.wrap .i64 (Int.fdiv (IntKind.wrap .u64 (IntKind.wrap .i64 (v5+v6))) (2 ^ 1)))+1)) v6
   else
    L1 v1 v2 v3 v4 v5 (IntKind.wrap .i64 (Int.fdiv (IntKind.wrap .u64 (IntKind.wrap .i64 (v5+v6))) (2 ^ 1)))
  else none
 else
 bif decide (v5<v4) then
  bif decide (0≤v5)&&decide (v5<(v1.length:Int)) then
   Option.bind (v3 ((List.getD v1 v5.toNat (0,(⟨#[]⟩:ByteArray))),v2,())) fun r8=>
   some ((v5,r8.1==0,()),())
  else none
 else
  some ((v5,false,()),())
noncomputable def Qoc (L1:Qlq) (x_0:Qkj) (target_1:Int) (cmp_2:(Qzl × Int × Unit→Option (Int × Unit))):Option Qkf:=
 L1 x_0 target_1 cmp_2 (x_0.length:Int) 0 (x_0.length:Int)
noncomputable def Qks (n:Nat):Nat→Qlq:=iter (fun _ _ _ _ _ _=>none) fun L=>Qku L
noncomputable def Qkt (n m:Nat) (v1:Qkj) (v2:Int) (v3:(Qzl × Int × Unit→Option (Int × Unit))) (v4 v5 v6:Int):Option Qkf:=
 Qjv Qtt tab (fiB [.val t32,.val t2,.fn [t58,t2] [t2]] Qo3) n [.val t32,.val t2,.fn [t58,t2] [t2]] [⟨t2,[false],none⟩,⟨t4,[false],none⟩] Tryz.f189 [1,1,1,0,0] [] [0,1,2,8,9,10] m
 ⟨[(0,Vp t32 v1),(1,Vp t2 v2),(2,V1 (.clo [t58,t2] [t2] v3)),(8,Vp t2 v4),(9,Vp t2 v5),(10,Vp t2 v6)],[]⟩
theorem Qnp (n:Nat):∀ m,Qkt n m=Qks n m
 | 0=>rfl
 | m+1=>by rw [show Qkt n (m+1)=Qku (Qkt n m) from by kernel_rfl,Qnp n m];rfl
noncomputable def Qob (n:Nat) (x_0:Qkj) (target_1:Int) (cmp_2:(Qzl × Int × Unit→Option (Int × Unit))):Option Qkf:=Qoc (Qks n n) x_0 target_1 cmp_2
noncomputable def Ql5 (x_0:Qkj) (target_1:Int) (cmp_2:(Qzl × Int × Unit→Option (Int × Unit))):Option Qkf:=Qob 1099511627776 x_0 target_1 cmp_2
noncomputable def Qtq:Ent:=⟨[.val t32,.val t2,.fn [t58,t2] [t2]],[⟨t2,[false],none⟩,⟨t4,[false],none⟩],fun x=>Ql5 x.1 x.2.1 x.2.2.1⟩
theorem Qno:GD 189 Qtq:=fnl Qo3 (fun n x=>Qob n x.1 x.2.1 x.2.2.1) Qk3 Tryz.func189 fun n x=>Eq.trans (b:=Qoc (Qkt n n) x.1 x.2.1 x.2.2.1) (by kernel_rfl) (by rw [Qnp n n];rfl)
noncomputable def Z8o (i_0:Qzl) (seq_1:Int):Option ((Int × Unit) × Unit):=
 Option.bind (Qs3 i_0.1 seq_1) fun r1=>
 some ((r1.1.1,()),())
noncomputable def Zhx:Ent:=⟨[.val t58,.val t2],[⟨t2,[false],none⟩],fun x=>Z8o x.1 x.2.1⟩
theorem Zdr:GD 190 Zhx:=fnk 1 (fo [[1,2],[4]]) (Qjy Quw Qk3) Tryz.func190
noncomputable def Zfs (l_0:Qkj) (seq_1:Int):Option ((ByteArray × Bool × Unit) × Unit):=
 Option.bind (Ql5 l_0 seq_1 (fun x=>(Z8o x.1 x.2.1).bind fun r=>some (r.1.1,()))) fun r1=>
 bif !r1.1.2.1 then
  some (((⟨#[]⟩:ByteArray),false,()),())
 else
 bif decide (0≤r1.1.1)&&decide (r1.1.1<(l_0.length:Int)) then
  some (((List.getD l_0 r1.1.1.toNat (0,(⟨#[]⟩:ByteArray))).2,true,()),())
 else none
noncomputable def Zir:Ent:=⟨[.val t32,.val t2],[⟨t9,[false],none⟩,⟨t4,[false],none⟩],fun x=>Zfs x.1 x.2.1⟩
theorem Zjl:GD 159 Zir:=fnk 1 (fo [[0,1],[0,6,7],[0,6,15],[4,5],[4,5]]) (Qjy Qno (Qjy Zdr Qk3)) Tryz.func159
abbrev Qs7:Type:=(Qkj × Qrf × Unit) × Unit
noncomputable def Zkk:Ctx:=[(159,Zir)]
def Zbu:Fi:={ keep:=[],vty:=[(6,32),(7,146)],vals:=[],live:=[(0,[1,2,3,6,7,25,26,27,28,48,49,52,53,60,61,62,63,64,65,66,67,68]),(1,[1,2,3,6,7,14,25,26,27,28,48,49,52,53,60,61,62,63,64,65,66,67,68]),(2,[6,7]),(3,[1,2,3,6,7,25,26,27,28,48,49,52,53,60,61,62,63,64,65,66,67,68]),(4,[1,2,3,6,7,8,25,26,27,28,48,49,52,53,60,61,62,63,64,65,66,67,68]),(5,[1,2,3,6,7,8,25,26,27,28,29,48,49,52,53,60,61,62,63,64,65,66,67,68]),(6,[1,2,3,6,7,8,25,26,27,28,48,49,52,53,60,61,62,63,64,65,66,67,68]),(7,[1,2,3,6,7,8,9,10,25,26,27,28,48,49,52,53,60,61,62,63,64,65,66,67,68]),(8,[1,2,3,6,7,8,9,10,25,26,27,28,39,48,49,52,53,60,61,62,63,64,65,66,67,68]),(9,[1,2,3,6,7,8,10,25,26,27,28,48,49,52,53,60,61,62,63,64,65,66,67,68]),(10,[1,2,3,6,7,8,25,26,27,28,48,49,52,53,54,60,61,62,63,64,65,66,67,68]),(11,[1,2,3,6,7,8,11,25,26,27,28,48,49,52,53,60,61,62,63,64,65,66,67,68]),(12,[1,2,3,6,7,8,11,25,26,27,28,48,49,52,53,60,61,62,63,64,65,66,67,68,69]),(13,[1,2,3,6,7,8,25,26,27,28,48,49,52,53,60,61,62,63,64,65,66,67,68]),(14,[1,2,3,6,7,8,25,26,27,28,48,49,52,53,60,61,62,63,64,65,66,67,68]),(15,[6,7])] }
abbrev Qwv:Type:=Int→Int→Int→Int→Int→Qkj→Qkj→Qnj→Int→Int→Qkj→Qrf→Option Qs7
noncomputable def Zc8 (v12:Qrf) (L1:Qwv) (v1 v2 v3 v4 v5:Int) (v6 v7:Qkj) (v8:Qnj) (v9 v10:Int) (v11:Qkj) (r13:(ByteArray × Bool × Unit) × Unit):Option Qs7:=
 bif Nat.ble (v12.length+1) 1073741824 then
  L1 v1 v2 (IntKind.wrap .i64 (v3+1)) v4 v5 v6 v7 v8 v9 v10 (v11++[(v3,r13.1.1)]) (v12++[(v3,v3)])
 else none
noncomputable def Z10 (v12:Qrf) (L1:Qwv) (v1 v2 v3 v4 v5:Int) (v6 v7:Qkj) (v8:Qnj) (v9 v10:Int) (v11:Qkj):Option Qs7:=
 bif Nat.ble (v12.length+1) 1073741824 then
  L1 v1 v2 (IntKind.wrap .i64 (v3+1)) v4 v5 v6 v7 v8 v9 v10 v11 (v12++[(v3,v3)])
 else none
noncomputable def Qu4 (L1:Qwv) (v1 v2 v3 v4 v5:Int) (v6 v7:Qkj) (v8:Qnj) (v9 v10:Int) (v11:Qkj) (v12:Qrf):Option Qs7:=
 bif decide (v3≤v2) then
  bif decide (IntKind.wrap .i64 (v3 - v1)<8) then
   Option.bind (Zfs v6 v3) fun r13=>
   bif r13.1.2.1 then
    bif Nat.ble (v11.length+1) 1073741824 then
     bif r13.1.2.1 then
      L1 v1 v2 (IntKind.wrap .i64 (v3+1)) v4 v5 v6 v7 v8 v9 v10 (v11++[(v3,r13.1.1)]) v12
     else
     bif decide (v3<1) then
      L1 v1 v2 (IntKind.wrap .i64 (v3+1)) v4 v5 v6 v7 v8 v9 v10 (v11++[(v3,r13.1.1)]) v12
     else
     bif decide (v3>1000000) then
      L1 v1 v2 (IntKind.wrap .i64 (v3+1)) v4 v5 v6 v7 v8 v9 v10 (v11++[(v3,r13.1.1)]) v12
     else
     bif decide ((v12.length:Int)>0) then
      bif decide (0≤IntKind.wrap .i64 ((v12.length:Int) - 1))&&decide (IntKind.wrap .i64 ((v12.length:Int) - 1)<(v12.length:Int)) then
       bif decide (0≤IntKind.wrap .i64 ((v12.length:Int) - 1))&&decide (IntKind.wrap .i64 ((v12.length:Int) - 1)<(v12.length:Int)) then
        bif ((List.getD v12 ((IntKind.wrap .i64 ((v12.length:Int) - 1)).toNat) (0,0)).2)==(IntKind.wrap .i64 (v3 - 1)) then
         bif decide (0≤IntKind.wrap .i64 ((v12.length:Int) - 1))&&decide (IntKind.wrap .i64 ((v12.length:Int) - 1)<(v12.length:Int)) then
          bif decide (0≤IntKind.wrap .i64 ((v12.length:Int) - 1))&&decide (IntKind.wrap .i64 ((v12.length:Int) - 1)<(v12.length:Int)) then
           L1 v1 v2 (IntKind.wrap .i64 (v3+1)) v4 v5 v6 v7 v8 v9 v10 (v11++[(v3,r13.1.1)]) (List.set v12 ((IntKind.wrap .i64 ((v12.length:Int) - 1)).toNat) ((List.getD v12 ((IntKind.wrap .i64 ((v12.length:Int) - 1)).toNat) (0,0)).1,v3))
          else none
         else none
        else
         Zc8 v12 L1 v1 v2 v3 v4 v5 v6 v7 v8 v9 v10 v11 r13
       else none
      else none
     else
      Zc8 v12 L1 v1 v2 v3 v4 v5 v6 v7 v8 v9 v10 v11 r13
    else none
   else
   bif r13.1.2.1 then
    L1 v1 v2 (IntKind.wrap .i64 (v3+1)) v4 v5 v6 v7 v8 v9 v10 v11 v12
   else
   bif decide (v3<1) then
    L1 v1 v2 (IntKind.wrap .i64 (v3+1)) v4 v5 v6 v7 v8 v9 v10 v11 v12
   else
   bif decide (v3>1000000) then
    L1 v1 v2 (IntKind.wrap .i64 (v3+1)) v4 v5 v6 v7 v8 v9 v10 v11 v12
   else
   bif decide ((v12.length:Int)>0) then
    bif decide (0≤IntKind.wrap .i64 ((v12.length:Int) - 1))&&decide (IntKind.wrap .i64 ((v12.length:Int) - 1)<(v12.length:Int)) then
     bif decide (0≤IntKind.wrap .i64 ((v12.length:Int) - 1))&&decide (IntKind.wrap .i64 ((v12.length:Int) - 1)<(v12.length:Int)) then
      bif ((List.getD v12 ((IntKind.wrap .i64 ((v12.length:Int) - 1)).toNat) (0,0)).2)==(IntKind.wrap .i64 (v3 - 1)) then
       bif decide (0≤IntKind.wrap .i64 ((v12.length:Int) - 1))&&decide (IntKind.wrap .i64 ((v12.length:Int) - 1)<(v12.length:Int)) then
        bif decide (0≤IntKind.wrap .i64 ((v12.length:Int) - 1))&&decide (IntKind.wrap .i64 ((v12.length:Int) - 1)<(v12.length:Int)) then
         L1 v1 v2 (IntKind.wrap .i64 (v3+1)) v4 v5 v6 v7 v8 v9 v10 v11 (List.set v12 ((IntKind.wrap .i64 ((v12.length:Int) - 1)).toNat) ((List.getD v12 ((IntKind.wrap .i64 ((v12.length:Int) - 1)).toNat) (0,0)).1,v3))
        else none
       else none
      else
       Z10 v12 L1 v1 v2 v3 v4 v5 v6 v7 v8 v9 v10 v11
     else none
    else none
   else
    Z10 v12 L1 v1 v2 v3 v4 v5 v6 v7 v8 v9 v10 v11
  else
   some ((v11,v12,()),())
 else
  some ((v11,v12,()),())
noncomputable def Z43 (L1:Qwv) (f_0:Qxo) (lo_1 hi_2:Int):Option Qs7:=
 bif decide (f_0.1<1) then
  some (([],[],()),())
 else
  L1 lo_1 (if IntKind.wrap .i64 (f_0.1 - 1)<hi_2 then IntKind.wrap .i64 (f_0.1 - 1) else hi_2) lo_1 f_0.1 f_0.2.1 f_0.2.2.1 (g3 f_0) (g4 f_0) (g5 f_0) (h6 f_0) [] []
noncomputable def Qsx (n:Nat):Nat→Qwv:=iter (fun _ _ _ _ _ _ _ _ _ _ _ _=>none) fun L=>Qu4 L
noncomputable def Z0x (n m:Nat) (v1 v2 v3 v4 v5:Int) (v6 v7:Qkj) (v8:Qnj) (v9 v10:Int) (v11:Qkj) (v12:Qrf):Option Qs7:=
 Qjv Zkk tab (fiB [.val t36,.val t2,.val t2] Zbu) n [.val t36,.val t2,.val t2] [⟨t32,[true],none⟩,⟨Zqs,[true],none⟩] Tryz.f99 [1,1,1,0,1,0] [] [1,2,3,6,7,8] m
 ⟨[(1,Vp t2 v1),(2,Vp t2 v2),(3,V1 (.ptr (3,0) 0)),(6,V1 (.ref (888888,6))),(7,V1 (.ref (888888,7))),(8,Vp t2 v3)],[((3,0),Ob.box 37 [LV.pure t2 v4,LV.pure t2 v5,LV.pure t32 v6,LV.pure t32 v7,LV.pure t33 v8,LV.pure t2 v9,LV.pure t2 v10]),((888888,6),Ob.row 59 t58 v11),((888888,7),Ob.row 100 t34 v12)]⟩
theorem Zau (n:Nat):∀ m,Z0x n m=Qsx n m
 | 0=>rfl
 | m+1=>by rw [show Z0x n (m+1)=Qu4 (Z0x n m) from by kernel_rfl,Zau n m];rfl
noncomputable def Zey (n:Nat) (f_0:Qxo) (lo_1 hi_2:Int):Option Qs7:=Z43 (Qsx n n) f_0 lo_1 hi_2
noncomputable def Zdm (f_0:Qxo) (lo_1 hi_2:Int):Option Qs7:=Zey 1099511627776 f_0 lo_1 hi_2
noncomputable def Zed:Ent:=⟨[.val t36,.val t2,.val t2],[⟨t32,[true],none⟩,⟨Zqs,[true],none⟩],fun x=>Zdm x.1 x.2.1 x.2.2.1⟩
theorem Zgg:GD 99 Zed:=fnl Zbu (fun n x=>Zey n x.1 x.2.1 x.2.2.1) (Qjy Zjl Qk3) Tryz.func99 fun n x=>Eq.trans (b:=Z43 (Z0x n n) x.1 x.2.1 x.2.2.1) (by kernel_rfl) (by rw [Zau n n];rfl)
abbrev Qpf:Type:=(Qzk × Unit) × Unit
noncomputable def Zcc:Ctx:=[(58,Z93),(98,Zfy),(99,Zed)]
def Z4i:Fi:={ keep:=[],vty:=[(4,48)],vals:=[],live:=[(0,[2,3,4,25,26,27,28,29]),(1,[2,3,4,5,6,25,26,27,28,29]),(2,[2,3,4,30]),(3,[4]),(4,[2,3,4,7,8]),(5,[2,3,4,8,41,42,43]),(6,[2,3,4,8,41,42,43,44]),(7,[2,3,4,8,10,41,42,43]),(8,[2,3,4,8,41,42,43]),(9,[2,3,4,8,41,42,43]),(10,[2,3,4,59,60,61]),(11,[2,3,4,59,60,61,62]),(12,[2,3,4,12,59,60,61]),(13,[2,3,4,59,60,61]),(14,[2,3,4,59,60,61]),(15,[4])] }
abbrev Z4e:Type:=Int→Int→Bool→Int→ByteArray→Int→Int→Int→Int→Int→Int→List Int→Int→Int→Int→Int→Int→Qlv→Int→Int→Qkj→Qkj→Qnj→Int→Int→Int→Int→Int→Int→Int→Int→Int→List Int→Int→Int→ByteArray→Qzk→Qrf→Qkj→Option Qpf
abbrev Z46:Type:=Int→Int→Bool→Int→ByteArray→Int→Int→Int→Int→Int→Int→List Int→Int→Int→Int→Int→Int→Qlv→Int→Int→Qkj→Qkj→Qnj→Int→Int→Int→Int→Int→Int→Int→Int→Int→List Int→Int→Int→ByteArray→Qzk→Qrf→Option Qpf
noncomputable def Qt0 (L1:Z4e) (L2:Z46) (v3 v4:Int) (v5:Bool) (v6:Int) (v7:ByteArray) (v8 v9 v10 v11 v12 v13:Int) (v14:List Int) (v15 v16 v17 v18 v19:Int) (v20:Qlv) (v21 v22:Int) (v23 v24:Qkj) (v25:Qnj) (v26 v27 v28 v29 v30 v31 v32 v33 v34:Int) (v35:List Int) (v36 v37:Int) (v38:ByteArray) (v39:Qzk) (v40:Qrf) (v41:Qkj):Option Qpf:=
 bif decide (v4<v3) then
  bif decide (0≤v4)&&decide (v4<(v41.length:Int)) then
   bif decide (0≤v4)&&decide (v4<(v41.length:Int)) then
    Option.bind (Qua (v5,v6,v7,(v8,v9,v10,v11,v12,v13,v14,v15,v16,v17,v18,v19,v20),(v21,v22,v23,v24,v25,v26,v27),v28) 7 v30 ((List.getD v41 v4.toNat (0,(⟨#[]⟩:ByteArray))).1) 0 ((List.getD v41 v4.toNat (0,(⟨#[]⟩:ByteArray))).2)) fun r42=>
    bif Nat.ble (v39.length+1) 1073741824 then
     L1 v3 (IntKind.wrap .i64 (v4+1)) v5 v6 v7 v8 v9 v10 v11 v12 v13 v14 v15 v16 v17 v18 v19 v20 v21 v22 v23 v24 v25 v26 v27 v28 v29 v30 v31 v32 v33 v34 v35 v36 v37 v38 (v39++[r42.1.1]) v40 v41
    else none
   else none
  else none
 else
  L2 (v40.length:Int) 0 v5 v6 v7 v8 v9 v10 v11 v12 v13 v14 v15 v16 v17 v18 v19 v20 v21 v22 v23 v24 v25 v26 v27 v28 v29 v30 v31 v32 v33 v34 v35 v36 v37 v38 v39 v40
noncomputable def Qt1 (L2:Z46) (v43 v44:Int) (v45:Bool) (v46:Int) (v47:ByteArray) (v48 v49 v50 v51 v52 v53:Int) (v54:List Int) (v55 v56 v57 v58 v59:Int) (v60:Qlv) (v61 v62:Int) (v63 v64:Qkj) (v65:Qnj) (v66 v67 v68 v69 v70 v71 v72 v73 v74:Int) (v75:List Int) (v76 v77:Int) (v78:ByteArray) (v79:Qzk) (v80:Qrf):Option Qpf:=
 bif decide (v44<v43) then
  bif decide (0≤v44)&&decide (v44<(v80.length:Int)) then
   bif decide (0≤v44)&&decide (v44<(v80.length:Int)) then
    Option.bind (Qua (v45,v46,v47,(v48,v49,v50,v51,v52,v53,v54,v55,v56,v57,v58,v59,v60),(v61,v62,v63,v64,v65,v66,v67),v68) 9 v70 ((List.getD v80 v44.toNat (0,0)).1) ((List.getD v80 v44.toNat (0,0)).2) (⟨#[]⟩:ByteArray)) fun r81=>
    bif Nat.ble (v79.length+1) 1073741824 then
     L2 v43 (IntKind.wrap .i64 (v44+1)) v45 v46 v47 v48 v49 v50 v51 v52 v53 v54 v55 v56 v57 v58 v59 v60 v61 v62 v63 v64 v65 v66 v67 v68 v69 v70 v71 v72 v73 v74 v75 v76 v77 v78 (v79++[r81.1.1]) v80
    else none
   else none
  else none
 else
  some ((v79,()),())
noncomputable def Z0z (L1:Z4e) (n_0:Zen) (m_1:Qwl):Option Qpf:=
 Option.bind (Qza (h12 (g3 n_0)) m_1.2.1) fun r1=>
 bif !r1.1.2.1 then
  some (([],()),())
 else
 bif r1.1.1.2.1 != (g3 m_1) then
  some (([],()),())
 else
  Option.bind (Zdm (g4 n_0) (g7 m_1) (g8 m_1)) fun r2=>
  L1 (r2.1.1.length:Int) 0 n_0.1 n_0.2.1 n_0.2.2.1 (g3 n_0).1 (g3 n_0).2.1 (g3 n_0).2.2.1 (g3 (g3 n_0)) (g4 (g3 n_0)) (g5 (g3 n_0)) (g6 (g3 n_0)) (g7 (g3 n_0)) (g8 (g3 n_0)) (g9 (g3 n_0)) (g10 (g3 n_0)) (g11 (g3 n_0)) (h12 (g3 n_0)) (g4 n_0).1 (g4 n_0).2.1 (g4 n_0).2.2.1 (g3 (g4 n_0)) (g4 (g4 n_0)) (g5 (g4 n_0)) (h6 (g4 n_0)) (h5 n_0) m_1.1 m_1.2.1 m_1.2.2.1 (g3 m_1) (g4 m_1) (g5 m_1) (g6 m_1) (g7 m_1) (g8 m_1) (h9 m_1) [] r2.1.2.1 r2.1.1
noncomputable def Qrb (n:Nat):Nat→Z46:=iter (fun _ _ _ _ _ _ _ _ _ _ _ _ _ _ _ _ _ _ _ _ _ _ _ _ _ _ _ _ _ _ _ _ _ _ _ _ _ _=>none) fun L=>Qt1 L
noncomputable def Qt2 (n:Nat):Nat→Z4e:=iter (fun _ _ _ _ _ _ _ _ _ _ _ _ _ _ _ _ _ _ _ _ _ _ _ _ _ _ _ _ _ _ _ _ _ _ _ _ _ _ _=>none) fun L=>Qt0 L (Qrb n n)
noncomputable def Qyo (n m:Nat) (v3 v4:Int) (v5:Bool) (v6:Int) (v7:ByteArray) (v8 v9 v10 v11 v12 v13:Int) (v14:List Int) (v15 v16 v17 v18 v19:Int) (v20:Qlv) (v21 v22:Int) (v23 v24:Qkj) (v25:Qnj) (v26 v27 v28 v29 v30 v31 v32 v33 v34:Int) (v35:List Int) (v36 v37:Int) (v38:ByteArray) (v39:Qzk) (v40:Qrf) (v41:Qkj):Option Qpf:=
 Qjv Zcc tab (fiB [.val t38,.val t45] Z4i) n [.val t38,.val t45] [⟨t48,[true],none⟩] Tryz.f47 [1,1,1,1,0,1,0] [] [2,3,4,8,41,42,43] m
 ⟨[(2,V1 (.ptr (2,0) 0)),(3,V1 (.ptr (3,0) 0)),(4,V1 (.ref (888888,4))),(8,V1 (.ref (888888,8))),(41,V1 (.ref (888888,41))),(42,Vp t2 v3),(43,Vp t2 v4)],[((2,0),Ob.box 39 [LV.pure t4 v5,LV.pure t2 v6,LV.pure t9 v7,LV.pure t2 v8,LV.pure t2 v9,LV.pure t2 v10,LV.pure t2 v11,LV.pure t2 v12,LV.pure t2 v13,LV.pure t28 v14,LV.pure t2 v15,LV.pure t2 v16,LV.pure t2 v17,LV.pure t2 v18,LV.pure t2 v19,LV.pure t29 v20,LV.pure t2 v21,LV.pure t2 v22,LV.pure t32 v23,LV.pure t32 v24,LV.pure t33 v25,LV.pure t2 v26,LV.pure t2 v27,LV.pure t2 v28]),((3,0),Ob.box 46 [LV.pure t2 v29,LV.pure t2 v30,LV.pure t2 v31,LV.pure t2 v32,LV.pure t2 v33,LV.pure t2 v34,LV.pure t28 v35,LV.pure t2 v36,LV.pure t2 v37,LV.pure t9 v38]),((888888,4),Ob.row 46 t45 v39),((888888,8),Ob.row 100 t34 v40),((888888,41),Ob.row 59 t58 v41)]⟩
noncomputable def Qyq (n m:Nat) (v43 v44:Int) (v45:Bool) (v46:Int) (v47:ByteArray) (v48 v49 v50 v51 v52 v53:Int) (v54:List Int) (v55 v56 v57 v58 v59:Int) (v60:Qlv) (v61 v62:Int) (v63 v64:Qkj) (v65:Qnj) (v66 v67 v68 v69 v70 v71 v72 v73 v74:Int) (v75:List Int) (v76 v77:Int) (v78:ByteArray) (v79:Qzk) (v80:Qrf):Option Qpf:=
 Qjv Zcc tab (fiB [.val t38,.val t45] Z4i) n [.val t38,.val t45] [⟨t48,[true],none⟩] Tryz.f47 [1,1,1,1,1,0,1,0] [] [2,3,4,59,60,61] m
 ⟨[(2,V1 (.ptr (2,0) 0)),(3,V1 (.ptr (3,0) 0)),(4,V1 (.ref (888888,4))),(59,V1 (.ref (888888,59))),(60,Vp t2 v43),(61,Vp t2 v44)],[((2,0),Ob.box 39 [LV.pure t4 v45,LV.pure t2 v46,LV.pure t9 v47,LV.pure t2 v48,LV.pure t2 v49,LV.pure t2 v50,LV.pure t2 v51,LV.pure t2 v52,LV.pure t2 v53,LV.pure t28 v54,LV.pure t2 v55,LV.pure t2 v56,LV.pure t2 v57,LV.pure t2 v58,LV.pure t2 v59,LV.pure t29 v60,LV.pure t2 v61,LV.pure t2 v62,LV.pure t32 v63,LV.pure t32 v64,LV.pure t33 v65,LV.pure t2 v66,LV.pure t2 v67,LV.pure t2 v68]),((3,0),Ob.box 46 [LV.pure t2 v69,LV.pure t2 v70,LV.pure t2 v71,LV.pure t2 v72,LV.pure t2 v73,LV.pure t2 v74,LV.pure t28 v75,LV.pure t2 v76,LV.pure t2 v77,LV.pure t9 v78]),((888888,4),Ob.row 46 t45 v79),((888888,59),Ob.row 100 t34 v80)]⟩
theorem Z7r (n:Nat):∀ m,Qyq n m=Qrb n m
 | 0=>rfl
 | m+1=>by rw [show Qyq n (m+1)=Qt1 (Qyq n m) from by kernel_rfl,Z7r n m];rfl
theorem Z8l (n:Nat):∀ m,Qyo n m=Qt2 n m
 | 0=>rfl
 | m+1=>by rw [show Qyo n (m+1)=Qt0 (Qyo n m) (Qyq n n) from by kernel_rfl,Z7r n n,Z8l n m];rfl
noncomputable def Zd3 (n:Nat) (n_0:Zen) (m_1:Qwl):Option Qpf:=Z0z (Qt2 n n) n_0 m_1
noncomputable def Z6p (n_0:Zen) (m_1:Qwl):Option Qpf:=Zd3 1099511627776 n_0 m_1
noncomputable def Zjz:Ent:=⟨[.val t38,.val t45],[⟨t48,[true],none⟩],fun x=>Z6p x.1 x.2.1⟩
theorem Zfg:GD 47 Zjz:=fnl Z4i (fun n x=>Zd3 n x.1 x.2.1) (Qjy Z7n (Qjy Qyr (Qjy Zgg Qk3))) Tryz.func47 fun n x=>Eq.trans (b:=Z0z (Qyo n n) x.1 x.2.1) (by kernel_rfl) (by rw [Z8l n n];rfl)
noncomputable def Qu3 (f_0:Qxo) (top_1:Int):Option ((Qxo × Unit) × Unit):=
 Option.bind (Qqs f_0) fun r1=>
 bif decide (r1.1.1.1>0) then
  bif decide (top_1≤1000000) then
   some (((u1 r1.1.1 (if top_1>r1.1.1.2.1 then top_1 else r1.1.1.2.1)),()),())
  else
   some ((r1.1.1,()),())
 else
  some ((r1.1.1,()),())
noncomputable def Zkz:Ent:=⟨[.val t36,.val t2],[⟨t36,[false,false,true,true,true,false,false],none⟩],fun x=>Qu3 x.1 x.2.1⟩
theorem Qxg:GD 100 Zkz:=fnk 1 (fo [[1,2,4,11,12],[1,2,4,11,12],[1,2,4,13],[2,4],[4]]) (Qjy Qvb Qk3) Tryz.func100
noncomputable def Z9k (f_0:Qxo) (next_1:Int):Option ((Qxo × Unit) × Unit):=
 bif decide (f_0.1>0) then
  Option.bind (Qu3 f_0 (IntKind.wrap .i64 (next_1 - 1))) fun r1=>
  some ((r1.1.1,()),())
 else
  Option.bind (Qqs f_0) fun r2=>
  bif decide (next_1 ≥ 1) then
   bif decide (next_1≤1000000) then
    some (((next_1,r2.1.1.2),()),())
   else
    some ((r2.1.1,()),())
  else
   some ((r2.1.1,()),())
noncomputable def Zkl:Ent:=⟨[.val t36,.val t2],[⟨t36,[false,false,true,true,true,false,false],none⟩],fun x=>Z9k x.1 x.2.1⟩
theorem Zh9:GD 101 Zkl:=fnk 1 (fo [[1,2,4,17,18],[1,2,4,7,17,18],[4],[1,2,4,17,18],[1,2,4,19],[2,4],[4]]) (Qjy Qxg (Qjy Qvb Qk3)) Tryz.func101
noncomputable def Zbc (x_0:Qzl) (seq_1:Int):Option ((Int × Unit) × Unit):=
 Option.bind (Qs3 x_0.1 seq_1) fun r1=>
 some ((r1.1.1,()),())
noncomputable def Zjb:Ent:=⟨[.val t58,.val t2],[⟨t2,[false],none⟩],fun x=>Zbc x.1 x.2.1⟩
theorem Zfm:GD 191 Zjb:=fnk 1 (fo [[1,2],[4]]) (Qjy Quw Qk3) Tryz.func191
noncomputable def Qzz:Ctx:=[(192,Qjh)]
def Qz3:Fi:={ keep:=[],vty:=[],vals:=[],live:=[(0,[0,1,2]),(1,[0,1,2]),(2,[0,1,2,7]),(3,[0,1,2,7,16]),(4,[6]),(5,[0,1,2,7,8]),(6,[0,1,2,7,8,22]),(7,[6]),(8,[0,1,2,7,8,31]),(9,[0,1,2,7,9]),(10,[0,1,7,9]),(11,[9]),(12,[6]),(13,[0,1,2,7,8]),(14,[0,1,2,7,8,68]),(15,[0,1,2]),(16,[0]),(17,[6]),(18,[0,1,7]),(19,[0]),(20,[6])] }
noncomputable def Z0f (c:Nat) (s_0:Qkj) (i_1:Int) (v_2:Qkj):Option ((Qkj × Unit) × Unit):=
 bif (decide (0≤i_1)&&decide (i_1≤((s_0.length:Nat):Int)))&&decide (((s_0.length:Nat):Int)≤((((List.map some s_0++List.replicate c none).length) - 0:Nat):Int)) then
  bif (v_2.length:Int)==0 then
   bif Nat.ble s_0.length ((List.map some s_0++List.replicate c none).length) then
    Option.bind (Qd (List.take s_0.length (List.map some s_0++List.replicate c none))) fun (z1:Qkj)=>
    some ((z1,()),())
   else none
  else
  bif i_1==((s_0.length:Nat):Int) then
   bif Nat.ble (0+s_0.length) ((List.map some s_0++List.replicate c none).length) then
    bif Nat.ble (s_0.length+v_2.length) ((List.map some s_0++List.replicate c none).length) then
     bif Nat.ble (s_0.length+v_2.length) ((Q6 (List.map some s_0++List.replicate c none) s_0.length v_2).length) then
      Option.bind (Qd (List.take (s_0.length+v_2.length) (Q6 (List.map some s_0++List.replicate c none) s_0.length v_2))) fun (z2:Qkj)=>
      some ((z2,()),())
     else none
    else
    bif Nat.ble (s_0.length+v_2.length) 1073741824 then
     Option.bind (Qd (List.take s_0.length (List.map some s_0++List.replicate c none))) fun (z3:Qkj)=>
     some ((z3++v_2,()),())
    else none
   else none
  else
  bif Nat.ble (0+s_0.length) ((List.map some s_0++List.replicate c none).length) then
   bif decide (IntKind.wrap .i64 (((s_0.length:Nat):Int)+(v_2.length:Int))>((((List.map some s_0++List.replicate c none).length) - 0:Nat):Int)) then
    bif decide (0≤i_1)&&decide (i_1≤((((List.map some s_0++List.replicate c none).length) - 0:Nat):Int)) then
     bif Nat.ble (0+((i_1 - 0).toNat)) ((List.map some s_0++List.replicate c none).length) then
      bif decide (0<IntKind.wrap .i64 ((IntKind.wrap .i64 (((s_0.length:Nat):Int)+(v_2.length:Int))) - i_1))&&true&&Nat.blt ((List.map some s_0++List.replicate c none).length) (((i_1 - 0).toNat)+((List.replicate ((IntKind.wrap .i64 ((IntKind.wrap .i64 (((s_0.length:Nat):Int)+(v_2.length:Int))) - i_1)).toNat) ((0,(⟨#[]⟩:ByteArray)):Qzl)).length))&&Nat.ble (((List.map some s_0++List.replicate c none).length)+((List.replicate ((IntKind.wrap .i64 ((IntKind.wrap .i64 (((s_0.length:Nat):Int)+(v_2.length:Int))) - i_1)).toNat) ((0,(⟨#[]⟩:ByteArray)):Qzl)).length)) 536870912 then
       bif (decide (0≤i_1)&&decide (i_1≤((((i_1 - 0).toNat)+((List.replicate ((IntKind.wrap .i64 ((IntKind.wrap .i64 (((s_0.length:Nat):Int)+(v_2.length:Int))) - i_1)).toNat) ((0,(⟨#[]⟩:ByteArray)):Qzl)).length):Nat):Int)))&&decide (((((i_1 - 0).toNat)+((List.replicate ((IntKind.wrap .i64 ((IntKind.wrap .i64 (((s_0.length:Nat):Int)+(v_2.length:Int))) - i_1)).toNat) ((0,(⟨#[]⟩:ByteArray)):Qzl)).length):Nat):Int)≤((((List.take ((i_1 - 0).toNat) (List.map some s_0++List.replicate c none)++List.map some (List.replicate ((IntKind.wrap .i64 ((IntKind.wrap .i64 (((s_0.length:Nat):Int)+(v_2.length:Int))) - i_1)).toNat) ((0,(⟨#[]⟩:ByteArray)):Qzl))).length) - 0:Nat):Int)) then
        bif Nat.ble ((0+i_1.toNat)+((((((i_1 - 0).toNat)+((List.replicate ((IntKind.wrap .i64 ((IntKind.wrap .i64 (((s_0.length:Nat):Int)+(v_2.length:Int))) - i_1)).toNat) ((0,(⟨#[]⟩:ByteArray)):Qzl)).length):Nat):Int) - i_1).toNat)) ((List.take ((i_1 - 0).toNat) (List.map some s_0++List.replicate c none)++List.map some (List.replicate ((IntKind.wrap .i64 ((IntKind.wrap .i64 (((s_0.length:Nat):Int)+(v_2.length:Int))) - i_1)).toNat) ((0,(⟨#[]⟩:ByteArray)):Qzl))).length) then
         bif (decide (0≤IntKind.wrap .i64 (i_1+(v_2.length:Int)))&&decide (IntKind.wrap .i64 (i_1+(v_2.length:Int))≤((((i_1 - 0).toNat)+((List.replicate ((IntKind.wrap .i64 ((IntKind.wrap .i64 (((s_0.length:Nat):Int)+(v_2.length:Int))) - i_1)).toNat) ((0,(⟨#[]⟩:ByteArray)):Qzl)).length):Nat):Int)))&&decide (((((i_1 - 0).toNat)+((List.replicate ((IntKind.wrap .i64 ((IntKind.wrap .i64 (((s_0.length:Nat):Int)+(v_2.length:Int))) - i_1)).toNat) ((0,(⟨#[]⟩:ByteArray)):Qzl)).length):Nat):Int)≤((((Q6 (List.take ((i_1 - 0).toNat) (List.map some s_0++List.replicate c none)++List.map some (List.replicate ((IntKind.wrap .i64 ((IntKind.wrap .i64 (((s_0.length:Nat):Int)+(v_2.length:Int))) - i_1)).toNat) ((0,(⟨#[]⟩:ByteArray)):Qzl))) (0+i_1.toNat) (List.take ((((((i_1 - 0).toNat)+((List.replicate ((IntKind.wrap .i64 ((IntKind.wrap .i64 (((s_0.length:Nat):Int)+(v_2.length:Int))) - i_1)).toNat) ((0,(⟨#[]⟩:ByteArray)):Qzl)).length):Nat):Int) - i_1).toNat) v_2)).length) - 0:Nat):Int)) then
          bif (decide (0≤i_1)&&decide (i_1≤((s_0.length:Nat):Int)))&&decide (((s_0.length:Nat):Int)≤((((List.map some s_0++List.replicate c none).length) - 0:Nat):Int)) then
           bif Nat.ble ((0+((IntKind.wrap .i64 (i_1+(v_2.length:Int))).toNat))+((((((i_1 - 0).toNat)+((List.replicate ((IntKind.wrap .i64 ((IntKind.wrap .i64 (((s_0.length:Nat):Int)+(v_2.length:Int))) - i_1)).toNat) ((0,(⟨#[]⟩:ByteArray)):Qzl)).length):Nat):Int) - (IntKind.wrap .i64 (i_1+(v_2.length:Int)))).toNat)) ((Q6 (List.take ((i_1 - 0).toNat) (List.map some s_0++List.replicate c none)++List.map some (List.replicate ((IntKind.wrap .i64 ((IntKind.wrap .i64 (((s_0.length:Nat):Int)+(v_2.length:Int))) - i_1)).toNat) ((0,(⟨#[]⟩:ByteArray)):Qzl))) (0+i_1.toNat) (List.take ((((((i_1 - 0).toNat)+((List.replicate ((IntKind.wrap .i64 ((IntKind.wrap .i64 (((s_0.length:Nat):Int)+(v_2.length:Int))) - i_1)).toNat) ((0,(⟨#[]⟩:ByteArray)):Qzl)).length):Nat):Int) - i_1).toNat) v_2)).length) then
            bif Nat.ble ((0+i_1.toNat)+((((s_0.length:Nat):Int) - i_1).toNat)) ((List.map some s_0++List.replicate c none).length) then
            Option.bind (Qd (List.take (min ((((((i_1 - 0).toNat)+((List.replicate ((IntKind.wrap .i64 ((IntKind.wrap .i64 (((s_0.length:Nat):Int)+(v_2.length:Int))) - i_1)).toNat) ((0,(⟨#[]⟩:ByteArray)):Qzl)).length):Nat):Int) - (IntKind.wrap .i64 (i_1+(v_2.length:Int)))).toNat) ((((s_0.length:Nat):Int) - i_1).toNat)) (List.drop (0+i_1.toNat) (List.map some s_0++List.replicate c none)))) fun (z4:Qkj)=>
            bif Nat.ble (((i_1 - 0).toNat)+((List.replicate ((IntKind.wrap .i64 ((IntKind.wrap .i64 (((s_0.length:Nat):Int)+(v_2.length:Int))) - i_1)).toNat) ((0,(⟨#[]⟩:ByteArray)):Qzl)).length)) ((Q6 (Q6 (List.take ((i_1 - 0).toNat) (List.map some s_0++List.replicate c none)++List.map some (List.replicate ((IntKind.wrap .i64 ((IntKind.wrap .i64 (((s_0.length:Nat):Int)+(v_2.length:Int))) - i_1)).toNat) ((0,(⟨#[]⟩:ByteArray)):Qzl))) (0+i_1.toNat) (List.take ((((((i_1 - 0).toNat)+((List.replicate ((IntKind.wrap .i64 ((IntKind.wrap .i64 (((s_0.length:Nat):Int)+(v_2.length:Int))) - i_1)).toNat) ((0,(⟨#[]⟩:ByteArray)):Qzl)).length):Nat):Int) - i_1).toNat) v_2)) (0+((IntKind.wrap .i64 (i_1+(v_2.length:Int))).toNat)) z4).length) then
            Option.bind (Qd (List.take (((i_1 - 0).toNat)+((List.replicate ((IntKind.wrap .i64 ((IntKind.wrap .i64 (((s_0.length:Nat):Int)+(v_2.length:Int))) - i_1)).toNat) ((0,(⟨#[]⟩:ByteArray)):Qzl)).length)) (Q6 (Q6 (List.take ((i_1 - 0).toNat) (List.map some s_0++List.replicate c none)++List.map some (List.replicate ((IntKind.wrap .i64 ((IntKind.wrap .i64 (((s_0.length:Nat):Int)+(v_2.length:Int))) - i_1)).toNat) ((0,(⟨#[]⟩:ByteArray)):Qzl))) (0+i_1.toNat) (List.take ((((((i_1 - 0).toNat)+((List.replicate ((IntKind.wrap .i64 ((IntKind.wrap .i64 (((s_0.length:Nat):Int)+(v_2.length:Int))) - i_1)).toNat) ((0,(⟨#[]⟩:ByteArray)):Qzl)).length):Nat):Int) - i_1).toNat) v_2)) (0+((IntKind.wrap .i64 (i_1+(v_2.length:Int))).toNat)) z4))) fun (z5:Qkj)=>
            some ((z5,()),())
            else none
            else none
           else none
          else none
         else none
        else none
       else none
      else none
     else none
    else none
   else
   bif decide (0≤IntKind.wrap .i64 (((s_0.length:Nat):Int)+(v_2.length:Int)))&&decide (IntKind.wrap .i64 (((s_0.length:Nat):Int)+(v_2.length:Int))≤((((List.map some s_0++List.replicate c none).length) - 0:Nat):Int)) then
    bif (decide (0≤IntKind.wrap .i64 (i_1+(v_2.length:Int)))&&decide (IntKind.wrap .i64 (i_1+(v_2.length:Int))≤((((IntKind.wrap .i64 (((s_0.length:Nat):Int)+(v_2.length:Int))) - 0).toNat:Nat):Int)))&&decide (((((IntKind.wrap .i64 (((s_0.length:Nat):Int)+(v_2.length:Int))) - 0).toNat:Nat):Int)≤((((List.map some s_0++List.replicate c none).length) - 0:Nat):Int)) then
     bif (decide (0≤IntKind.wrap .i64 (i_1+(v_2.length:Int)))&&decide (IntKind.wrap .i64 (i_1+(v_2.length:Int))≤((((IntKind.wrap .i64 (((s_0.length:Nat):Int)+(v_2.length:Int))) - 0).toNat:Nat):Int)))&&decide (((((IntKind.wrap .i64 (((s_0.length:Nat):Int)+(v_2.length:Int))) - 0).toNat:Nat):Int)≤((((List.map some s_0++List.replicate c none).length) - 0:Nat):Int)) then
      bif (decide (0≤i_1)&&decide (i_1≤((((IntKind.wrap .i64 (((s_0.length:Nat):Int)+(v_2.length:Int))) - 0).toNat:Nat):Int)))&&decide (((((IntKind.wrap .i64 (((s_0.length:Nat):Int)+(v_2.length:Int))) - 0).toNat:Nat):Int)≤((((List.map some s_0++List.replicate c none).length) - 0:Nat):Int)) then
       bif Nat.ble ((0+((IntKind.wrap .i64 (i_1+(v_2.length:Int))).toNat))+((((((IntKind.wrap .i64 (((s_0.length:Nat):Int)+(v_2.length:Int))) - 0).toNat:Nat):Int) - (IntKind.wrap .i64 (i_1+(v_2.length:Int)))).toNat)) ((List.map some s_0++List.replicate c none).length) then
        bif Nat.ble ((0+i_1.toNat)+((((((IntKind.wrap .i64 (((s_0.length:Nat):Int)+(v_2.length:Int))) - 0).toNat:Nat):Int) - i_1).toNat)) ((List.map some s_0++List.replicate c none).length) then
         Option.bind (Qd (List.take (min ((((((IntKind.wrap .i64 (((s_0.length:Nat):Int)+(v_2.length:Int))) - 0).toNat:Nat):Int) - (IntKind.wrap .i64 (i_1+(v_2.length:Int)))).toNat) ((((((IntKind.wrap .i64 (((s_0.length:Nat):Int)+(v_2.length:Int))) - 0).toNat:Nat):Int) - i_1).toNat)) (List.drop (0+i_1.toNat) (List.map some s_0++List.replicate c none)))) fun (z6:Qkj)=>
         bif (decide (0≤i_1)&&decide (i_1≤((((IntKind.wrap .i64 (((s_0.length:Nat):Int)+(v_2.length:Int))) - 0).toNat:Nat):Int)))&&decide (((((IntKind.wrap .i64 (((s_0.length:Nat):Int)+(v_2.length:Int))) - 0).toNat:Nat):Int)≤((((Q6 (List.map some s_0++List.replicate c none) (0+((IntKind.wrap .i64 (i_1+(v_2.length:Int))).toNat)) z6).length) - 0:Nat):Int)) then
          bif Nat.ble ((0+i_1.toNat)+((((((IntKind.wrap .i64 (((s_0.length:Nat):Int)+(v_2.length:Int))) - 0).toNat:Nat):Int) - i_1).toNat)) ((Q6 (List.map some s_0++List.replicate c none) (0+((IntKind.wrap .i64 (i_1+(v_2.length:Int))).toNat)) z6).length) then
           bif Nat.ble (((IntKind.wrap .i64 (((s_0.length:Nat):Int)+(v_2.length:Int))) - 0).toNat) ((Q6 (Q6 (List.map some s_0++List.replicate c none) (0+((IntKind.wrap .i64 (i_1+(v_2.length:Int))).toNat)) z6) (0+i_1.toNat) (List.take ((((((IntKind.wrap .i64 (((s_0.length:Nat):Int)+(v_2.length:Int))) - 0).toNat:Nat):Int) - i_1).toNat) v_2)).length) then
            Option.bind (Qd (List.take (((IntKind.wrap .i64 (((s_0.length:Nat):Int)+(v_2.length:Int))) - 0).toNat) (Q6 (Q6 (List.map some s_0++List.replicate c none) (0+((IntKind.wrap .i64 (i_1+(v_2.length:Int))).toNat)) z6) (0+i_1.toNat) (List.take ((((((IntKind.wrap .i64 (((s_0.length:Nat):Int)+(v_2.length:Int))) - 0).toNat:Nat):Int) - i_1).toNat) v_2)))) fun (z7:Qkj)=>
            some ((z7,()),())
           else none
          else none
         else none
        else none
       else none
      else none
     else none
    else none
   else none
  else none
 else none
theorem Z6a (c:Nat) (s_0:Qkj) (i_1:Int) (v_2:Qkj):Qde Qzz tab { Qz3 with cap:=c } 1 [.ownc 59 t58,.val t2,.own 59 t58] [⟨t32,[true],none⟩] Tryz.f192 (s_0,i_1,v_2,())=Z0f c s_0 i_1 v_2:=by kernel_rfl
theorem Z60 (c:Nat) (s_0:Qkj) (i_1:Int) (v_2:Qkj):Z0f c s_0 i_1 v_2=Qei ((0,(⟨#[]⟩:ByteArray)):Qzl) c s_0 i_1 v_2:=by kernel_rfl
noncomputable def Qwp (s_0:Qkj) (i_1:Int) (v_2:Qkj):Option ((Qkj × Unit) × Unit):=Qeg s_0 i_1 v_2
noncomputable def Z9v:Ent:=⟨[.ownc 59 t58,.val t2,.own 59 t58],[⟨t32,[true],none⟩],fun x=>Qwp x.1 x.2.1 x.2.2.1⟩
theorem Z5z:Q4u tab.ty Tryz.prog 192 Z9v:=by
  refine Qgs (Γ:=Qzz) (fi:=Qz3) (n:=1) follows (Qjy (Qjx Tryz.func192 (by kernel_rfl) (by kernel_rfl)) Qk3) Zhh Tryz.func192 (by kernel_rfl) (by kernel_rfl) (fun c x r hc h=>?_)
  obtain ⟨s_0,i_1,v_2,_u⟩:=x
  exact (Z6a c s_0 i_1 v_2).trans ((Z60 c s_0 i_1 v_2).trans (Qin ((0,(⟨#[]⟩:ByteArray)):Qzl) c s_0 i_1 v_2 r hc h))
noncomputable def Zj4 (l_0:Qkj) (next_1:Int) (i_2:Qzl):Option ((Qkj × Bool × Unit) × Unit):=
 Option.bind (Qkk l_0) fun r1=>
 Option.bind (Ql5 l_0 i_2.1 (fun x=>(Zbc x.1 x.2.1).bind fun r=>some (r.1.1,()))) fun r2=>
 bif r2.1.2.1 then
  some ((r1.1.1,false,()),())
 else
 bif decide (i_2.1<next_1) then
  some ((r1.1.1,false,()),())
 else
 bif decide (IntKind.wrap .i64 (i_2.1 - next_1) ≥ 8) then
  some ((r1.1.1,false,()),())
 else
  Option.bind (Qwp r1.1.1 r2.1.1 [i_2]) fun r3=>
  some ((r3.1.1,true,()),())
noncomputable def Zq4:Ent:=⟨[.val t32,.val t2,.val t58],[⟨t32,[true],none⟩,⟨t4,[false],none⟩],fun x=>Zj4 x.1 x.2.1 x.2.2.1⟩
theorem Zl3:GD 160 Zq4:=fnk 1 (fr [[0,1,5,22,0,25,28,0,32],[0,1,5,8,22,0,25,28,0,32],[1,5,8,9,10,22,0,25,28,0,32],[5,8,9,33],[6,7],[6,7]]) (Qjy Qmo (Qjy Qno (Qjy Zfm (Qjy Z5z Qk3)))) Tryz.func160
noncomputable def Zda (f_0:Qxo):Option ((Qxo × Unit) × Unit):=
 Option.bind (Qkk f_0.2.2.1) fun r1=>
 Option.bind (Qkk (g3 f_0)) fun r2=>
 Option.bind (Ql9 (g4 f_0)) fun r3=>
 some (((u4 (u3 (u2 f_0 r1.1.1) r2.1.1) r3.1.1),()),())
noncomputable def Ziq:Ent:=⟨[.val t36],[⟨t36,[false,false,true,true,true,false,false],none⟩],fun x=>Zda x.1⟩
theorem Zcv:GD 163 Ziq:=fnk 1 (fo [[1,2],[1,2],[2]]) (Qjy Qmo (Qjy Qm5 Qk3)) Tryz.func163
noncomputable def Zbl (l_0:Qkj):Option ((Int × Unit) × Unit):=
 bif (l_0.length:Int)==0 then
  some ((0,()),())
 else
 bif decide (0<(l_0.length:Int)) then
  some (((List.getD l_0 0 (0,(⟨#[]⟩:ByteArray))).1,()),())
 else none
noncomputable def Zmg:Ent:=⟨[.val t32],[⟨t2,[false],none⟩],fun x=>Zbl x.1⟩
theorem Zi4:GD 162 Zmg:=fnk 1 (fo [[0],[0,5],[2],[2]]) Qk3 Tryz.func162
noncomputable def Z6b (l_0:Qkj) (next_1:Int):Option ((Qkj × Qzl × Bool × Unit) × Unit):=
 Option.bind (Qkk l_0) fun r1=>
 Option.bind (Zbl l_0) fun r2=>
 bif r2.1.1 != next_1 then
  some ((r1.1.1,(0,(⟨#[]⟩:ByteArray)),false,()),())
 else
 bif (l_0.length:Int)==0 then
  some ((r1.1.1,(0,(⟨#[]⟩:ByteArray)),false,()),())
 else
 bif decide (1≤(r1.1.1.length:Int))&&decide ((r1.1.1.length:Int)≤(r1.1.1.length:Int)) then
  bif decide (0<(l_0.length:Int)) then
   some ((List.drop 1 (List.take ((r1.1.1.length:Int).toNat) r1.1.1),(List.getD l_0 0 (0,(⟨#[]⟩:ByteArray))),true,()),())
  else none
 else none
noncomputable def Zi8:Ent:=⟨[.val t32,.val t2],[⟨t32,[false],none⟩,⟨t58,[false,false],none⟩,⟨t4,[false],none⟩],fun x=>Z6b x.1 x.2.1⟩
theorem Zjo:GD 195 Zi8:=fnk 1 (fr [[0,1,5,14,0,16],[0,1,4,5,14,0,16],[0,4,5,17],[4,5,6],[4,5,6]]) (Qjy Qmo (Qjy Zi4 Qk3)) Tryz.func195
noncomputable def Qs0  : Option (((Int × Int) × Unit) × Unit):=
 some (((0,0),()),())
noncomputable def Z84:Ent:=⟨[],[⟨t34,[false,false],none⟩],fun x=>Qs0⟩
theorem Z8c:GD 167 Z84:=fnk 1 (fo [[0],[0]]) Qk3 Tryz.func167
abbrev Qsg:Type:=(Qxo × Qkj × Unit) × Unit
noncomputable def Zhc:Ctx:=[(121,Ziw),(122,Zio),(167,Z84),(195,Zi8)]
def Z96:Fi:={ keep:=[],vty:=[(4,32)],vals:=[],live:=[(0,[1,2]),(1,[1,2,4]),(2,[1,2,4,5,6,7]),(3,[1,2,4,5,6,18]),(4,[1,2,4,6]),(5,[1,2,4,6]),(6,[1,2,4]),(7,[1,2,4,44]),(8,[1,2,4]),(9,[2,3])] }
abbrev Zep:Type:=Int→Int→Qkj→Qkj→Qnj→Int→Int→Int→Int→Int→Int→Qkj→Qkj→Qnj→Qkj→Option Qsg
abbrev Z8b:Type:=Int→Int→Qkj→Int→Int→Qkj→Qnj→Int→Int→Int→Int→Qkj→Qkj→Qnj→Qkj→Option Qsg
noncomputable def Zel (L2:Z8b) (v1 v2:Int) (v3 v4:Qkj) (v5:Qnj) (v6 v7 v8 v9 v10 v11:Int) (v12 v13:Qkj) (v14:Qnj) (v15:Qkj):Option Qsg:=
 Option.bind (Z6b v4 v1) fun r16=>
 bif !r16.1.2.2.1 then
  bif decide ((v15.length:Int)>0) then
   Option.bind (Qs0) fun r17=>
   some (((v1,v2,v3,v4,v5,r17.1.1),v15,()),())
  else
   some (((v1,v2,v3,v4,v5,v6,v7),v15,()),())
 else
  Option.bind (Z9b v5 r16.1.2.1.1 r16.1.2.1.2) fun r18=>
  Option.bind (Z9h v3 r16.1.2.1) fun r19=>
  bif Nat.ble (v15.length+1) 1073741824 then
   L2 (IntKind.wrap .i64 (v1+1)) v2 r16.1.1 v6 v7 r19.1.1 r18.1.1 v8 v9 v10 v11 v12 v13 v14 (v15++[r16.1.2.1])
  else none
noncomputable def Qyu (L2:Z8b) (v20 v21:Int) (v22:Qkj) (v23 v24:Int) (v25:Qkj) (v26:Qnj) (v27 v28 v29 v30:Int) (v31 v32:Qkj) (v33:Qnj) (v34:Qkj):Option Qsg:=
 Option.bind (Z6b v22 v20) fun r35=>
 bif !r35.1.2.2.1 then
  bif decide ((v34.length:Int)>0) then
   Option.bind (Qs0) fun r36=>
   some (((v20,v21,v25,v22,v26,r36.1.1),v34,()),())
  else
   some (((v20,v21,v25,v22,v26,v23,v24),v34,()),())
 else
  Option.bind (Z9b v26 r35.1.2.1.1 r35.1.2.1.2) fun r37=>
  Option.bind (Z9h v25 r35.1.2.1) fun r38=>
  bif Nat.ble (v34.length+1) 1073741824 then
   L2 (IntKind.wrap .i64 (v20+1)) v21 r35.1.1 v23 v24 r38.1.1 r37.1.1 v27 v28 v29 v30 v31 v32 v33 (v34++[r35.1.2.1])
  else none
noncomputable def Zgu (L1:Zep) (f_0:Qxo):Option Qsg:=
 L1 f_0.1 f_0.2.1 f_0.2.2.1 (g3 f_0) (g4 f_0) (g5 f_0) (h6 f_0) 0 0 0 0 [] [] [] []
noncomputable def Qs6 (n:Nat):Nat→Z8b:=iter (fun _ _ _ _ _ _ _ _ _ _ _ _ _ _ _=>none) fun L=>Qyu L
noncomputable def Z2y (n:Nat):Nat→Zep:=Qjg (fun _ _ _ _ _ _ _ _ _ _ _ _ _ _ _=>none) fun m L=>Zel (Qs6 n m)
noncomputable def Z85 (n m:Nat) (v1 v2:Int) (v3 v4:Qkj) (v5:Qnj) (v6 v7 v8 v9 v10 v11:Int) (v12 v13:Qkj) (v14:Qnj) (v15:Qkj):Option Qsg:=
 Qjv Zhc tab (fiB [.val t36] Z96) n [.val t36] [⟨t36,(nF 7),none⟩,⟨t32,[true],none⟩] Tryz.f166 [1,1,0,0] [] [1,2,4] m
 ⟨[(1,V1 (.ptr (1,0) 0)),(2,V1 (.ptr (2,0) 0)),(4,V1 (.ref (888888,4)))],[((1,0),Ob.box 37 [LV.pure t2 v1,LV.pure t2 v2,LV.pure t32 v3,LV.pure t32 v4,LV.pure t33 v5,LV.pure t2 v6,LV.pure t2 v7]),((2,0),Ob.box 37 [LV.pure t2 v8,LV.pure t2 v9,LV.ref (2,3),LV.ref (2,4),LV.ref (2,5),LV.pure t2 v10,LV.pure t2 v11]),((2,3),Ob.row 59 t58 v12),((2,4),Ob.row 59 t58 v13),((2,5),Ob.row 55 t54 v14),((888888,4),Ob.row 59 t58 v15)]⟩
noncomputable def Z3e (n m:Nat) (v20 v21:Int) (v22:Qkj) (v23 v24:Int) (v25:Qkj) (v26:Qnj) (v27 v28 v29 v30:Int) (v31 v32:Qkj) (v33:Qnj) (v34:Qkj):Option Qsg:=
 Qjv Zhc tab (fiB [.val t36] Z96) n [.val t36] [⟨t36,(nF 7),none⟩,⟨t32,[true],none⟩] Tryz.f166 [1,1,0,0] [] [1,2,4] m
 ⟨[(1,V1 (.ptr (1,0) 0)),(2,V1 (.ptr (2,0) 0)),(4,V1 (.ref (888888,4)))],[((1,0),Ob.box 37 [LV.pure t2 v20,LV.pure t2 v21,LV.ref (1,3),LV.pure t32 v22,LV.ref (1,5),LV.pure t2 v23,LV.pure t2 v24]),((1,3),Ob.row 59 t58 v25),((1,5),Ob.row 55 t54 v26),((2,0),Ob.box 37 [LV.pure t2 v27,LV.pure t2 v28,LV.ref (2,3),LV.ref (2,4),LV.ref (2,5),LV.pure t2 v29,LV.pure t2 v30]),((2,3),Ob.row 59 t58 v31),((2,4),Ob.row 59 t58 v32),((2,5),Ob.row 55 t54 v33),((888888,4),Ob.row 59 t58 v34)]⟩
theorem Zcq (n:Nat):∀ m,Z3e n m=Qs6 n m
 | 0=>rfl
 | m+1=>by rw [show Z3e n (m+1)=Qyu (Z3e n m) from by kernel_rfl,Zcq n m];rfl
theorem Zjn (n:Nat):∀ m,Z85 n m=Z2y n m
 | 0=>rfl
 | m+1=>by rw [show Z85 n (m+1)=Zel (Z3e n m) from by kernel_rfl,Zcq n m];rfl
noncomputable def Zgr (n:Nat) (f_0:Qxo):Option Qsg:=Zgu (Z2y n n) f_0
noncomputable def Z1v (f_0:Qxo):Option Qsg:=Zgr 1099511627776 f_0
noncomputable def Zgt:Ent:=⟨[.val t36],[⟨t36,(nF 7),none⟩,⟨t32,[true],none⟩],fun x=>Z1v x.1⟩
theorem Zaf:GD 166 Zgt:=fnl Z96 (fun n x=>Zgr n x.1) (Qjy Zdc (Qjy Zde (Qjy Z8c (Qjy Zjo Qk3)))) Tryz.func166 fun n x=>Eq.trans (b:=Zgu (Z85 n n) x.1) (by kernel_rfl) (by rw [Zjn n n];rfl)
noncomputable def Zc1 (f_0:Qxo):Option ((Qxo × Qkj × Unit) × Unit):=
 Option.bind (Zda f_0) fun r1=>
 Option.bind (Z1v r1.1.1) fun r2=>
 some ((r2.1.1,r2.1.2.1,()),())
noncomputable def Znv:Ent:=⟨[.val t36],[⟨t36,(nF 7),none⟩,⟨t32,[true],none⟩],fun x=>Zc1 x.1⟩
theorem Zcz:GD 119 Znv:=fnk 1 (fo [[1,2],[2,3]]) (Qjy Zcv (Qjy Zaf Qk3)) Tryz.func119
noncomputable def Z9a (f_0:Qxo) (i_1:Qzl):Option ((Qxo × Unit) × Unit):=
 bif f_0.1==0 then
  Option.bind (Qqs f_0) fun r1=>
  some ((r1.1.1,()),())
 else
 bif decide (i_1.1<1) then
  Option.bind (Qqs f_0) fun r2=>
  some ((r2.1.1,()),())
 else
 bif decide (i_1.1>1000000) then
  Option.bind (Qqs f_0) fun r3=>
  some ((r3.1.1,()),())
 else
 bif decide ((i_1.2.size:Int)>12) then
  Option.bind (Qqs f_0) fun r4=>
  some ((r4.1.1,()),())
 else
  Option.bind (Qu3 f_0 i_1.1) fun r5=>
  Option.bind (Zj4 (g3 r5.1.1) r5.1.1.1 i_1) fun r6=>
  Option.bind (Zc1 (u3 r5.1.1 r6.1.1)) fun r7=>
  some ((r7.1.1,()),())
noncomputable def Zkv:Ent:=⟨[.val t36,.val t58],[⟨t36,(nF 7),none⟩],fun x=>Z9a x.1 x.2.1⟩
theorem Zg2:GD 102 Zkv:=fnk 1 (fr [[2,3,4,9,0,11,14,0,16,19,0,22],[2,3,4,23],[4],[2,3,4],[2,4],[2,4],[4]]) (Qjy Qxg (Qjy Qvb (Qjy Zcz (Qjy Zl3 Qk3)))) Tryz.func102
abbrev Qma:Type:=(Int × Unit) × Unit
noncomputable def Z68:Ctx:=[]
def Qwb:Fi:=fo [[0,1],[0,1,7,8],[0,1,7,8,9],[0,1,5,7,8],[0,1,5,7,8,16],[4],[0,1,7,8],[4]]
abbrev Qs2:Type:=Qkj→(Qzl × Unit→Option (Bool × Unit))→Int→Int→Option Qma
noncomputable def Qlx (L1:Qs2) (v1:Qkj) (v2:(Qzl × Unit→Option (Bool × Unit))) (v3 v4:Int):Option Qma:=
 bif decide (v4<v3) then
  bif decide (0≤v4)&&decide (v4<(v1.length:Int)) then
   Option.bind (v2 ((List.getD v1 v4.toNat (0,(⟨#[]⟩:ByteArray))),())) fun r5=>
   bif r5.1 then
    some ((v4,()),())
   else
    L1 v1 v2 v3 (IntKind.wrap .i64 (v4+1))
  else none
 else
  some (((-1),()),())
noncomputable def Qxf (L1:Qs2) (s_0:Qkj) (f_1:(Qzl × Unit→Option (Bool × Unit))):Option Qma:=
 L1 s_0 f_1 (s_0.length:Int) 0
noncomputable def Ql7 (n:Nat):Nat→Qs2:=iter (fun _ _ _ _=>none) fun L=>Qlx L
noncomputable def Qoh (n m:Nat) (v1:Qkj) (v2:(Qzl × Unit→Option (Bool × Unit))) (v3 v4:Int):Option Qma:=
 Qjv Z68 tab (fiB [.val t32,.fn [t58] [t4]] Qwb) n [.val t32,.fn [t58] [t4]] [⟨t2,[false],none⟩] Tryz.f193 [1,0,1,0] [] [0,1,7,8] m
 ⟨[(0,Vp t32 v1),(1,V1 (.clo [t58] [t4] v2)),(7,Vp t2 v3),(8,Vp t2 v4)],[]⟩
theorem Qvf (n:Nat):∀ m,Qoh n m=Ql7 n m
 | 0=>rfl
 | m+1=>by rw [show Qoh n (m+1)=Qlx (Qoh n m) from by kernel_rfl,Qvf n m];rfl
noncomputable def Qwr (n:Nat) (s_0:Qkj) (f_1:(Qzl × Unit→Option (Bool × Unit))):Option Qma:=Qxf (Ql7 n n) s_0 f_1
noncomputable def Qu0 (s_0:Qkj) (f_1:(Qzl × Unit→Option (Bool × Unit))):Option Qma:=Qwr 1099511627776 s_0 f_1
noncomputable def Z6q:Ent:=⟨[.val t32,.fn [t58] [t4]],[⟨t2,[false],none⟩],fun x=>Qu0 x.1 x.2.1⟩
theorem Z2q:GD 193 Z6q:=fnl Qwb (fun n x=>Qwr n x.1 x.2.1) Qk3 Tryz.func193 fun n x=>Eq.trans (b:=Qxf (Qoh n n) x.1 x.2.1) (by kernel_rfl) (by rw [Qvf n n];rfl)
noncomputable def Zc5 (i_0:Qzl) (x_1:Qxo):Option ((Bool × Unit) × Unit):=
 some ((decide (i_0.1 ≥ x_1.1),()),())
noncomputable def Zgz:Ent:=⟨[.val t58,.rbox t36],[⟨t4,[false],none⟩],fun x=>Zc5 x.1 x.2.1⟩
theorem Zc0:GD 194 Zgz:=fnk 1 (fo [[1,2],[3]]) Qk3 Tryz.func194
noncomputable def Z7p (f_0:Qxo) (hi_1:Int):Option ((Int × Bool × Unit) × Unit):=
 Option.bind (Qu0 (g3 f_0) (fun x=>(Zc5 x.1 f_0).bind fun r=>some (r.1.1,()))) fun r1=>
 bif decide (r1.1.1<0) then
  some ((hi_1,false,()),())
 else
 bif decide (0≤r1.1.1)&&decide (r1.1.1<((g3 f_0).length:Int)) then
  bif decide ((List.getD (g3 f_0) r1.1.1.toNat (0,(⟨#[]⟩:ByteArray))).1>hi_1) then
   some ((hi_1,false,()),())
  else
  bif decide (0≤r1.1.1)&&decide (r1.1.1<((g3 f_0).length:Int)) then
   some ((IntKind.wrap .i64 (((List.getD (g3 f_0) r1.1.1.toNat (0,(⟨#[]⟩:ByteArray))).1) - 1),true,()),())
  else none
 else none
noncomputable def Zgm:Ent:=⟨[.val t36,.val t2],[⟨t2,[false],none⟩,⟨t4,[false],none⟩],fun x=>Z7p x.1 x.2.1⟩
theorem Zhz:GD 164 Zgm:=fnk 1 (fr [[1,2,14,0,21],[1,2,6,14,0,21],[1,2,6,22],[4,5],[4,5]]) (Qjy Z2q (Qjy Zc0 Qk3)) Tryz.func164
noncomputable def Zca (l_0:Qnj) (lo_1 hi_2 why_3:Int):Option ((Qnj × Unit) × Unit):=
 Option.bind (Ql9 l_0) fun r1=>
 bif Nat.ble (r1.1.1.length+1) 1073741824 then
  some ((r1.1.1++[(2,lo_1,hi_2,(⟨#[]⟩:ByteArray),why_3)],()),())
 else none
noncomputable def Zik:Ent:=⟨[.val t33,.val t2,.val t2,.val t2],[⟨t33,[true],none⟩],fun x=>Zca x.1 x.2.1 x.2.2.1 x.2.2.2.1⟩
theorem Zjj:GD 165 Zik:=fnk 1 (fo [[0,1,2,3],[8]]) (Qjy Qm5 Qk3) Tryz.func165
abbrev Qre:Type:=(Qxo × Qrf × Unit) × Unit
noncomputable def Zgh:Ctx:=[(163,Ziq),(164,Zgm),(165,Zik),(166,Zgt),(167,Z84)]
def Z7y:Fi:={ keep:=[],vty:=[(8,146)],vals:=[],live:=[(0,[1,2,3,6,20,21]),(1,[1,2,3,6,20,21]),(2,[1,2,3,6,22]),(3,[6,7]),(4,[1,2,3,6,8]),(5,[1,2,3,6,8,9]),(6,[1,2,3,6,8,9,29]),(7,[1,2,3,6,8,9,10,11]),(8,[1,2,3,6,8,9,10,11,39]),(9,[1,2,3,6,8,9,10,11]),(10,[1,2,3,6,8,9,10,11]),(11,[1,2,3,6,8,9,11]),(12,[1,2,3,6,8,9,59]),(13,[1,2,3,6,8,9,12,13]),(14,[1,2,3,6,8,9,13]),(15,[1,2,3,6,8,9,68]),(16,[3,6,8,72]),(17,[3,6,8]),(18,[6,7])] }
abbrev Zex:Type:=Int→Int→Int→Int→Int→Int→Int→Qkj→Qkj→Qnj→Int→Int→Int→Int→Qkj→Qkj→Qnj→Qrf→Option Qre
abbrev Z95:Type:=Int→Int→Int→Int→Int→Qkj→Qkj→Qnj→Int→Int→Int→Int→Int→Int→Qkj→Qkj→Qnj→Qrf→Option Qre
noncomputable def Qzg (v5 v4 v6:Int) (v9 v10:Qkj) (v11:Qnj) (v19:Qrf) (v7 v8:Int):Option Qre:=
 bif v5 != v4 then
  Option.bind (Qs0) fun r52=>
  some (((v5,v6,v9,v10,v11,r52.1.1),v19,()),())
 else
  some (((v5,v6,v9,v10,v11,v7,v8),v19,()),())
noncomputable def Zfa (L2:Z95) (v2 v3 v4 v5 v6 v7 v8:Int) (v9 v10:Qkj) (v11:Qnj) (v12 v13 v14 v15:Int) (v16 v17:Qkj) (v18:Qnj) (v19:Qrf):Option Qre:=
 bif decide (v5≤v2) then
  Option.bind (Z7p (v5,v6,v9,v10,v11,v7,v8) v2) fun r20=>
  bif decide (r20.1.1 ≥ v5) then
   Option.bind (Zca v11 v5 r20.1.1 v3) fun r21=>
   bif Nat.ble (v19.length+1) 1073741824 then
    bif !r20.1.2.1 then
     bif (IntKind.wrap .i64 (r20.1.1+1)) != v4 then
      Option.bind (Qs0) fun r22=>
      some (((IntKind.wrap .i64 (r20.1.1+1),v6,v9,v10,r21.1.1,r22.1.1),v19++[(v5,r20.1.1)],()),())
     else
      some (((IntKind.wrap .i64 (r20.1.1+1),v6,v9,v10,r21.1.1,v7,v8),v19++[(v5,r20.1.1)],()),())
    else
     Option.bind (Z1v (IntKind.wrap .i64 (r20.1.1+1),v6,v9,v10,r21.1.1,v7,v8)) fun r23=>
     bif (r23.1.2.1.length:Int)==0 then
      bif r23.1.1.1 != v4 then
       Option.bind (Qs0) fun r24=>
       some (((e5 r23.1.1 r24.1.1),v19++[(v5,r20.1.1)],()),())
      else
       some ((r23.1.1,v19++[(v5,r20.1.1)],()),())
     else
      L2 v2 v3 v4 r23.1.1.1 r23.1.1.2.1 r23.1.1.2.2.1 (g3 r23.1.1) (g4 r23.1.1) (g5 r23.1.1) (h6 r23.1.1) v12 v13 v14 v15 v16 v17 v18 (v19++[(v5,r20.1.1)])
   else none
  else
  bif !r20.1.2.1 then
   Qzg v5 v4 v6 v9 v10 v11 v19 v7 v8
  else
   Option.bind (Z1v (v5,v6,v9,v10,v11,v7,v8)) fun r53=>
   bif (r53.1.2.1.length:Int)==0 then
    bif r53.1.1.1 != v4 then
     Option.bind (Qs0) fun r54=>
     some (((e5 r53.1.1 r54.1.1),v19,()),())
    else
     some ((r53.1.1,v19,()),())
   else
    L2 v2 v3 v4 r53.1.1.1 r53.1.1.2.1 r53.1.1.2.2.1 (g3 r53.1.1) (g4 r53.1.1) (g5 r53.1.1) (h6 r53.1.1) v12 v13 v14 v15 v16 v17 v18 v19
 else
  Qzg v5 v4 v6 v9 v10 v11 v19 v7 v8
noncomputable def Qqx (L2:Z95) (v25 v26 v27 v28 v29:Int) (v30 v31:Qkj) (v32:Qnj) (v33 v34 v35 v36 v37 v38:Int) (v39 v40:Qkj) (v41:Qnj) (v42:Qrf):Option Qre:=
 bif decide (v28≤v25) then
  Option.bind (Z7p (v28,v29,v30,v31,v32,v33,v34) v25) fun r43=>
  bif decide (r43.1.1 ≥ v28) then
   Option.bind (Zca v32 v28 r43.1.1 v26) fun r44=>
   bif Nat.ble (v42.length+1) 1073741824 then
    bif !r43.1.2.1 then
     bif (IntKind.wrap .i64 (r43.1.1+1)) != v27 then
      Option.bind (Qs0) fun r45=>
      some (((IntKind.wrap .i64 (r43.1.1+1),v29,v30,v31,r44.1.1,r45.1.1),v42++[(v28,r43.1.1)],()),())
     else
      some (((IntKind.wrap .i64 (r43.1.1+1),v29,v30,v31,r44.1.1,v33,v34),v42++[(v28,r43.1.1)],()),())
    else
     Option.bind (Z1v (IntKind.wrap .i64 (r43.1.1+1),v29,v30,v31,r44.1.1,v33,v34)) fun r46=>
     bif (r46.1.2.1.length:Int)==0 then
      bif r46.1.1.1 != v27 then
       Option.bind (Qs0) fun r47=>
       some (((e5 r46.1.1 r47.1.1),v42++[(v28,r43.1.1)],()),())
      else
       some ((r46.1.1,v42++[(v28,r43.1.1)],()),())
     else
      L2 v25 v26 v27 r46.1.1.1 r46.1.1.2.1 r46.1.1.2.2.1 (g3 r46.1.1) (g4 r46.1.1) (g5 r46.1.1) (h6 r46.1.1) v35 v36 v37 v38 v39 v40 v41 (v42++[(v28,r43.1.1)])
   else none
  else
  bif !r43.1.2.1 then
   Qzg v28 v27 v29 v30 v31 v32 v42 v33 v34
  else
   Option.bind (Z1v (v28,v29,v30,v31,v32,v33,v34)) fun r49=>
   bif (r49.1.2.1.length:Int)==0 then
    bif r49.1.1.1 != v27 then
     Option.bind (Qs0) fun r50=>
     some (((e5 r49.1.1 r50.1.1),v42,()),())
    else
     some ((r49.1.1,v42,()),())
   else
    L2 v25 v26 v27 r49.1.1.1 r49.1.1.2.1 r49.1.1.2.2.1 (g3 r49.1.1) (g4 r49.1.1) (g5 r49.1.1) (h6 r49.1.1) v35 v36 v37 v38 v39 v40 v41 v42
 else
  Qzg v28 v27 v29 v30 v31 v32 v42 v33 v34
noncomputable def Z6d (L1:Zex) (f_0:Qxo) (hi_1 why_2:Int):Option Qre:=
 Option.bind (Zda f_0) fun r1=>
 bif decide (r1.1.1.1<1) then
  some ((r1.1.1,[],()),())
 else
 bif decide (hi_1>1000000) then
  some ((r1.1.1,[],()),())
 else
  L1 hi_1 why_2 r1.1.1.1 r1.1.1.1 r1.1.1.2.1 (g5 r1.1.1) (h6 r1.1.1) r1.1.1.2.2.1 (g3 r1.1.1) (g4 r1.1.1) 0 0 0 0 [] [] [] []
noncomputable def Qw2 (n:Nat):Nat→Z95:=iter (fun _ _ _ _ _ _ _ _ _ _ _ _ _ _ _ _ _ _=>none) fun L=>Qqx L
noncomputable def Qzh (n:Nat):Nat→Zex:=Qjg (fun _ _ _ _ _ _ _ _ _ _ _ _ _ _ _ _ _ _=>none) fun m L=>Zfa (Qw2 n m)
noncomputable def Z7q (n m:Nat) (v2 v3 v4 v5 v6 v7 v8:Int) (v9 v10:Qkj) (v11:Qnj) (v12 v13 v14 v15:Int) (v16 v17:Qkj) (v18:Qnj) (v19:Qrf):Option Qre:=
 Qjv Zgh tab (fiB [.val t36,.val t2,.val t2] Z7y) n [.val t36,.val t2,.val t2] [⟨t36,(nF 7),none⟩,⟨Zqs,[true],none⟩] Tryz.f118 [1,1,1,1,1,0,0] [] [1,2,3,6,8,9] m
 ⟨[(1,Vp t2 v2),(2,Vp t2 v3),(3,V1 (.ptr (3,0) 0)),(6,V1 (.ptr (6,0) 0)),(8,V1 (.ref (888888,8))),(9,Vp t2 v4)],[((3,0),Ob.box 37 [LV.pure t2 v5,LV.pure t2 v6,LV.ref (3,3),LV.ref (3,4),LV.ref (3,5),LV.pure t2 v7,LV.pure t2 v8]),((3,3),Ob.row 59 t58 v9),((3,4),Ob.row 59 t58 v10),((3,5),Ob.row 55 t54 v11),((6,0),Ob.box 37 [LV.pure t2 v12,LV.pure t2 v13,LV.ref (6,3),LV.ref (6,4),LV.ref (6,5),LV.pure t2 v14,LV.pure t2 v15]),((6,3),Ob.row 59 t58 v16),((6,4),Ob.row 59 t58 v17),((6,5),Ob.row 55 t54 v18),((888888,8),Ob.row 100 t34 v19)]⟩
noncomputable def Z32 (n m:Nat) (v25 v26 v27 v28 v29:Int) (v30 v31:Qkj) (v32:Qnj) (v33 v34 v35 v36 v37 v38:Int) (v39 v40:Qkj) (v41:Qnj) (v42:Qrf):Option Qre:=
 Qjv Zgh tab (fiB [.val t36,.val t2,.val t2] Z7y) n [.val t36,.val t2,.val t2] [⟨t36,(nF 7),none⟩,⟨Zqs,[true],none⟩] Tryz.f118 [1,1,1,1,1,0,0] [] [1,2,3,6,8,9] m
 ⟨[(1,Vp t2 v25),(2,Vp t2 v26),(3,V1 (.ptr (3,0) 0)),(6,V1 (.ptr (6,0) 0)),(8,V1 (.ref (888888,8))),(9,Vp t2 v27)],[((3,0),Ob.box 37 [LV.pure t2 v28,LV.pure t2 v29,LV.pure t32 v30,LV.pure t32 v31,LV.pure t33 v32,LV.pure t2 v33,LV.pure t2 v34]),((6,0),Ob.box 37 [LV.pure t2 v35,LV.pure t2 v36,LV.ref (6,3),LV.ref (6,4),LV.ref (6,5),LV.pure t2 v37,LV.pure t2 v38]),((6,3),Ob.row 59 t58 v39),((6,4),Ob.row 59 t58 v40),((6,5),Ob.row 55 t54 v41),((888888,8),Ob.row 100 t34 v42)]⟩
theorem Zcy (n:Nat):∀ m,Z32 n m=Qw2 n m
 | 0=>rfl
 | m+1=>by rw [show Z32 n (m+1)=Qqx (Z32 n m) from by kernel_rfl,Zcy n m];rfl
theorem Zjs (n:Nat):∀ m,Z7q n m=Qzh n m
 | 0=>rfl
 | m+1=>by rw [show Z7q n (m+1)=Zfa (Z32 n m) from by kernel_rfl,Zcy n m];rfl
noncomputable def Zhk (n:Nat) (f_0:Qxo) (hi_1 why_2:Int):Option Qre:=Z6d (Qzh n n) f_0 hi_1 why_2
noncomputable def Zh0 (f_0:Qxo) (hi_1 why_2:Int):Option Qre:=Zhk 1099511627776 f_0 hi_1 why_2
noncomputable def Zlo:Ent:=⟨[.val t36,.val t2,.val t2],[⟨t36,(nF 7),none⟩,⟨Zqs,[true],none⟩],fun x=>Zh0 x.1 x.2.1 x.2.2.1⟩
theorem Zi2:GD 118 Zlo:=fnl Z7y (fun n x=>Zhk n x.1 x.2.1 x.2.2.1) (Qjy Zcv (Qjy Zhz (Qjy Zjj (Qjy Zaf (Qjy Z8c Qk3))))) Tryz.func118 fun n x=>Eq.trans (b:=Z6d (Z7q n n) x.1 x.2.1 x.2.2.1) (by kernel_rfl) (by rw [Zjs n n];rfl)
noncomputable def Z9f (f_0:Qxo) (lo_1 hi_2:Int):Option ((Qxo × Unit) × Unit):=
 bif f_0.1==0 then
  Option.bind (Qqs f_0) fun r1=>
  some ((r1.1.1,()),())
 else
 bif decide (lo_1<1) then
  Option.bind (Qqs f_0) fun r2=>
  some ((r2.1.1,()),())
 else
 bif decide (lo_1>hi_2) then
  Option.bind (Qqs f_0) fun r3=>
  some ((r3.1.1,()),())
 else
 bif decide (hi_2>1000000) then
  Option.bind (Qqs f_0) fun r4=>
  some ((r4.1.1,()),())
 else
 bif decide (f_0.1<lo_1) then
  Option.bind (Qu3 f_0 hi_2) fun r5=>
  some ((r5.1.1,()),())
 else
 bif decide (f_0.1>hi_2) then
  Option.bind (Qu3 f_0 hi_2) fun r6=>
  some ((r6.1.1,()),())
 else
  Option.bind (Zh0 f_0 hi_2 1) fun r7=>
  Option.bind (Zc1 (u1 r7.1.1 (if hi_2>r7.1.1.2.1 then hi_2 else r7.1.1.2.1))) fun r8=>
  some ((r8.1.1,()),())
noncomputable def Zl0:Ent:=⟨[.val t36,.val t2,.val t2],[⟨t36,(nF 7),none⟩],fun x=>Z9f x.1 x.2.1 x.2.2.1⟩
theorem Zhd:GD 103 Zl0:=fnk 1 (fr [[1,2,3,6,11,12,15,0,17,20,21,30,0,33],[1,2,3,6,22,30,0,33],[6],[2,3,6,34],[6],[2,3,6],[3,6],[3,6],[6]]) (Qjy Qxg (Qjy Qvb (Qjy Zi2 (Qjy Zcz Qk3)))) Tryz.func103
noncomputable def Z0u (m_1:Qwl) (n_0:Zen):Option ((Qxo × Unit) × Unit):=
 bif m_1.1==7 then
  Option.bind (Z9a (g4 n_0) ((g7 m_1),(h9 m_1))) fun r4=>
  some ((r4.1.1,()),())
 else
 bif m_1.1==9 then
  Option.bind (Z9f (g4 n_0) (g7 m_1) (g8 m_1)) fun r5=>
  some ((r5.1.1,()),())
 else
  some (((g4 n_0),()),())
noncomputable def Z11 (m_1:Qwl) (was_2:Int) (n_0:Zen):Option ((Qxo × Unit) × Unit):=
 bif m_1.1==5 then
  bif was_2==m_1.2.1 then
   Option.bind (Qu3 (g4 n_0) (g8 m_1)) fun r3=>
   some ((r3.1.1,()),())
  else
   Z0u m_1 n_0
 else
  Z0u m_1 n_0
noncomputable def Z13 (n_0:Zen) (m_1:Qwl) (was_2:Int):Option ((Qxo × Unit) × Unit):=
 bif m_1.2.1==(g3 (g3 n_0)) then
  bif !((g3 m_1)==(g4 (g3 n_0))) then
   some (((g4 n_0),()),())
  else
  bif m_1.1==2 then
   bif was_2 != m_1.2.1 then
    Option.bind (Z9k (g4 n_0) (g7 m_1)) fun r1=>
    Option.bind (Qu3 r1.1.1 (IntKind.wrap .i64 ((g7 m_1) - 1))) fun r2=>
    some ((r2.1.1,()),())
   else
    Z11 m_1 was_2 n_0
  else
   Z11 m_1 was_2 n_0
 else
  some (((g4 n_0),()),())
noncomputable def Zlb:Ent:=⟨[.val t38,.val t45,.val t2],[⟨t36,(nF 7),none⟩],fun x=>Z13 x.1 x.2.1 x.2.2.1⟩
theorem Zhe:GD 48 Zlb:=fnk 1 (fr [[2,3,4,6,15,0,20,32,0,35,51,0,54],[2,3,4,6,7,32,0,35,51,0,54],[2,3,4,6,22,32,0,35,51,0,54],[6],[2,3,4,6,27,51,0,54],[6],[3,4,6,46],[6],[3,4,6,61],[6],[3,4,6,73],[6],[6]]) (Qjy Qxg (Qjy Zh9 (Qjy Zg2 (Qjy Zhd Qk3)))) Tryz.func48
noncomputable def Qwd (n_0:Zen) (b_1:List Int):Option ((Zen × Qzk × Unit) × Unit):=
 Option.bind (Qs1 n_0) fun r1=>
 bif !n_0.1 then
  some ((r1.1.1,[],()),())
 else
  Option.bind (Zd8 b_1) fun r2=>
  bif !r2.1.2.1 then
   some (((e5 r1.1.1 (if 1073741824<IntKind.wrap .i64 ((h5 r1.1.1)+1) then 1073741824 else IntKind.wrap .i64 ((h5 r1.1.1)+1))),[],()),())
  else
  bif r2.1.1.2.2.1 != (g3 n_0).1 then
   some (((e5 r1.1.1 (if 1073741824<IntKind.wrap .i64 ((h5 r1.1.1)+1) then 1073741824 else IntKind.wrap .i64 ((h5 r1.1.1)+1))),[],()),())
  else
   Option.bind (Zce (g3 n_0) r2.1.1 (if 1>(g4 n_0).1 then 1 else (g4 n_0).1)) fun r3=>
   bif r2.1.1.1==8 then
    Option.bind (Z6p (u3 r1.1.1 r3.1.1) r2.1.1) fun r4=>
    bif Nat.ble (r3.1.2.1.length+r4.1.1.length) 1073741824 then
     Option.bind (Z13 (u3 r1.1.1 r3.1.1) r2.1.1 (g3 (g3 n_0))) fun r5=>
     Option.bind (Qs1 (u4 (u3 r1.1.1 r3.1.1) r5.1.1)) fun r6=>
     Option.bind (Z8k (u4 (u3 r1.1.1 r3.1.1) r5.1.1) (g4 n_0)) fun r7=>
     bif Nat.ble ((r3.1.2.1++r4.1.1).length+r7.1.1.length) 1073741824 then
      some ((r6.1.1,(r3.1.2.1++r4.1.1)++r7.1.1,()),())
     else none
    else none
   else
    Option.bind (Z13 (u3 r1.1.1 r3.1.1) r2.1.1 (g3 (g3 n_0))) fun r8=>
    Option.bind (Qs1 (u4 (u3 r1.1.1 r3.1.1) r8.1.1)) fun r9=>
    Option.bind (Z8k (u4 (u3 r1.1.1 r3.1.1) r8.1.1) (g4 n_0)) fun r10=>
    bif Nat.ble (r3.1.2.1.length+r10.1.1.length) 1073741824 then
     some ((r9.1.1,r3.1.2.1++r10.1.1,()),())
    else none
noncomputable def Zem:Ent:=⟨[.val t38,.val t25],[⟨t38,(nF 24),none⟩,⟨t48,[true],none⟩],fun x=>Qwd x.1 x.2.1⟩
theorem Z8d:GD 18 Zem:=fnk 1 (fr [[1,2,4,25,0,30],[1,2,4,6,25,0,30],[1,2,4,6,15,25,0,30],[4,5],[2,4,6,7,8,25,0,30],[2,4,6,7,31],[4,6],[4,5],[2,4,6,7,9,10],[2,4,6,7,10],[2,4,6,7,10,53],[2,4,6,7,10],[2,4,6,10],[4,5]]) (Qjy Qyp (Qjy Zj6 (Qjy Zhy (Qjy Zfg (Qjy Zhe (Qjy Zaj Qk3)))))) Tryz.func18
noncomputable def Zif (n_0:Zen):Option ((Zen × Unit) × Unit):=
 bif !n_0.1 then
  Option.bind (Qs1 n_0) fun r1=>
  some ((r1.1.1,()),())
 else
  some (((u4 (u3 (u2 (u0 n_0 false) (⟨#[]⟩:ByteArray)) Zt0) (0,0,[],[],[],0,0)),()),())
noncomputable def Zl8:Ent:=⟨[.val t38],[⟨t38,(nF 24),none⟩],fun x=>Zif x.1⟩
theorem Zfv:GD 33 Zl8:=fnk 1 (fo [[1,2],[1,2,5],[2],[2]]) (Qjy Qyp Qk3) Tryz.func33
noncomputable def Qyf  : Option ((Bool × Unit) × Unit):=
 Option.bind (Zgs Ztl 1 (⟨#[97]⟩:ByteArray) 0) fun r1=>
 Option.bind (Zgs r1.1.1 1 (⟨#[97]⟩:ByteArray) 0) fun r2=>
 Option.bind (Zmx r1.1.1 (⟨#[120]⟩:ByteArray)) fun r3=>
 Option.bind (Qwd r1.1.1 [121]) fun r4=>
 Option.bind (Zif r1.1.1) fun r5=>
 bif r1.1.2.1 then
  bif r1.1.1.1 then
   bif r1.1.1.2.1==1 then
    bif !r2.1.2.1 then
     bif r3.1.2.2.1 then
      bif (r3.1.2.1.length:Int)==0 then
       bif ((g4 (g4 r3.1.1)).length:Int)==1 then
        bif (h5 r4.1.1)==1 then
         bif (r4.1.2.1.length:Int)==0 then
          bif !r5.1.1.1 then
           some ((r5.1.1.2.1==1,()),())
          else
           some ((false,()),())
         else
          some ((false,()),())
        else
         some ((false,()),())
       else
        some ((false,()),())
      else
       some ((false,()),())
     else
      some ((false,()),())
    else
     some ((false,()),())
   else
    some ((false,()),())
  else
   some ((false,()),())
 else
  some ((false,()),())
noncomputable def Z23:Ent:=⟨[],[⟨t4,[false],none⟩],fun x=>Qyf⟩
theorem Z7a:GD 10 Z23:=fnk 1 (fr [[38,39,42,0,44,47,48,51,54,0,56,59,0,63,66,0,68,71,0,73,76,0,78,81,0,83],[1,2,38,39,42,0,44,47,48,51,54,0,56,59,0,63,66,0,68,71,0,73,76,0,78,81,0,83],[1,2,4,38,39,42,0,44,47,48,51,54,0,56,59,0,63,66,0,68,71,0,73,76,0,78,81,0,83],[1,2,4,0,7,38,39,42,0,44,47,48,51,54,0,56,59,0,63,66,0,68,71,0,73,76,0,78,81,0,83],[1,2,4,0,9,38,39,42,0,44,47,48,51,54,0,56,59,0,63,66,0,68,71,0,73,76,0,78,81,0,83],[1,2,4,0,10,38,39,42,0,44,47,48,51,54,0,56,59,0,63,66,0,68,71,0,73,76,0,78,81,0,83],[0]]) (Qjy Zi3 (Qjy Z8d (Qjy Zjh (Qjy Zfv Qk3)))) Tryz.func10
noncomputable def Z2k (l_0:List Int):Option ((Z5v × Unit) × Unit):=
 some (((l_0,0),()),())
noncomputable def Ze5:Ent:=⟨[.val t25],[⟨t74,[false,false],some 75⟩],fun x=>Z2k x.1⟩
theorem Z9l:GD 11 Ze5:=fnk 1 (fo [[0],[2]]) Qk3 Tryz.func11
noncomputable def Qk5 (p_0:Z5v) (m_1:Int):Option ((Int × Unit) × (Z5v × Unit)):=
 bif decide (p_0.2 ≥ (p_0.1.length:Int)) then
  some ((0,()),(p_0,()))
 else
 bif decide (m_1<1) then
  some ((0,()),(p_0,()))
 else
 bif decide (0≤IntKind.wrap .i64 ((IntKind.wrap .i64 (p_0.2+1)) - 1))&&decide (IntKind.wrap .i64 ((IntKind.wrap .i64 (p_0.2+1)) - 1)<(p_0.1.length:Int)) then
  bif !(m_1==0) then
   some ((Int.tmod (IntKind.wrap .i64 (List.getD p_0.1 ((IntKind.wrap .i64 ((IntKind.wrap .i64 (p_0.2+1)) - 1)).toNat) 0)) m_1,()),((p_0.1,IntKind.wrap .i64 (p_0.2+1)),()))
  else none
 else none
noncomputable def Qqc:Ent:=⟨[.box 75 t74 [false,false],.val t2],[⟨t2,[false],none⟩],fun x=>Qk5 x.1 x.2.1⟩
theorem Qlh:GD 26 Qqc:=fnk 1 (fo [[0,1,16,17],[0,1,18],[0,4],[0,1],[0,4]]) Qk3 Tryz.func26
abbrev Qm1:Type:=(Int × Int × Unit) × Unit
noncomputable def Zb3:Ctx:=[]
def Z0p:Fi:=fr [[0,19,20,28,29,37,38,56,0,59,73,74,77,0,82],[0,4,19,20,28,29,37,38,56,0,59,73,74,77,0,82],[0,4,19,20,28,29,37,38,56,0,59,73,74,77,0,82],[2,3],[0,4,11,19,20,28,29,37,38,56,0,59,73,74,77,0,82],[2,3],[0,4,15,28,29,37,38,56,0,59,73,74,77,0,82],[0,4,5,6,56,0,59,73,74,77,0,82],[0,4,24,37,38,56,0,59,73,74,77,0,82],[0,4,5,6,56,0,59,73,74,77,0,82],[0,4,33,56,0,59,73,74,77,0,82],[0,4,5,6,56,0,59,73,74,77,0,82],[0,4,5,6,45,56,0,59,73,74,77,0,82],[2,3],[0,4,0,7,56,0,59,73,74,77,0,82],[0,4,0,7,48,56,0,59,73,74,77,0,82],[0,4,0,7,56,0,59,73,74,77,0,82],[0,4,0,7,56,0,60,73,74,77,0,82],[2,3],[0,4,0,7,56,0,59,73,74,77,0,82],[4,5,83],[2,3],[2,3]]
abbrev Qp5:Type:=ByteArray→Int→Int→Int→Int→Option Qm1
noncomputable def Z02 (s_0:ByteArray) (L1:Qp5):Option Qm1:=
 bif decide (IntKind.wrap .i64 ((s_0.data.getD 0 0).toNat:Int) ≥ 240) then
  bif decide (IntKind.wrap .i64 ((s_0.data.getD 0 0).toNat:Int)≤244) then
   bif decide ((s_0.size:Int)<4) then
    some (((-1),1,()),())
   else
    L1 s_0 (IntKind.wrap .i64 ((IntKind.wrap .i64 ((s_0.data.getD 0 0).toNat:Int)) - 240)) 4 65536 1
  else
   some (((-1),1,()),())
 else
  some (((-1),1,()),())
noncomputable def Z0b (s_0:ByteArray) (L1:Qp5):Option Qm1:=
 bif decide (IntKind.wrap .i64 ((s_0.data.getD 0 0).toNat:Int) ≥ 224) then
  bif decide (IntKind.wrap .i64 ((s_0.data.getD 0 0).toNat:Int)≤239) then
   bif decide ((s_0.size:Int)<3) then
    some (((-1),1,()),())
   else
    L1 s_0 (IntKind.wrap .i64 ((IntKind.wrap .i64 ((s_0.data.getD 0 0).toNat:Int)) - 224)) 3 2048 1
  else
   Z02 s_0 L1
 else
  Z02 s_0 L1
noncomputable def Qzw (L1:Qp5) (v1:ByteArray) (v2 v3 v4 v5:Int):Option Qm1:=
 bif decide (v5<v3) then
  bif decide (0≤v5)&&decide (v5<(v1.size:Int)) then
   bif decide (((v1.data.getD v5.toNat 0).toNat:Int)<128) then
    some (((-1),1,()),())
   else
   bif decide (0≤v5)&&decide (v5<(v1.size:Int)) then
    bif decide (((v1.data.getD v5.toNat 0).toNat:Int)>191) then
     some (((-1),1,()),())
    else
    bif decide (0≤v5)&&decide (v5<(v1.size:Int)) then
     L1 v1 (IntKind.wrap .i64 ((IntKind.wrap .i64 ((IntKind.wrap .i64 (v2*64))+(IntKind.wrap .i64 ((v1.data.getD v5.toNat 0).toNat:Int)))) - 128)) v3 v4 (IntKind.wrap .i64 (v5+1))
    else none
   else none
  else none
 else
 bif decide (v2<v4) then
  some (((-1),1,()),())
 else
 bif decide (v2>1114111) then
  some (((-1),1,()),())
 else
 bif decide (v2 ≥ 55296) then
  bif decide (v2≤57343) then
   some (((-1),1,()),())
  else
   some ((v2,v3,()),())
 else
  some ((v2,v3,()),())
noncomputable def Z2l (L1:Qp5) (s_0:ByteArray):Option Qm1:=
 bif decide (0<(s_0.size:Int)) then
  bif decide (IntKind.wrap .i64 ((s_0.data.getD 0 0).toNat:Int)<128) then
   some ((IntKind.wrap .i64 ((s_0.data.getD 0 0).toNat:Int),1,()),())
  else
  bif decide (IntKind.wrap .i64 ((s_0.data.getD 0 0).toNat:Int) ≥ 194) then
   bif decide (IntKind.wrap .i64 ((s_0.data.getD 0 0).toNat:Int)≤223) then
    bif decide ((s_0.size:Int)<2) then
     some (((-1),1,()),())
    else
     L1 s_0 (IntKind.wrap .i64 ((IntKind.wrap .i64 ((s_0.data.getD 0 0).toNat:Int)) - 192)) 2 128 1
   else
    Z0b s_0 L1
  else
   Z0b s_0 L1
 else none
noncomputable def Z04 (n:Nat):Nat→Qp5:=iter (fun _ _ _ _ _=>none) fun L=>Qzw L
noncomputable def Qrg (n m:Nat) (v1:ByteArray) (v2 v3 v4 v5:Int):Option Qm1:=
 Qjv Zb3 tab (fiB [.val t9] Z0p) n [.val t9] [⟨t2,[false],none⟩,⟨t2,[false],none⟩] Tryz.f145 [1,1,1,1,1,0,1,0] [] [0,4,5,6,7] m
 ⟨[(0,Vp t9 v1),(4,Vp t2 v2),(5,Vp t2 v3),(6,Vp t2 v4),(7,Vp t2 v5)],[]⟩
theorem Qz7 (n:Nat):∀ m,Qrg n m=Z04 n m
 | 0=>rfl
 | m+1=>by rw [show Qrg n (m+1)=Qzw (Qrg n m) from by kernel_rfl,Qz7 n m];rfl
noncomputable def Z1l (n:Nat) (s_0:ByteArray):Option Qm1:=Z2l (Z04 n n) s_0
noncomputable def Z5e (s_0:ByteArray):Option Qm1:=Z1l 1099511627776 s_0
noncomputable def Z1o:Ent:=⟨[.val t9],[⟨t2,[false],none⟩,⟨t2,[false],none⟩],fun x=>Z5e x.1⟩
theorem Z79:GD 145 Z1o:=fnl Z0p (fun n x=>Z1l n x.1) Qk3 Tryz.func145 fun n x=>Eq.trans (b:=Z2l (Qrg n n) x.1) (by kernel_rfl) (by rw [Qz7 n n];rfl)
abbrev Qnh:Type:=((List Int) × Unit) × Unit
noncomputable def Z9x:Ctx:=[(145,Z1o)]
def Qz6:Fi:={ keep:=[],vty:=[(3,28)],vals:=[],live:=[(0,[0]),(1,[0,3]),(2,[0,3,8]),(3,[0,3,4,5]),(4,[0,3]),(5,[2])] }
abbrev Qtu:Type:=ByteArray→List Int→Option Qnh
noncomputable def Qyx (L1:Qtu) (v1:ByteArray) (v2:List Int):Option Qnh:=
 bif decide ((v1.size:Int)>0) then
  Option.bind (Z5e v1) fun r3=>
  bif Nat.ble (v2.length+1) 1073741824 then
   bif (decide (0≤r3.1.2.1)&&decide (r3.1.2.1≤(v1.size:Int)))&&decide ((v1.size:Int)≤(v1.size:Int)) then
    L1 (v1.extract r3.1.2.1.toNat ((v1.size:Int).toNat)) (v2++[r3.1.1])
   else none
  else none
 else
  some ((v2,()),())
noncomputable def Qzy (L1:Qtu) (s_0:ByteArray):Option Qnh:=
 L1 s_0 []
noncomputable def Qzf (n:Nat):Nat→Qtu:=iter (fun _ _=>none) fun L=>Qyx L
noncomputable def Qqv (n m:Nat) (v1:ByteArray) (v2:List Int):Option Qnh:=
 Qjv Z9x tab (fiB [.val t9] Qz6) n [.val t9] [⟨t28,[true],none⟩] Tryz.f80 [1,1,0,0] [] [0,3] m
 ⟨[(0,Vp t9 v1),(3,V1 (.ref (888888,3)))],[((888888,3),Ob.row 3 t2 v2)]⟩
theorem Qxu (n:Nat):∀ m,Qqv n m=Qzf n m
 | 0=>rfl
 | m+1=>by rw [show Qqv n (m+1)=Qyx (Qqv n m) from by kernel_rfl,Qxu n m];rfl
noncomputable def Z0l (n:Nat) (s_0:ByteArray):Option Qnh:=Qzy (Qzf n n) s_0
noncomputable def Z30 (s_0:ByteArray):Option Qnh:=Z0l 1099511627776 s_0
noncomputable def Z09:Ent:=⟨[.val t9],[⟨t28,[true],none⟩],fun x=>Z30 x.1⟩
theorem Z62:GD 80 Z09:=fnl Qz6 (fun n x=>Z0l n x.1) (Qjy Z79 Qk3) Tryz.func80 fun n x=>Eq.trans (b:=Qzy (Qqv n n) x.1) (by kernel_rfl) (by rw [Qxu n n];rfl)
abbrev Qpv:Type:=(Bool × Unit) × Unit
noncomputable def Zdk:Ctx:=[(80,Z09)]
def Z2v:Fi:=fr [[0,19,0,30,36,0,38],[3,19,0,30,36,0,38],[3,4,19,0,30,36,0,38],[3,4,10,19,0,30,36,0,38],[3,4,19,0,30,36,0,38],[3,4,19,0,31,36,0,38],[2],[2]]
abbrev Qxb:Type:=Int→List Int→Option Qpv
noncomputable def Z42 (L1:Qxb) (v2:Int) (v3:List Int):Option Qpv:=
 bif decide (v2<(v3.length:Int)) then
  bif decide (0≤v2)&&decide (v2<(v3.length:Int)) then
   bif decide (0≤v2)&&decide (v2<(v3.length:Int)) then
    bif decide (List.getD v3 v2.toNat 0<33) then
     some ((false,()),())
    else
    bif decide (0≤v2)&&decide (v2<(v3.length:Int)) then
     bif decide (0≤v2)&&decide (v2<(v3.length:Int)) then
      bif decide (List.getD v3 v2.toNat 0 ≥ 127) then
       bif decide (0≤v2)&&decide (v2<(v3.length:Int)) then
        bif decide (0≤v2)&&decide (v2<(v3.length:Int)) then
         bif decide (List.getD v3 v2.toNat 0≤159) then
          some ((false,()),())
         else
          L1 (IntKind.wrap .i64 (v2+1)) v3
        else none
       else none
      else
       L1 (IntKind.wrap .i64 (v2+1)) v3
     else none
    else none
   else none
  else none
 else
 bif decide ((v3.length:Int) ≥ 1) then
  some ((decide ((v3.length:Int)≤8),()),())
 else
  some ((false,()),())
noncomputable def Z4w (L1:Qxb) (s_0:ByteArray):Option Qpv:=
 Option.bind (Z30 s_0) fun r1=>
 L1 0 r1.1.1
noncomputable def Z36 (n:Nat):Nat→Qxb:=iter (fun _ _=>none) fun L=>Z42 L
noncomputable def Qt8 (n m:Nat) (v2:Int) (v3:List Int):Option Qpv:=
 Qjv Zdk tab (fiB [.val t9] Z2v) n [.val t9] [⟨t4,[false],none⟩] Tryz.f37 [1,1,0,1,0] [] [3,4] m
 ⟨[(3,V1 (.ref (888888,3))),(4,Vp t2 v2)],[((888888,3),Ob.row 3 t2 v3)]⟩
theorem Z27 (n:Nat):∀ m,Qt8 n m=Z36 n m
 | 0=>rfl
 | m+1=>by rw [show Qt8 n (m+1)=Z42 (Qt8 n m) from by kernel_rfl,Z27 n m];rfl
noncomputable def Z4k (n:Nat) (s_0:ByteArray):Option Qpv:=Z4w (Z36 n n) s_0
noncomputable def Z1x (s_0:ByteArray):Option Qpv:=Z4k 1099511627776 s_0
noncomputable def Ze7:Ent:=⟨[.val t9],[⟨t4,[false],none⟩],fun x=>Z1x x.1⟩
theorem Z9w:GD 37 Ze7:=fnl Z2v (fun n x=>Z4k n x.1) (Qjy Z62 Qk3) Tryz.func37 fun n x=>Eq.trans (b:=Z4w (Qt8 n n) x.1) (by kernel_rfl) (by rw [Z27 n n];rfl)
noncomputable def Qu1 (id_0 inc_1 now_2 grand_3:Int):Option ((Qvr × Unit) × Unit):=
 bif id_0==1 then
  some (((id_0,inc_1,now_2,0,0,grand_3,[1],0,now_2,0,0,0,[]),()),())
 else
  some (((id_0,inc_1,now_2,0,0,grand_3,[],0,0,0,0,0,[]),()),())
noncomputable def Z5m:Ent:=⟨[.val t2,.val t2,.val t2,.val t2],[⟨t30,(nF 6++[true,false,false,false,false,false,true]),none⟩],fun x=>Qu1 x.1 x.2.1 x.2.2.1 x.2.2.2.1⟩
theorem Z0m:GD 38 Z5m:=fnk 1 (fo [[0,1,2,3,8],[0,2,8,9],[2,8,9,16],[8,9],[8]]) Qk3 Tryz.func38
noncomputable def Qvk (n_0:Zen) (id_1:Int) (name_2:ByteArray) (grand_3:Int):Option ((Zen × Bool × Unit) × Unit):=
 bif n_0.1 then
  some ((n_0,false,()),())
 else
  Option.bind (Z1x name_2) fun r1=>
  bif !r1.1.1 then
   some ((n_0,false,()),())
  else
  bif decide (id_1<1) then
   some ((n_0,false,()),())
  else
  bif decide (id_1>8) then
   some ((n_0,false,()),())
  else
  bif decide (n_0.2.1 ≥ 1073741824) then
   some ((n_0,false,()),())
  else
   Option.bind (Qu1 id_1 (IntKind.wrap .i64 (n_0.2.1+1)) 0 grand_3) fun r2=>
   some (((true,IntKind.wrap .i64 (n_0.2.1+1),name_2,r2.1.1,(0,0,[],[],[],0,0),0),true,()),())
noncomputable def Zc2:Ent:=⟨[.val t38,.val t2,.val t9,.val t2],[⟨t38,(nF 24),none⟩,⟨t4,[false],none⟩],fun x=>Qvk x.1 x.2.1 x.2.2.1 x.2.2.2.1⟩
theorem Z7u:GD 14 Zc2:=fnk 1 (fr [[1,0,4,8,13,0,15,18,19,22,23,26,0,28],[1,0,4,8,29],[8,9],[8,9]]) (Qjy Z9w (Qjy Z0m Qk3)) Tryz.func14
noncomputable def Qod (p_0:Z5v):Option ((Bool × Unit) × (Z5v × Unit)):=
 some ((decide (p_0.2 ≥ (p_0.1.length:Int)),()),(p_0,()))
noncomputable def Qse:Ent:=⟨[.box 75 t74 [false,false]],[⟨t4,[false],none⟩],fun x=>Qod x.1⟩
theorem Quo:GD 25 Qse:=fnk 1 (fo [[0],[0,2]]) Qk3 Tryz.func25
abbrev Qoy:Type:=(Qlv × Unit) × Unit
noncomputable def Zcw:Ctx:=[]
def Z1r:Fi:={ keep:=[],vty:=[(5,29)],vals:=[],live:=[(0,[0,1]),(1,[0,1,5]),(2,[0,1,5,6]),(3,[0,1,5,6,10]),(4,[0,1,5,6]),(5,[0,1,5,6,20]),(6,[0,1,5,6]),(7,[4])] }
abbrev Qvt:Type:=Qlv→Int→Int→Qlv→Option Qoy
noncomputable def Qns (L1:Qvt) (v1:Qlv) (v2 v3:Int) (v4:Qlv):Option Qoy:=
 bif decide (v3<(v1.length:Int)) then
  bif decide (0≤v3)&&decide (v3<(v1.length:Int)) then
   bif decide (IntKind.wrap .i64 (v2 - (((List.getD v1 v3.toNat (0,0,0)).2).2))≤20) then
    bif decide (0≤v3)&&decide (v3<(v1.length:Int)) then
     bif Nat.ble (v4.length+1) 1073741824 then
      L1 v1 v2 (IntKind.wrap .i64 (v3+1)) (v4++[(List.getD v1 v3.toNat (0,0,0))])
     else none
    else none
   else
    L1 v1 v2 (IntKind.wrap .i64 (v3+1)) v4
  else none
 else
  some ((v4,()),())
noncomputable def Z2t (L1:Qvt) (l_0:Qlv) (now_1:Int):Option Qoy:=
 L1 l_0 now_1 0 []
noncomputable def Qq0 (n:Nat):Nat→Qvt:=iter (fun _ _ _ _=>none) fun L=>Qns L
noncomputable def Qsp (n m:Nat) (v1:Qlv) (v2 v3:Int) (v4:Qlv):Option Qoy:=
 Qjv Zcw tab (fiB [.val t29,.val t2] Z1r) n [.val t29,.val t2] [⟨t29,[true],none⟩] Tryz.f123 [1,1,0,1,0] [] [0,1,5,6] m
 ⟨[(0,Vp t29 v1),(1,Vp t2 v2),(5,V1 (.ref (888888,5))),(6,Vp t2 v3)],[((888888,5),Ob.row 53 t52 v4)]⟩
theorem Z05 (n:Nat):∀ m,Qsp n m=Qq0 n m
 | 0=>rfl
 | m+1=>by rw [show Qsp n (m+1)=Qns (Qsp n m) from by kernel_rfl,Z05 n m];rfl
noncomputable def Z35 (n:Nat) (l_0:Qlv) (now_1:Int):Option Qoy:=Z2t (Qq0 n n) l_0 now_1
noncomputable def Qzm (l_0:Qlv) (now_1:Int):Option Qoy:=Z35 1099511627776 l_0 now_1
noncomputable def Z2u:Ent:=⟨[.val t29,.val t2],[⟨t29,[true],none⟩],fun x=>Qzm x.1 x.2.1⟩
theorem Z8m:GD 123 Z2u:=fnl Z1r (fun n x=>Z35 n x.1 x.2.1) Qk3 Tryz.func123 fun n x=>Eq.trans (b:=Z2t (Qsp n n) x.1 x.2.1) (by kernel_rfl) (by rw [Z05 n n];rfl)
noncomputable def Qlk (t_0:Qvr):Option ((Bool × Unit) × Unit):=
 bif t_0.1==1 then
  some ((true,()),())
 else
 bif (g3 t_0) != 0 then
  some ((decide (IntKind.wrap .i64 (t_0.2.2.1 - (g8 t_0))≤20),()),())
 else
  some ((false,()),())
noncomputable def Z1t:Ent:=⟨[.val t30],[⟨t4,[false],none⟩],fun x=>Qlk x.1⟩
theorem Qxr:GD 124 Z1t:=fnk 1 (fr [[1,7,0,17],[2]]) Qk3 Tryz.func124
noncomputable def Qle (t_0:Qvr) (step_1:Int):Option ((Qvr × Unit) × Unit):=
 some (((u11 (u9 (u6 (u4 (u3 t_0 0) 0) []) 0) step_1),()),())
noncomputable def Z51:Ent:=⟨[.val t30,.val t2],[⟨t30,(nF 13),none⟩],fun x=>Qle x.1 x.2.1⟩
theorem Z07:GD 125 Z51:=fnk 1 (fo [[1,2,4],[2,4],[4]]) Qk3 Tryz.func125
noncomputable def Qk6 (t_0:Qvr) (kind_1 to_2:Int):Option ((Qwl × Unit) × Unit):=
 some (((kind_1,t_0.1,to_2,t_0.2.1,0,0,[],0,0,(⟨#[]⟩:ByteArray)),()),())
noncomputable def Z3i:Ent:=⟨[.val t30,.val t2,.val t2],[⟨t45,(nF 6++[true,false,false,false]),none⟩],fun x=>Qk6 x.1 x.2.1 x.2.2.1⟩
theorem Qql:GD 62 Z3i:=fnk 1 (fo [[1,2,3,6],[6]]) Qk3 Tryz.func62
noncomputable def Qnn (t_0:Qvr) (kind_1 to_2:Int):Option ((Qwl × Unit) × Unit):=
 Option.bind (Qk6 t_0 kind_1 to_2) fun r1=>
 bif Nat.ble (0+(g6 t_0).length) 1073741824 then
  some (((u6 (u5 (u4 r1.1.1 (g7 t_0)) (IntKind.wrap .i64 (t_0.2.2.1 - (g8 t_0)))) ([]++(g6 t_0))),()),())
 else none
noncomputable def Z38:Ent:=⟨[.val t30,.val t2,.val t2],[⟨t45,(nF 6++[true,false,false,false]),none⟩],fun x=>Qnn x.1 x.2.1 x.2.2.1⟩
theorem Qyv:GD 126 Z38:=fnk 1 (fo [[1,2,3,6],[3,6,7],[6,7],[6]]) (Qjy Qql Qk3) Tryz.func126
end Go.PE
