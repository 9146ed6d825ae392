/-
  Functions of the program, each as the evaluator answers it, and its contract.
  Conditions: none.
-/
import Derived.Test.YtmfiijdlhjajcaaGreatDoorNodeAllT
import Derived.WalkKit
import Derived.BigCall
import Derived.Lib.OthersKept
set_option linter.unusedVariables false
set_option maxRecDepth 100000
namespace Go.PE
open Go.Proofs
noncomputable section
def Qxv (a:Int):Option ((Int × Unit) × Unit):=
 bif decide (a<0) then
  some (((-1),()),())
 else
 bif decide (a≤127) then
  some ((1,()),())
 else
 bif decide (a≤2047) then
  some ((2,()),())
 else
 bif decide (55296≤a) then
  bif decide (a≤57343) then
   some (((-1),()),())
  else
  bif decide (a≤65535) then
   some ((3,()),())
  else
  bif decide (a≤1114111) then
   some ((4,()),())
  else
   some (((-1),()),())
 else
 bif decide (a≤65535) then
  some ((3,()),())
 else
 bif decide (a≤1114111) then
  some ((4,()),())
 else
  some (((-1),()),())
def Z1j:Ent:=⟨[.val t21],[⟨t2,[false],none⟩],fun x=>Qxv x.1⟩
theorem Z8p:GD 174 Z1j:=fnk 1 (fo [[0,16,17],[0,3,16,17],[2],[0,6,16,17],[2],[0,9,16,17],[2],[0,12],[2],[0,19],[2],[22],[2],[2]]) Qk2 Tryz.func174
def Qov (a:ByteArray):Option ((Int × Int × Unit) × Unit):=
 bif !(Qek a zB) then
  bif decide (0<(a.size:Int)) then
   bif decide (((a.data.getD 0 0).toNat:Int)<128) then
    bif decide (0<(a.size:Int)) then
     some ((IntKind.wrap .i32 ((a.data.getD 0 0).toNat:Int),1,()),())
    else none
   else none
  else none
 else none
def Qsu:Ent:=⟨[.val t9],[⟨t21,[false],none⟩,⟨t2,[false],none⟩],fun x=>Qov x.1⟩
theorem Qy3:GD 175 Qsu:=fnk 1 (fo [[0,7,8,9],[0,10],[2,3],[2,3]]) Qk2 Tryz.func175
def Z3v (b c d:Int) (a:List Int):Option ((Bool × Unit) × ((List Int) × Unit)):=
 bif Nat.ble (a.length+1) 1073741824 then
  some ((true,()),(a++[b],()))
 else none
def Z7p:Ent:=⟨[.val t2,.val t2,.val t2,.box 28 t28 [true]],[⟨t4,[false],none⟩],fun x=>Z3v x.1 x.2.1 x.2.2.1 x.2.2.2.1⟩
theorem Zdy:GD 144 Z7p:=fnk 1 (fo [[3,0],[3],[3,7]]) Qk2 Tryz.func144
section
open Go.RowKit
def Zq4 (s:ByteArray):Bool:=s.data.toList.all fun b=>Nat.blt b.toNat 128
def Qv6 (s:ByteArray):List Int:=s.data.toList.map fun b=>(b.toNat:Int)
theorem Zte {s:ByteArray} (h:Zq4 s=true) {i:Nat} (hi:i<s.size):(s[i]'hi).toNat<128:=by
  have:=List.all_eq_true.1 h (s.data.toList[i]'(by simpa using hi)) (List.getElem_mem _)
  exact Nat.le_of_ble_eq_true this
theorem Zqx {s:ByteArray} {i:Nat} (hi:i<s.size):(Qv6 s).take (i+1)=(Qv6 s).take i++[((s[i]'hi).toNat:Int)]:=by
  have hl:i<(Qv6 s).length:=by simpa [Qv6] using hi
  rw [List.take_succ_eq_append_getElem hl]
  simp [Qv6]
  rfl
theorem Zl4 (s:ByteArray):(Qv6 s).length=s.size:=by simp [Qv6]
abbrev X11:Ty:=.sl 3 (.int .i64)
def Zm8 (w:World) (B:Nat) (xs:List Int) (Bl:List Nat):Prop:=
  Q1r tab.ty (fun _=>False) w X11 [true] xs (.pointer (some ⟨B,0,none⟩)) Bl
theorem Zkd {S:Nat→Prop} {w w':World}:∀ {xs:List Int} {cs:List Value},Q1 tab.ty S w (.int .i64) xs cs→Q1 tab.ty (fun _=>False) w' (.int .i64) xs cs
  | [],cs,h=>h
  | x::r,cs,h=>by
    obtain ⟨c,cr,hc,h1,h2⟩:=h
    exact ⟨c,cr,hc,h1,Zkd h2⟩
theorem Zm8.mv {S:Nat→Prop} {w w':World} {B:Nat} {xs:List Int} {Bl:List Nat} (h:Q1r tab.ty S w X11 [true] xs (.pointer (some ⟨B,0,none⟩)) Bl) (hk:∀ j∈Bl,w'.heap[j]?=w.heap[j]?):Zm8 w' B xs Bl:=by
  obtain ⟨b,T,cs,B',hv,hh,hB,hown⟩:=h
  obtain ⟨c,cr,B1,B2,e1,e2,h1,h2⟩:=hown
  obtain ⟨h0,⟨cells,hr,hc⟩,hb⟩:=h1
  subst hB;subst e2;subst hb
  refine ⟨b,T,cs,_,hv,(hk b (by simp)).trans hh,rfl,c,cr,_,B2,e1,rfl,⟨h0,⟨cells,⟨hr.1,?_⟩,Zkd hc⟩,rfl⟩,h2⟩
  rcases hr.2 with hn | ⟨g,cap,cur,rfl,hg,hh',rest⟩
  · exact .inl hn
  · exact .inr ⟨g,cap,cur,rfl,hg,(hk g (by simp [blk])).trans hh',rest⟩
theorem Zwo (c:Nat) (hc:c<128) (W:World):Calls Tryz.prog 174 #[.int .i32 (c:Int)] W fun e W'=>e=.returned (.int .i64 1)∧Fr (fun _=>False) W W':=by
  have hG:Z1j.G ((c:Int),())=some (((1:Int),()),()):=by
    show Qxv (c:Int)=_
    unfold Qxv
    rw [show decide ((c:Int)<0)=false from decide_eq_false (by omega),show decide ((c:Int)≤127)=true from decide_eq_true (by omega)]
    rfl
  refine (Z8p.2 W (fun _=>False) ((c:Int),()) [.int .i32 (c:Int)] [] (((1:Int),()),()) (fun _ h=>h.elim) ⟨_,_,[],[],rfl,rfl,⟨.inr ⟨rfl,rfl⟩,rfl⟩,rfl,rfl⟩ List.nodup_nil (by simp) hG).mono ?_
  rintro e W' ⟨vs,S',B1,B2,rfl,hr,_,_,_,_,_,hf⟩
  obtain ⟨v,vr,b1,b2,rfl,_,h1,rfl,_⟩:=hr
  obtain ⟨cs,_,hcs,hcs2⟩:=h1
  have:=hcs rfl;subst this
  obtain ⟨c1,cr,_,_,e1,_,h3,_⟩:=hcs2
  have h3:Rep tab.ty S' W' (.int .i64) (1:Int) [c1]∧_=[]:=h3
  obtain ⟨rfl,_⟩:=List.cons.inj e1
  have h4:[v]=[Value.int .i64 1]:=h3.1
  obtain ⟨rfl,_⟩:=List.cons.inj h4
  exact ⟨rfl,hf.mono (fun k hk=>by cases hk)⟩
theorem Zxf (s:ByteArray) (c:Nat) (h0:s.size≠0) (hs:(s.data.getD 0 0).toNat=c) (hc:c<128) (W:World):Calls Tryz.prog 175 #[.string s] W fun e W'=>e=.returned (.tuple #[.int .i32 (c:Int),.int .i64 1])∧Fr (fun _=>False) W W':=by
  have hG:Qsu.G (s,())=some (((c:Int),(1:Int),()),()):=by
    show Qov s=_
    unfold Qov
    have e1:Qek s zB=false:=by
      rw [← Bool.not_eq_true]
      intro h
      have:s.data.toList=[]:=by simpa [Qek] using h
      exact h0 (by have:=congrArg List.length this;rw [Array.length_toList] at this;exact this)
    rw [e1,show decide (0<(s.size:Int))=true from decide_eq_true (by omega),hs,show decide ((c:Int)<128)=true from decide_eq_true (by omega)]
    have:IntKind.wrap .i32 (c:Int)=(c:Int):=by
      have h1:(c:Int) % 4294967296=c:=by omega
      rw [IntKind.wrap_i32];omega
    rw [this]
    rfl
  refine (Qy3.2 W (fun _=>False) (s,()) [.string s] [] (((c:Int),(1:Int),()),()) (fun _ h=>h.elim) ⟨_,_,[],[],rfl,rfl,⟨.inr ⟨rfl,rfl⟩,rfl⟩,rfl,rfl⟩ List.nodup_nil (by simp) hG).mono ?_
  rintro e W' ⟨vs,S',B1,B2,rfl,hr,_,_,_,_,_,hf⟩
  obtain ⟨v,vr,b1,b2,rfl,_,h1,a,vr2,_,_,rfl,_,h2,rfl,_⟩:=hr
  obtain ⟨cs,_,hcs,hcs2⟩:=h1
  have:=hcs rfl;subst this
  obtain ⟨c1,cr,_,_,e1,_,h3,_⟩:=hcs2
  have h3:Rep tab.ty S' W' (.int .i32) (c:Int) [c1]∧_=[]:=h3
  obtain ⟨rfl,_⟩:=List.cons.inj e1
  have h4:[v]=[Value.int .i32 (c:Int)]:=h3.1
  obtain ⟨rfl,_⟩:=List.cons.inj h4
  obtain ⟨cs,_,hcs,hcs2⟩:=h2
  have:=hcs rfl;subst this
  obtain ⟨c1,cr,_,_,e1,_,h3,_⟩:=hcs2
  have h3:Rep tab.ty S' W' (.int .i64) (1:Int) [c1]∧_=[]:=h3
  obtain ⟨rfl,_⟩:=List.cons.inj e1
  have h4:[a]=[Value.int .i64 1]:=h3.1
  obtain ⟨rfl,_⟩:=List.cons.inj h4
  exact ⟨rfl,hf.mono (fun k hk=>by cases hk)⟩
theorem X16 (x a b:Int) (B:Nat) (xs:List Int) (Bl:List Nat) (W:World) (hB:Zm8 W B xs Bl) (hn:Bl.Nodup) (hlt:∀ j∈Bl,j<W.heap.size) (hx:xs.length+1≤1073741824) :
    Calls Tryz.prog 144 #[.int .i64 x,.int .i64 a,.int .i64 b,.pointer (some ⟨B,0,none⟩)] W fun e W'=>e=.returned (.bool true)∧∃ Bl',Zm8 W' B (xs++[x]) Bl'∧Bl'.Nodup∧(∀ j∈Bl',j<W'.heap.size∧(W.heap.size≤j∨j∈Bl))∧Fr (fun j=>j∈Bl) W W':=by
  have hG:Z7p.G (x,a,b,xs,())=some ((true,()),(xs++[x],())):=by
    show Z3v x a b xs=_
    unfold Z3v
    rw [show Nat.ble (xs.length+1) 1073741824=true from Q2.2 hx]
    rfl
  refine (Zdy.2 W (fun _=>False) (x,a,b,xs,()) [.int .i64 x,.int .i64 a,.int .i64 b,.pointer (some ⟨B,0,none⟩)] Bl ((true,()),(xs++[x],())) (fun _ h=>h.elim)
    ⟨_,_,[],Bl,rfl,rfl,⟨.inr ⟨rfl,rfl⟩,rfl⟩,_,_,[],Bl,rfl,rfl,⟨.inr ⟨rfl,rfl⟩,rfl⟩,_,_,[],Bl,rfl,rfl,⟨.inr ⟨rfl,rfl⟩,rfl⟩,_,_,Bl,[],rfl,(List.append_nil _).symm,hB,rfl,rfl⟩ hn (fun k hk=>⟨fun h=>h,hlt k hk⟩) hG).mono ?_
  rintro e W' ⟨vs,S',B1,B2,rfl,hr,ho,hnd,hbl,_,_,hf⟩
  obtain ⟨v,vr,b1,b2,rfl,_,h1,rfl,_⟩:=hr
  obtain ⟨cs,_,hcs,hcs2⟩:=h1
  have:=hcs rfl;subst this
  obtain ⟨c1,cr,_,_,e1,_,h3,_⟩:=hcs2
  have h3:Rep tab.ty S' W' .bool true [c1]∧_=[]:=h3
  obtain ⟨rfl,_⟩:=List.cons.inj e1
  have h4:[v]=[Value.bool true]:=h3.1
  obtain ⟨rfl,_⟩:=List.cons.inj h4
  obtain ⟨c,vr3,c1,c2,e3,rfl,hv3,hc2⟩:=ho
  have hc2:c2=[]:=hc2
  subst hc2
  obtain ⟨rfl,_⟩:=List.cons.inj (show [Value.pointer (some ⟨B,0,none⟩)]=c::vr3 from e3)
  refine ⟨rfl,c1,Zm8.mv hv3 (fun _ _=>rfl),?_,fun j hj=>?_,hf⟩
  · have:=(List.nodup_append.1 hnd).2.1
    simpa using this
  · have:=hbl j (List.mem_append.2 (.inr (List.mem_append.2 (.inl hj))))
    exact this.2
set_option maxHeartbeats 4000000 in
set_option maxRecDepth 1000000 in
theorem X0l (s:ByteArray) (ha:Zq4 s=true) (hs:s.size≤1073741824) (w:World) (B:Nat) (Bl:List Nat) (hB:Zm8 w B [] Bl) (hn:Bl.Nodup) (hlt:∀ j∈Bl,j<w.heap.size) :
    Calls Tryz.prog 143 #[.string s,.func (.func 144) #[] #[.pointer (some ⟨B,0,none⟩)]] w fun e w'=>e=.returned (.tuple #[])∧∃ Bl',Zm8 w' B (Qv6 s) Bl'∧Bl'.Nodup∧(∀ j∈Bl',j<w'.heap.size∧(w.heap.size≤j∨j∈Bl))∧Fr (fun j=>j∈Bl) w w':=by
  go_enter Tryz.func143,Tryz.ntmps143
  go_wp2
  go_loopw [] (fun wr=>∃ (pos:Nat) (Bl':List Nat),wr.heap[w.heap.size]?=some (.stringIter s pos)∧pos≤s.size∧Zm8 wr B ((Qv6 s).take pos) Bl'∧Bl'.Nodup∧(∀ j∈Bl',j<wr.heap.size∧(w.heap.size<j∨j∈Bl))∧Fr (fun j=>j∈Bl) w wr) (fun wr=>s.size - wr.iterPos (w.heap.size))
  case atStart=>
    refine ⟨0,Bl,World.iter_heap w s 0,Nat.zero_le _,?_,hn,fun j hj=>⟨?_,.inr hj⟩,?_⟩
    · rw [List.take_zero];exact Zm8.mv hB (fun j hj=>RowKit.Below.heap_alloc w _ j (hlt j hj))
    · have:=hlt j hj;simp [World.iter];omega
    · exact (Fr.alloc _ w _)
  case round=>
    obtain ⟨pos,Bl',hit,hpl,hb,hn',hbl,hf⟩:=hrel
    have hk:w.heap.size<wr.heap.size:=(Array.getElem?_eq_some_iff.1 hit).1
    have hkB:w.heap.size ∉ Bl':=fun h=>by
      rcases (hbl _ h).2 with h | h
      · omega
      · exact absurd (hlt _ h) (by omega)
    by_cases hp:pos<s.size
    · have hnx:∀ ty,(Instr.next (.pointer (some ⟨w.heap.size,0,none⟩)) true ty).run Tryz.prog wr=_:=fun ty=>Lib.run_next_ascii_at wr w.heap.size s pos ty hit hp (Zte ha hp)
      generalize hc:(s[pos]'hp).toNat=c at hnx
      have hc128:c<128:=by rw [← hc];exact Zte ha hp
      have hit2:=Lib.iterAt_heap wr w.heap.size s pos (pos+1) hit
      go_wp2_with (go_at_call 174;refine (Zwo c hc128 _).mono ?_)
      rintro e W1 ⟨rfl,f1⟩
      have hsz:(s.extract pos s.size).size=s.size - pos:=by simp
      have hd0:((s.extract pos s.size).data.getD 0 0).toNat=c:=by
        rw [← hc]
        have e1:(s.extract pos s.size).data[0]?=some (s[pos]'hp):=by
          rw [ByteArray.data_extract,Array.getElem?_extract]
          rw [if_pos (by simp;omega)]
          simp only [Nat.add_zero]
          exact Array.getElem?_eq_getElem hp
        rw [Array.getD_eq_getD_getElem?,e1]
        rfl
      have f0:Fr (fun j=>j∈Bl) w (wr.iterAt w.heap.size s (pos+1)):=hf.trans' (Y:=fun j=>j=w.heap.size) ⟨rfl,rfl,rfl,by rw [Lib.iterAt_size];exact Nat.le_refl _,fun j _ hj=>Lib.iterAt_other _ _ _ _ _ hj⟩ (fun j h1 h2=>absurd h2 (by omega))
      go_wp2_with (go_at_call 175;refine (Zxf _ c (by rw [hsz];omega) hd0 hc128 _).mono ?_)
      rintro e W2 ⟨rfl,f2⟩
      have hb2:Zm8 W2 B ((Qv6 s).take pos) Bl':=Zm8.mv hb (fun j hj=>by
        have h1:j<wr.heap.size:=(hbl j hj).1
        have h2:j<(wr.iterAt w.heap.size s (pos+1)).heap.size:=by rw [Lib.iterAt_size];exact h1
        rw [f2.block (Nat.lt_of_lt_of_le h2 f1.size) (fun x=>x),f1.block h2 (fun x=>x)]
        exact Lib.iterAt_other _ _ _ _ _ (fun e=>hkB (by rw [← e];exact hj)))
      have hw2:wr.heap.size≤W2.heap.size:=by
        have:=f1.size;have:=f2.size;rw [Lib.iterAt_size] at *;omega
      have hit3:W2.heap[w.heap.size]?=some (.stringIter s (pos+1)):=by
        have h2:w.heap.size<(wr.iterAt w.heap.size s (pos+1)).heap.size:=by rw [Lib.iterAt_size];exact hk
        rw [f2.block (Nat.lt_of_lt_of_le h2 f1.size) (fun x=>x),f1.block h2 (fun x=>x)]
        exact hit2
      have c65:¬ ((c:Int)=65533):=by omega
      have fn1h:=fun (a b:Int)=>X16 (c:Int) a b B ((Qv6 s).take pos) Bl' W2 hb2 hn' (fun j hj=>Nat.lt_of_lt_of_le (hbl j hj).1 hw2) (by rw [List.length_take,Zl4];omega)
      go_wp2_with (go_at_call 144;refine (fn1h _ _).mono ?_)
      rintro e W3 ⟨rfl,Bl3,hb3,hn3,hbl3,f3⟩
      go_wp2
      go_roundw
      case rel=>
        have hk3:W3.heap[w.heap.size]?=some (.stringIter s (pos+1)):=by
          rw [f3.block (by omega) hkB];exact hit3
        refine ⟨pos+1,Bl3,hk3,hp,by rw [Zqx hp,hc];exact hb3,hn3,fun j hj=>⟨(hbl3 j hj).1,?_⟩,?_⟩
        · rcases (hbl3 j hj).2 with h | h
          · exact .inl (by omega)
          · exact (hbl j h).2
        · refine ((f0.trans' f1 (fun _ _ x=>x.elim)).trans' f2 (fun _ _ x=>x.elim)).trans' f3 (fun j h1 h2=>?_)
          rcases (hbl j h2).2 with h | h
          · omega
          · exact h
      case measure=>
        have hk3:W3.heap[w.heap.size]?=some (.stringIter s (pos+1)):=by
          rw [f3.block (by omega) hkB];exact hit3
        simp only [World.iterPos,hk3,hit]
        omega
    · have hnx:∀ ty,(Instr.next (.pointer (some ⟨w.heap.size,0,none⟩)) true ty).run Tryz.prog wr=_:=fun ty=>Lib.run_next_end_at wr w.heap.size s pos ty hit hp
      go_wp2
      go_end0
      have:pos=s.size:=by omega
      subst this
      rw [List.take_of_length_le (by rw [Zl4];exact Nat.le_refl _)] at hb
      exact ⟨rfl,Bl',hb,hn',fun j hj=>⟨(hbl j hj).1,(hbl j hj).2.imp Nat.le_of_lt id⟩,hf⟩
set_option maxHeartbeats 4000000 in
set_option maxRecDepth 1000000 in
theorem Zw4 (s:ByteArray) (ha:Zq4 s=true) (hs:s.size≤1073741824) (w:World) :
    Calls Tryz.prog 75 #[.string s] w fun e w'=>∃ v Bl,e=.returned v∧Q18 tab.ty (fun _=>False) w' 3 (.int .i64) (Qv6 s) v Bl∧(∀ j∈Bl,j<w'.heap.size∧w.heap.size≤j)∧Fr (fun _=>False) w w':=by
  have hE:=fun W B Bl h1 h2 h3=>X0l s ha hs W B Bl h1 h2 h3
  go_enter Tryz.func75,Tryz.ntmps75
  have hB0:Zm8 (w.alloc (.cells #[.slice none 0 0] 28)) w.heap.size [] [w.heap.size]:=
    ⟨w.heap.size,28,#[.slice none 0 0],[],rfl,(by show (w.heap.push _)[w.heap.size]?=_;simp),rfl,.slice none 0 0,[],[],[],rfl,rfl,⟨Nat.zero_lt_one,⟨[],World.ownsRow_nil _ 0 3 1,rfl⟩,rfl⟩,rfl,rfl⟩
  go_wp2_with (go_at_call 143;refine (hE _ _ _ hB0 (by simp) (by simp)).mono ?_)
  rintro e W1 ⟨rfl,Bl1,hb1,hn1,hbl1,f1⟩
  obtain ⟨b,T,cs,B',hv,hh,hB,hown⟩:=hb1
  obtain ⟨c,cr,B1,B2,e1,e2,h1,h2⟩:=hown
  obtain ⟨rfl,rfl⟩:cr=[]∧B2=[]:=h2
  obtain ⟨h0,⟨cells,hr,hc⟩,hb⟩:Q18 tab.ty (fun _=>False) W1 3 (.int .i64) (Qv6 s) c B1:=h1
  have hcs:cs=#[c]:=by apply Array.ext';exact e1
  subst hcs
  obtain ⟨rfl⟩:w.heap.size=b:=by injection hv with e;injection e with e;injection e
  have hcell:W1.cell? ⟨w.heap.size,0,none⟩=some c:=by simp [World.cell?,hh]
  have hfro:W1.frozen? ⟨w.heap.size,0,none⟩=false:=by simp [World.frozen?,hh]
  obtain ⟨A,n,cp,rfl⟩:=Zy hr
  subst hB;subst e2;subst hb
  have hne:∀ j∈(blk (Value.slice A n cp)).toList,j≠w.heap.size:=fun j hj e=>by
    have:=(List.nodup_cons.1 hn1).1
    exact this (by rw [← e];simpa using hj)
  have hh2:(W1.setCell ⟨w.heap.size,0,none⟩ (.slice A n cp)).heap[w.heap.size]?=some (.cells #[.slice A n cp] T (0,0)):=by
    obtain ⟨hlt2,hk2⟩:=Array.getElem?_eq_some_iff.1 hh
    show (W1.heap.modify w.heap.size _)[w.heap.size]?=_
    rw [Array.getElem?_eq_getElem (by rw [Array.size_modify];exact hlt2),Array.getElem_modify_self,hk2]
    rfl
  have hcell2:(W1.setCell ⟨w.heap.size,0,none⟩ (.slice A n cp)).cell? ⟨w.heap.size,0,none⟩=some (.slice A n cp):=by simp [World.cell?,hh2]
  go_wp2
  (try simp only [Exit.inBlock,Exit.then])
  refine bodyPost_ret (v:=.slice A n cp) (by simp only [results,show Tryz.f75.results=#[.cell 2 28] from rfl];go_simp) rfl ?_
  refine ⟨_,_,rfl,⟨h0,⟨cells,⟨hr.1,?_⟩,Zkd hc⟩,rfl⟩,fun j hj=>⟨?_,?_⟩,?_⟩
  · rcases hr.2 with hn | ⟨g,cap,cur,e,hg,hh',rest⟩
    · exact .inl hn
    · refine .inr ⟨g,cap,cur,e,hg,?_,rest⟩
      injection e with e _ _
      subst e
      exact (RowKit.Below.heap_setCell W1 _ _ g (hne g (by simp [blk]))).trans hh'
  · have:=(hbl1 j (by simp only [List.mem_cons];exact .inr (by simpa using hj))).1
    simpa using this
  · rcases (hbl1 j (by simp only [List.mem_cons];exact .inr (by simpa using hj))).2 with h | h
    · simp at h;omega
    · simp at h;omega
  · exact ((Fr.alloc (fun _=>False) w _).trans' f1 (fun j h1 h2=>by simp at h2;omega)).trans' (Fr.setCell W1 _ _) (fun j h1 h2=>by simp at h2;omega)
def Zs6 (a:ByteArray):Option (((List Int) × Unit) × Unit):=bif Zq4 a&&Nat.ble a.size 1073741824 then some ((Qv6 a,()),()) else none
def Zfz:Ent:=⟨[.val t9],[⟨t28,[true],none⟩],fun x=>Zs6 x.1⟩
theorem Zkk:Q4t tab.ty Tryz.prog 75 Zfz:=by
  refine ⟨⟨_,Tryz.func75,by kernel_rfl,by kernel_rfl⟩,fun w S x vals B r hS ha hn hB hG=>?_⟩
  obtain ⟨s,u⟩:=x
  obtain ⟨v,vr,b1,b2,rfl,rfl,⟨hv,rfl⟩,rfl,rfl⟩:=ha
  have hG:(bif Zq4 s&&Nat.ble s.size 1073741824 then some ((Qv6 s,()),()) else none)=some r:=hG
  cases hq:(Zq4 s&&Nat.ble s.size 1073741824) with
  | false=>rw [hq] at hG;cases hG
  | true=>
  rw [hq] at hG
  have hG:=Option.some.inj hG
  subst hG
  simp only [Bool.and_eq_true] at hq
  obtain ⟨hq1,hq2⟩:=hq
  have hv2:v=.string s:=by
    rcases hv with ⟨h,_⟩ | ⟨_,h⟩
    · cases h
    · have h:[v]=[Value.string s]:=h
      injection h
  subst hv2
  refine (Zw4 s hq1 (Q2.1 hq2) w).mono ?_
  rintro e w' ⟨v,Bl,rfl,hr,hbl,hf⟩
  obtain ⟨h0,⟨cells,hr,hc⟩,rfl⟩:=hr
  refine ⟨[v],S,(blk v).toList,[],rfl,⟨v,[],(blk v).toList,[],rfl,by simp,⟨[v],(fun h=>by cases h),(fun _=>rfl),v,[],(blk v).toList,[],rfl,by simp,⟨h0,⟨cells,hr,?_⟩,rfl⟩,rfl,rfl⟩,rfl,rfl⟩,rfl,?_,fun k hk=>?_,fun _ h=>h,fun k hk=>⟨Nat.lt_of_lt_of_le (hS k hk) hf.size,.inl hk⟩,hf.mono (fun _ h=>h.elim)⟩
  · exact hc.frame (fun _ h=>h.elim) (Nat.le_refl _) (fun _ _ _=>rfl)
  · cases blk v<;>simp
  · have h1:=hbl k (by simpa using hk)
    exact ⟨fun h=>by have:=hS k h;omega,h1.1,.inl h1.2⟩
end
def Zmy:Ctx:=[(75,Zfz)]
def Zlj:Fi:={ keep:=[],vty:=[(3,28),(8,28),(25,28),(29,28)],vals:=[],live:=[(0,[0,17,18,19,20,21,22,29,30,31]),(1,[3,17,18,19,20,21,22,29,30,31]),(2,[3,8,9,10,17,18,19,20,21,22,29,30,31]),(3,[3,8,9,10,11,17,18,19,20,21,22,29,30,31]),(4,[3,5,8,9,10,17,18,19,20,21,22,29,30,31]),(5,[3,8,9,10,17,18,19,20,21,22,23,29,30,31]),(6,[2]),(7,[3,8,9,10,17,18,19,20,21,22,29,30,31]),(8,[2])] }
def Zv6 (x:PDs [.val t9]):Option (RDs [⟨t4,[false],none⟩] × ODs [.val t9]):=Qdr Zmy tab Zlj 1099511627776 [.val t9] [⟨t4,[false],none⟩] Tryz.f34 x
def Zs8 (x0:ByteArray):Option ((Bool × Unit) × Unit):=Zv6 (x0,())
def Zua:Ent:=⟨[.val t9],[⟨t4,[false],none⟩],fun x=>Zs8 x.1⟩
theorem Zp7:Q4t tab.ty Tryz.prog 34 Zua:=by
  refine Qjn (Γ:=Zmy) (fi:=Zlj) (n:=1099511627776) follows (Qk1 Zkk Qk2) Zfn Tryz.func34 (by kernel_rfl) (by kernel_rfl) (fun x r h=>?_)
  obtain ⟨x0,_u⟩:=x
  exact h
def Qom (s:List Int):Option (((List Int) × Unit) × Unit):=bif Nat.ble s.length 1073741824 then some ((s,()),()) else none
theorem Zfh (s:List Int):Qdr [] tab (Qk6 Tryz.f76 []) 1 [.val t28] [⟨t28,[true],none⟩] Tryz.f76 (s,())=bif !(List.isEmpty s) then bif Nat.ble (0+s.length) 1073741824 then some (([]++s,()),()) else none
 else Q35 (some (([],()),())) (bif Nat.ble (0+s.length) 1073741824 then some (([]++s,()),()) else none):=by kernel_rfl
theorem Zgo (s:List Int):Qdr [] tab (Qk6 Tryz.f76 []) 1 [.val t28] [⟨t28,[true],none⟩] Tryz.f76 (s,())=Qom s:=by
  rw [Zfh]
  cases s with
  | nil=>exact Qbn _
  | cons x q=>rw [Nat.zero_add];rfl
def Zi9:Ent:=⟨[.val t28],[⟨t28,[true],none⟩],fun x=>Qom x.1⟩
theorem Qsb:Q4t tab.ty Tryz.prog 76 Zi9:=by
  refine Qjn (Γ:=[]) (fi:=Qk6 Tryz.f76 []) (n:=1) follows Qk2 Zfn Tryz.func76 (by kernel_rfl) (by kernel_rfl) (fun x r h=>?_)
  obtain ⟨s,_u⟩:=x
  exact (Zgo s).trans h
def Qng (s:Qkv):Option ((Qkv × Unit) × Unit):=bif Nat.ble s.length 1073741824 then some ((s,()),()) else none
theorem Zfk (s:Qkv):Qdr [] tab (Qk6 Tryz.f77 []) 1 [.val t29] [⟨t29,[true],none⟩] Tryz.f77 (s,())=bif !(List.isEmpty s) then bif Nat.ble (0+s.length) 1073741824 then some (([]++s,()),()) else none
 else Q35 (some (([],()),())) (bif Nat.ble (0+s.length) 1073741824 then some (([]++s,()),()) else none):=by kernel_rfl
theorem Zgr (s:Qkv):Qdr [] tab (Qk6 Tryz.f77 []) 1 [.val t29] [⟨t29,[true],none⟩] Tryz.f77 (s,())=Qng s:=by
  rw [Zfk]
  cases s with
  | nil=>exact Qbn _
  | cons x q=>rw [Nat.zero_add];rfl
def Zie:Ent:=⟨[.val t29],[⟨t29,[true],none⟩],fun x=>Qng x.1⟩
theorem Qpi:Q4t tab.ty Tryz.prog 77 Zie:=by
  refine Qjn (Γ:=[]) (fi:=Qk6 Tryz.f77 []) (n:=1) follows Qk2 Zfn Tryz.func77 (by kernel_rfl) (by kernel_rfl) (fun x r h=>?_)
  obtain ⟨s,_u⟩:=x
  exact (Zgr s).trans h
def Qkr (s:Qkl):Option ((Qkl × Unit) × Unit):=bif Nat.ble s.length 1073741824 then some ((s,()),()) else none
theorem Zeg (s:Qkl):Qdr [] tab (Qk6 Tryz.f78 []) 1 [.val t32] [⟨t32,[true],none⟩] Tryz.f78 (s,())=bif !(List.isEmpty s) then bif Nat.ble (0+s.length) 1073741824 then some (([]++s,()),()) else none
 else Q35 (some (([],()),())) (bif Nat.ble (0+s.length) 1073741824 then some (([]++s,()),()) else none):=by kernel_rfl
theorem Zf4 (s:Qkl):Qdr [] tab (Qk6 Tryz.f78 []) 1 [.val t32] [⟨t32,[true],none⟩] Tryz.f78 (s,())=Qkr s:=by
  rw [Zeg]
  cases s with
  | nil=>exact Qbn _
  | cons x q=>rw [Nat.zero_add];rfl
def Zh5:Ent:=⟨[.val t32],[⟨t32,[true],none⟩],fun x=>Qkr x.1⟩
theorem Qnc:Q4t tab.ty Tryz.prog 78 Zh5:=by
  refine Qjn (Γ:=[]) (fi:=Qk6 Tryz.f78 []) (n:=1) follows Qk2 Zfn Tryz.func78 (by kernel_rfl) (by kernel_rfl) (fun x r h=>?_)
  obtain ⟨s,_u⟩:=x
  exact (Zf4 s).trans h
def Qlf (s:Qlw):Option ((Qlw × Unit) × Unit):=bif Nat.ble s.length 1073741824 then some ((s,()),()) else none
theorem Zch (s:Qlw):Qdr [] tab (Qk6 Tryz.f79 []) 1 [.val t33] [⟨t33,[true],none⟩] Tryz.f79 (s,())=bif !(List.isEmpty s) then bif Nat.ble (0+s.length) 1073741824 then some (([]++s,()),()) else none
 else Q35 (some (([],()),())) (bif Nat.ble (0+s.length) 1073741824 then some (([]++s,()),()) else none):=by kernel_rfl
theorem Ze5 (s:Qlw):Qdr [] tab (Qk6 Tryz.f79 []) 1 [.val t33] [⟨t33,[true],none⟩] Tryz.f79 (s,())=Qlf s:=by
  rw [Zch]
  cases s with
  | nil=>exact Qbn _
  | cons x q=>rw [Nat.zero_add];rfl
def Zf0:Ent:=⟨[.val t33],[⟨t33,[true],none⟩],fun x=>Qlf x.1⟩
theorem Qmj:Q4t tab.ty Tryz.prog 79 Zf0:=by
  refine Qjn (Γ:=[]) (fi:=Qk6 Tryz.f79 []) (n:=1) follows Qk2 Zfn Tryz.func79 (by kernel_rfl) (by kernel_rfl) (fun x r h=>?_)
  obtain ⟨s,_u⟩:=x
  exact (Ze5 s).trans h
def Qrj (a:Qy9):Option ((Qy9 × Unit) × Unit):=
 Option.bind (Qom (g6 (g3 a))) fun b=>
 Option.bind (Qng (h12 (g3 a))) fun c=>
 Option.bind (Qkr (g4 a).2.2.1) fun d=>
 Option.bind (Qkr (g3 (g4 a))) fun e=>
 Option.bind (Qlf (g4 (g4 a))) fun f=>
 some (((u4 (u3 a (e12 (u6 (g3 a) b.1.1) c.1.1)) (u4 (u3 (u2 (g4 a) d.1.1) e.1.1) f.1.1)),()),())
def Znp:Ent:=⟨[.val t38],[⟨t38,(nF 24),none⟩],fun x=>Qrj x.1⟩
theorem Qve:GD 35 Znp:=fnk 1 (fo [[1,2],[1,2],[1,2],[2]]) (Qk1 Qsb (Qk1 Qpi (Qk1 Qnc (Qk1 Qmj Qk2)))) Tryz.func35
def Zxm (a d b c:Int):Option ((Qse × Unit) × Unit):=
 bif a==1 then
  some (((a,d,b,0,0,c,[1],0,b,0,0,0,[]),()),())
 else
  some (((a,d,b,0,0,c,[],0,0,0,0,0,[]),()),())
def Zy4:Ent:=⟨[.val t2,.val t2,.val t2,.val t2],[⟨t30,(nF 6++[true,false,false,false,false,false,true]),none⟩],fun x=>Zxm x.1 x.2.1 x.2.2.1 x.2.2.2.1⟩
theorem Zti:GD 36 Zy4:=fnk 1 (fo [[0,1,2,3,8],[0,2,8,9],[2,8,9,16],[8,9],[8]]) Qk2 Tryz.func36
def Zxr (a:Qy9) (b:Int) (c:ByteArray) (d:Int):Option ((Qy9 × Bool × Unit) × Unit):=
 bif a.1 then
  Option.bind (Qrj a) fun e=>
  some ((e.1.1,false,()),())
 else
  Option.bind (Zs8 c) fun f=>
  bif !f.1.1 then
   Option.bind (Qrj a) fun g=>
   some ((g.1.1,false,()),())
  else
  bif decide (b<1) then
   Option.bind (Qrj a) fun h=>
   some ((h.1.1,false,()),())
  else
  bif decide (b>8) then
   Option.bind (Qrj a) fun i=>
   some ((i.1.1,false,()),())
  else
  bif decide (a.2.1 ≥ 1073741824) then
   Option.bind (Qrj a) fun j=>
   some ((j.1.1,false,()),())
  else
   Option.bind (Zxm b (wJ (a.2.1+1)) 0 d) fun k=>
   some (((true,wJ (a.2.1+1),c,k.1.1,(0,0,[],[],[],0,0),0),true,()),())
def Zoc:Ent:=⟨[.val t38,.val t2,.val t9,.val t2],[⟨t38,(nF 24),none⟩,⟨t4,[false],none⟩],fun x=>Zxr x.1 x.2.1 x.2.2.1 x.2.2.2.1⟩
theorem Zox:GD 13 Zoc:=fnk 1 (fr [[1,0,4,8,14,0,16,19,20,23,24,27,0,29],[1,0,4,8,30],[8,9],[1,2,3,8,10],[8,9]]) (Qk1 Zp7 (Qk1 Qve (Qk1 Zti Qk2))) Tryz.func13
def Qpf (a:Qwt):Option ((Qwt × Unit) × Unit):=
 Option.bind (Qkr a.2.2.1) fun b=>
 Option.bind (Qkr (g3 a)) fun c=>
 Option.bind (Qlf (g4 a)) fun d=>
 some (((u4 (u3 (u2 a b.1.1) c.1.1) d.1.1),()),())
def Zu6:Ent:=⟨[.val t36],[⟨t36,[false,false,true,true,true,false,false],none⟩],fun x=>Qpf x.1⟩
theorem Qvf:GD 116 Zu6:=fnk 1 (fo [[1,2],[1,2],[2]]) (Qk1 Qnc (Qk1 Qmj Qk2)) Tryz.func116
def Zer (c:Qlw) (b:Int) (d:ByteArray):Option ((Qlw × Unit) × Unit):=
 Option.bind (Qlf c) fun a=>
 bif Nat.ble (a.1.1.length+1) 1073741824 then
  some ((a.1.1++[(1,b,b,d,0)],()),())
 else none
def Zqa:Ent:=⟨[.val t33,.val t2,.val t9],[⟨t33,[true],none⟩],fun x=>Zer x.1 x.2.1 x.2.2.1⟩
theorem Zhi:GD 121 Zqa:=fnk 1 (fo [[0,1,2],[6]]) (Qk1 Qmj Qk2) Tryz.func121
def Zax (a:(Qkl × Unit) × Unit) (b:Zgs):Option ((Qkl × Unit) × Unit):=
 bif Nat.ble (a.1.1.length+1) 1073741824 then
  bif (decide (0≤(if 0>wJ (((a.1.1++[b]).length:Int) - 6) then 0 else wJ (((a.1.1++[b]).length:Int) - 6)))&&decide ((if 0>wJ (((a.1.1++[b]).length:Int) - 6) then 0 else wJ (((a.1.1++[b]).length:Int) - 6))≤((a.1.1++[b]).length:Int)))&&decide (((a.1.1++[b]).length:Int)≤((a.1.1++[b]).length:Int)) then
   Option.bind (Qkr (List.drop ((if 0>wJ (((a.1.1++[b]).length:Int) - 6) then 0 else wJ (((a.1.1++[b]).length:Int) - 6)).toNat) (List.take (((a.1.1++[b]).length:Int).toNat) (a.1.1++[b])))) fun c=>
   some ((c.1.1,()),())
  else none
 else none
def Zep (a:Qkl) (b:Zgs):Option ((Qkl × Unit) × Unit):=
 Option.bind (Qkr a) fun c=>
 bif decide ((a.length:Int)>0) then
  bif ix (wJ ((a.length:Int) - 1)) (a.length:Int) then
   bif decide (b.1≤(List.getD a ((wJ ((a.length:Int) - 1)).toNat) (0,zB)).1) then
    some ((c.1.1,()),())
   else
    Zax c b
  else none
 else
  Zax c b
def Zpt:Ent:=⟨[.val t32,.val t58],[⟨t32,[true],none⟩],fun x=>Zep x.1 x.2.1⟩
theorem Zhq:GD 122 Zpt:=fnk 1 (fr [[0,3,12,0,21],[0,3,5,12,0,21],[3,5,22],[4],[5],[4]]) (Qk1 Qnc Qk2) Tryz.func122
def Zmg (c:Qwt) (b:ByteArray):Option ((Qwt × Bool × Unit) × Unit):=
 Option.bind (Qpf c) fun a=>
 bif decide ((b.size:Int)>12) then
  some ((a.1.1,false,()),())
 else
 bif decide ((if 1>a.1.1.1 then 1 else a.1.1.1)>1000000) then
  some ((a.1.1,false,()),())
 else
  Option.bind (Zer (g4 a.1.1) (if 1>a.1.1.1 then 1 else a.1.1.1) b) fun d=>
  Option.bind (Zep a.1.1.2.2.1 (if 1>a.1.1.1 then 1 else a.1.1.1,b)) fun e=>
  some (((u4 (u2 (u1 (u0 a.1.1 (wJ ((if 1>a.1.1.1 then 1 else a.1.1.1)+1))) (if 1>a.1.1.1 then 1 else a.1.1.1)) e.1.1) d.1.1),true,()),())
def Zwf:Ent:=⟨[.val t36,.val t9],[⟨t36,(nF 7),none⟩,⟨t4,[false],none⟩],fun x=>Zmg x.1 x.2.1⟩
theorem Zrh:GD 59 Zwf:=fnk 1 (fo [[1,2,4,16,17],[1,2,4,16,17],[1,2,4,6,16,17],[1,2,4,6,18],[4,5],[2,4,6],[2,4],[4,5]]) (Qk1 Qvf (Qk1 Zhi (Qk1 Zhq Qk2))) Tryz.func59
def Zev (a b:Qwt):Option ((Qlw × Unit) × Unit):=
 bif (decide (0≤(if ((g4 a).length:Int)<((g4 b).length:Int) then ((g4 a).length:Int) else ((g4 b).length:Int)))&&decide ((if ((g4 a).length:Int)<((g4 b).length:Int) then ((g4 a).length:Int) else ((g4 b).length:Int))≤((g4 a).length:Int)))&&decide (((g4 a).length:Int)≤((g4 a).length:Int)) then
  Option.bind (Qlf (List.drop ((if ((g4 a).length:Int)<((g4 b).length:Int) then ((g4 a).length:Int) else ((g4 b).length:Int)).toNat) (List.take (((g4 a).length:Int).toNat) (g4 a)))) fun c=>
  some ((c.1.1,()),())
 else none
def Zld:Ent:=⟨[.val t36,.val t36],[⟨t33,[true],none⟩],fun x=>Zev x.1 x.2.1⟩
theorem Zo8:GD 104 Zld:=fnk 1 (fo [[2,3],[4]]) (Qk1 Qmj Qk2) Tryz.func104
def Qtr (a:Qy9) (c f d b:Int) (e:ByteArray):Option ((Qvh × Unit) × Unit):=
 some (((c,(g3 a).1,f,(g3 a).2.1,0,0,[],d,b,e),()),())
def Z7m:Ent:=⟨[.val t38,.val t2,.val t2,.val t2,.val t2,.val t9],[⟨t45,(nF 6++[true,false,false,false]),none⟩],fun x=>Qtr x.1 x.2.1 x.2.2.1 x.2.2.2.1 x.2.2.2.2.1 x.2.2.2.2.2.1⟩
theorem Z72:GD 58 Z7m:=fnk 1 (fr [[1,0,6,12],[12]]) Qk2 Tryz.func58
abbrev Qsz:Type:=(Qpc × Unit) × Unit
def Znd:Ctx:=[(58,Z7m),(104,Zld)]
def Zd2:Fi:={ keep:=[],vty:=[(4,48)],vals:=[],live:=[(0,[2,3,4]),(1,[2,4,12,13,14]),(2,[2,4,12,13,14,15]),(3,[2,4,6,12,13,14]),(4,[2,4,6,12,13,14,20,21,22]),(5,[2,4,6,12,13,14,20,21,22,23]),(6,[2,4,6,8,12,13,14,20,21,22]),(7,[2,4,6,8,12,13,14,20,21,22,28]),(8,[2,4,6,12,13,14,20,21,22]),(9,[2,4,6,12,13,14,20,21,22]),(10,[2,4,6,12,13,14,20,21,22]),(11,[2,4,12,13,14]),(12,[4])] }
abbrev Z8f:Type:=Int→Int→Bool→Int→ByteArray→Int→Int→Int→Int→Int→Int→List Int→Int→Int→Int→Int→Int→Qkv→Int→Int→Qkl→Qkl→Qlw→Int→Int→Int→Qpc→Qlw→Option Qsz
abbrev Z7c:Type:=Int→Int→Qkv→Int→Int→Bool→Int→ByteArray→Int→Int→Int→Int→Int→Int→List Int→Int→Int→Int→Int→Int→Qkv→Int→Int→Qkl→Qkl→Qlw→Int→Int→Int→Qpc→Int→Int→Int→ByteArray→Int→Qlw→Option Qsz
def Ze6 (a:Qpc) (L2:Z7c) (c d:Int) (e:Qkv) (f g:Int) (h:Bool) (i:Int) (j:ByteArray) (k l m n o p:Int) (q:List Int) (r s t u v:Int) (w:Qkv) (x y:Int) (z A:Qkl) (B:Qlw) (C D E:Int) (b:(Qvh × Unit) × Unit) (F G H:Int) (I:ByteArray) (J:Int) (K:Qlw):Option Qsz:=
 bif Nat.ble (a.length+1) 1073741824 then
  L2 c d e f (wJ (g+1)) h i j k l m n o p q r s t u v w x y z A B C D E (a++[b.1.1]) F G H I J K
 else none
def Qzf (L2:Z7c) (d a:Int) (w:Bool) (x:Int) (y:ByteArray) (z A B f g h:Int) (i:List Int) (j k l m n:Int) (c:Qkv) (o p:Int) (q r:Qkl) (s:Qlw) (t u v:Int) (e:Qpc) (b:Qlw):Option Qsz:=
 bif decide (a<d) then
  bif ix a (b.length:Int) then
   bif ix a (b.length:Int) then
    L2 d a c (c.length:Int) 0 w x y z A B f g h i j k l m n c o p q r s t u v e ((List.getD b a.toNat Zqc).1) (((List.getD b a.toNat Zqc).2).1) ((((List.getD b a.toNat Zqc).2).2).1) (((((List.getD b a.toNat Zqc).2).2).2).1) (((((List.getD b a.toNat Zqc).2).2).2).2) b
   else none
  else none
 else
  some ((e,()),())
def Qzi (L2:Z7c) (L1:Z8f) (B C:Int) (b:Qkv) (D a:Int) (c:Bool) (d:Int) (e:ByteArray) (f g h i j k:Int) (l:List Int) (m n o p q:Int) (r:Qkv) (s t:Int) (u v:Qkl) (w:Qlw) (x y z:Int) (E:Qpc) (F A G:Int) (H:ByteArray) (J:Int) (I:Qlw):Option Qsz:=
 bif decide (a<D) then
  bif ix a (b.length:Int) then
   bif F==1 then
    Option.bind (Qtr (c,d,e,(f,g,h,i,j,k,l,m,n,o,p,q,r),(s,t,u,v,w,x,y),z) 7 ((List.getD b a.toNat (0,0,0)).1) A 0 H) fun K=>
    Ze6 E L2 B C b D a c d e f g h i j k l m n o p q r s t u v w x y z K F A G H J I
   else
    Option.bind (Qtr (c,d,e,(f,g,h,i,j,k,l,m,n,o,p,q,r),(s,t,u,v,w,x,y),z) 9 ((List.getD b a.toNat (0,0,0)).1) A G zB) fun L=>
    Ze6 E L2 B C b D a c d e f g h i j k l m n o p q r s t u v w x y z L F A G H J I
  else none
 else
  L1 B (wJ (C+1)) c d e f g h i j k l m n o p q r s t u v w x y z E I
def Zav (L1:Z8f) (a:Qy9) (c:Qwt):Option Qsz:=
 Option.bind (Zev (g4 a) c) fun b=>
 L1 (b.1.1.length:Int) 0 a.1 a.2.1 a.2.2.1 (g3 a).1 (g3 a).2.1 (g3 a).2.2.1 (g3 (g3 a)) (g4 (g3 a)) (g5 (g3 a)) (g6 (g3 a)) (g7 (g3 a)) (g8 (g3 a)) (g9 (g3 a)) (g10 (g3 a)) (g11 (g3 a)) (h12 (g3 a)) (g4 a).1 (g4 a).2.1 (g4 a).2.2.1 (g3 (g4 a)) (g4 (g4 a)) (g5 (g4 a)) (h6 (g4 a)) (h5 a) [] b.1.1
def Qws (n:Nat) (m1:Nat) (a:Z8f):Nat→Z7c:=iter (fun _ _ _ _ _ _ _ _ _ _ _ _ _ _ _ _ _ _ _ _ _ _ _ _ _ _ _ _ _ _ _ _ _ _ _ _=>none) fun L=>Qzi L a
def Qwe (n:Nat):Nat→Z8f:=Qjd (fun _ _ _ _ _ _ _ _ _ _ _ _ _ _ _ _ _ _ _ _ _ _ _ _ _ _ _ _=>none) fun m L=>Qzf (Qws n m L n)
def Z36 (n m:Nat) (k x:Int) (y:Bool) (z:Int) (A:ByteArray) (B C D a b c:Int) (d:List Int) (e f g h i:Int) (j:Qkv) (l o:Int) (p q:Qkl) (r:Qlw) (s t u:Int) (v:Qpc) (w:Qlw):Option Qsz:=
 Qjr Znd tab (fiB [.val t38,.val t36] Zd2) n [.val t38,.val t36] [⟨t48,[true],none⟩] Tryz.f49 [1,0,1,0] [] [2,4,12,13,14] m
 ⟨[(2,V1 (.ptr (2,0) 0)),(4,V1 (.ref (888888,4))),(12,V1 (.ref (888888,12))),(13,Vp t2 k),(14,Vp t2 x)],[((2,0),Ob.box 39 [LV.pure t4 y,LV.pure t2 z,LV.pure t9 A,LV.pure t2 B,LV.pure t2 C,LV.pure t2 D,LV.pure t2 a,LV.pure t2 b,LV.pure t2 c,LV.pure t28 d,LV.pure t2 e,LV.pure t2 f,LV.pure t2 g,LV.pure t2 h,LV.pure t2 i,LV.pure t29 j,LV.pure t2 l,LV.pure t2 o,LV.pure t32 p,LV.pure t32 q,LV.pure t33 r,LV.pure t2 s,LV.pure t2 t,LV.pure t2 u]),((888888,4),Ob.row 46 t45 v),((888888,12),Ob.row 55 t54 w)]⟩
def Z7h (n m1 m:Nat) (a b:Int) (c:Qkv) (d e:Int) (f:Bool) (g:Int) (h:ByteArray) (i j k l o p:Int) (q:List Int) (r s t u v:Int) (w:Qkv) (x y:Int) (z A:Qkl) (B:Qlw) (C D E:Int) (F:Qpc) (G H I:Int) (J:ByteArray) (K:Int) (L:Qlw):Option Qsz:=
 Qjr Znd tab (fiB [.val t38,.val t36] Zd2) n [.val t38,.val t36] [⟨t48,[true],none⟩] Tryz.f49 [1,0,1,0,0,1,1,0,0,1,1,0] [(m1,[2,4,12,13,14])] [2,4,6,12,13,14,20,21,22] m
 ⟨[(2,V1 (.ptr (2,0) 0)),(4,V1 (.ref (888888,4))),(6,V1 (.ptr (6,0) 0)),(12,V1 (.ref (888888,12))),(13,Vp t2 a),(14,Vp t2 b),(20,Vp t29 c),(21,Vp t2 d),(22,Vp t2 e)],[((2,0),Ob.box 39 [LV.pure t4 f,LV.pure t2 g,LV.pure t9 h,LV.pure t2 i,LV.pure t2 j,LV.pure t2 k,LV.pure t2 l,LV.pure t2 o,LV.pure t2 p,LV.pure t28 q,LV.pure t2 r,LV.pure t2 s,LV.pure t2 t,LV.pure t2 u,LV.pure t2 v,LV.pure t29 w,LV.pure t2 x,LV.pure t2 y,LV.pure t32 z,LV.pure t32 A,LV.pure t33 B,LV.pure t2 C,LV.pure t2 D,LV.pure t2 E]),((888888,4),Ob.row 46 t45 F),((6,0),Ob.box 55 [LV.pure t2 G,LV.pure t2 H,LV.pure t2 I,LV.pure t9 J,LV.pure t2 K]),((888888,12),Ob.row 55 t54 L)]⟩
theorem Zjr (n m1:Nat):∀ m,Z7h n m1 m=Qws n m1 (Z36 n m1) m
 | 0=>rfl
 | m+1=>by rw [show Z7h n m1 (m+1)=Qzi (Z7h n m1 m) (Z36 n m1) from by kernel_rfl,Zjr n m1 m];rfl
theorem Zin (n:Nat):∀ m,Z36 n m=Qwe n m
 | 0=>rfl
 | m+1=>by rw [show Z36 n (m+1)=Qzf (Z7h n m n) from by kernel_rfl,Zjr n m n,Zin n m];rfl
def Znt (n:Nat) (a:Qy9) (b:Qwt):Option Qsz:=Zav (Qwe n n) a b
def Qy4 (a:Qy9) (b:Qwt):Option Qsz:=Znt 1099511627776 a b
def Znf:Ent:=⟨[.val t38,.val t36],[⟨t48,[true],none⟩],fun x=>Qy4 x.1 x.2.1⟩
theorem Z93:GD 49 Znf:=fnl Zd2 (fun n x=>Znt n x.1 x.2.1) (Qk1 Z72 (Qk1 Zo8 Qk2)) Tryz.func49 fun n x=>Eq.trans (b:=Zav (Z36 n n) x.1 x.2.1) (by kernel_rfl) (by rw [Zin n n];rfl)
def Zmo (a:Qy9) (e:ByteArray):Option ((Qy9 × Qpc × Bool × Unit) × Unit):=
 Option.bind (Qrj a) fun b=>
 bif !a.1 then
  some ((b.1.1,[],false,()),())
 else
 bif (g3 a).1 != 1 then
  some ((b.1.1,[],false,()),())
 else
  Option.bind (Zmg (g4 a) e) fun c=>
  bif !c.1.2.1 then
   some ((b.1.1,[],false,()),())
  else
   Option.bind (Qy4 (u4 b.1.1 c.1.1) (g4 a)) fun d=>
   some (((u4 b.1.1 c.1.1),d.1.1,true,()),())
def Zk5:Ent:=⟨[.val t38,.val t9],[⟨t38,(nF 24),none⟩,⟨t48,[true],none⟩,⟨t4,[false],none⟩],fun x=>Zmo x.1 x.2.1⟩
theorem Zhz:GD 23 Zk5:=fnk 1 (fr [[1,2,4,16,0,19],[1,2,4,7,16,0,19],[1,2,4,7,20],[4,5,6],[2,4,7,8,9],[2,4,7,8,30],[4,5,6],[2,4,7],[4,5,6]]) (Qk1 Qve (Qk1 Z93 (Qk1 Zrh Qk2))) Tryz.func23
abbrev Z2j:Type:=(Int × Int × IV × Unit) × Unit
def Ztz:Ctx:=[]
def Zlw:Fi:=fr [[0,2,3,11,12,33,34,37,38],[0,2,3,11,0,13,33,34,37,38],[0,2,3,5,11,12,33,34,37,38],[0,2,3,5,11,12,33,34,37,38],[0,2,3,5,11,12,33,34,37,38],[0,2,3,5,11,12,29,33,34,37,38],[2,3,39],[2,3,4],[2,3,4]]
abbrev Zec:Type:=List Int→Int→Int→Option Z2j
def Z8m (L1:Zec) (b:List Int) (c a:Int):Option Z2j:=
 bif decide (a<(b.length:Int)) then
  bif decide (a<5) then
   bif decide (0≤a)&&decide (a<(b.length:Int)) then
    bif decide (0≤wJ (7*a)) then
     bif decide (List.getD b a.toNat 0 ≥ 128) then
      L1 b (wJ ((BitVec.ofInt 64 c ||| BitVec.ofInt 64 (wJ ((wJ (IntKind.wrap .u8 ((BitVec.ofInt 8 (List.getD b a.toNat 0) &&& BitVec.ofInt 8 127).toNat)))*2 ^ (min ((wJ (7*a)).toNat) 64)))).toNat)) (wJ (a+1))
     else
     bif decide (wJ (a+1)>1) then
      bif (List.getD b a.toNat 0)==0 then
       some ((0,0,IV.mk 216 [],()),())
      else
      bif decide (wJ ((BitVec.ofInt 64 c ||| BitVec.ofInt 64 (wJ ((wJ (IntKind.wrap .u8 ((BitVec.ofInt 8 (List.getD b a.toNat 0) &&& BitVec.ofInt 8 127).toNat)))*2 ^ (min ((wJ (7*a)).toNat) 64)))).toNat)>1073741824) then
       some ((0,0,IV.mk 216 [],()),())
      else
       some ((wJ ((BitVec.ofInt 64 c ||| BitVec.ofInt 64 (wJ ((wJ (IntKind.wrap .u8 ((BitVec.ofInt 8 (List.getD b a.toNat 0) &&& BitVec.ofInt 8 127).toNat)))*2 ^ (min ((wJ (7*a)).toNat) 64)))).toNat),wJ (a+1),IV.nil,()),())
     else
     bif decide (wJ ((BitVec.ofInt 64 c ||| BitVec.ofInt 64 (wJ ((wJ (IntKind.wrap .u8 ((BitVec.ofInt 8 (List.getD b a.toNat 0) &&& BitVec.ofInt 8 127).toNat)))*2 ^ (min ((wJ (7*a)).toNat) 64)))).toNat)>1073741824) then
      some ((0,0,IV.mk 216 [],()),())
     else
      some ((wJ ((BitVec.ofInt 64 c ||| BitVec.ofInt 64 (wJ ((wJ (IntKind.wrap .u8 ((BitVec.ofInt 8 (List.getD b a.toNat 0) &&& BitVec.ofInt 8 127).toNat)))*2 ^ (min ((wJ (7*a)).toNat) 64)))).toNat),wJ (a+1),IV.nil,()),())
    else none
   else none
  else
   some ((0,0,IV.mk 216 [],()),())
 else
  some ((0,0,IV.mk 216 [],()),())
def Znz (L1:Zec) (a:List Int):Option Z2j:=
 L1 a 0 0
def Z8d (n:Nat):Nat→Zec:=iter (fun _ _ _=>none) fun L=>Z8m L
def Z77 (n m:Nat) (a:List Int) (b c:Int):Option Z2j:=
 Qjr Ztz tab (fiB [.val t25] Zlw) n [.val t25] [⟨t2,[false],none⟩,⟨t2,[false],none⟩,⟨t20,[false],none⟩] Tryz.f197 [1,0,0] [] [0,2,3] m
 ⟨[(0,Vp t25 a),(2,Vp t2 b),(3,Vp t2 c)],[]⟩
theorem Zia (n:Nat):∀ m,Z77 n m=Z8d n m
 | 0=>rfl
 | m+1=>by rw [show Z77 n (m+1)=Z8m (Z77 n m) from by kernel_rfl,Zia n m];rfl
def Zor (n:Nat) (a:List Int):Option Z2j:=Znz (Z8d n n) a
def Zn1 (a:List Int):Option Z2j:=Zor 1099511627776 a
def Zv4:Ent:=⟨[.val t25],[⟨t2,[false],none⟩,⟨t2,[false],none⟩,⟨t20,[false],none⟩],fun x=>Zn1 x.1⟩
theorem Zpa:GD 197 Zv4:=fnl Zlw (fun n x=>Zor n x.1) Qk2 Tryz.func197 fun n x=>Eq.trans (b:=Znz (Z77 n n) x.1) (by kernel_rfl) (by rw [Zia n n];rfl)
def Zdb (b:List Int):Option ((Int × Int × Bool × Unit) × Unit):=
 Option.bind (Zn1 b) fun a=>
 some ((a.1.1,a.1.2.1,!(IV.is a.1.2.2.1 216),()),())
def Zun:Ent:=⟨[.val t25],[⟨t2,[false],none⟩,⟨t2,[false],none⟩,⟨t4,[false],none⟩],fun x=>Zdb x.1⟩
theorem Zge:GD 176 Zun:=fnk 1 (fo [[0],[2,3,5],[2,3,7],[2,3,4]]) (Qk1 Zpa Qk2) Tryz.func176
def Qke (a:Zma) (c:ByteArray):Option ((Int × Unit) × (Zma × Unit)):=
 bif !(IV.isNil a.2) then
  some ((0,()),(a,()))
 else
  Option.bind (Zdb a.1) fun b=>
  bif !b.1.2.2.1 then
   bif (decide (0≤b.1.2.1)&&decide (b.1.2.1≤(a.1.length:Int)))&&decide ((a.1.length:Int)≤(a.1.length:Int)) then
    some ((b.1.1,()),((List.drop b.1.2.1.toNat (List.take ((a.1.length:Int).toNat) a.1),IV.mk 134 [.str c]),()))
   else none
  else
  bif (decide (0≤b.1.2.1)&&decide (b.1.2.1≤(a.1.length:Int)))&&decide ((a.1.length:Int)≤(a.1.length:Int)) then
   some ((b.1.1,()),((List.drop b.1.2.1.toNat (List.take ((a.1.length:Int).toNat) a.1),a.2),()))
  else none
def Zc0:Ent:=⟨[.box 131 Zym [false,false],.val t9],[⟨t2,[false],none⟩],fun x=>Qke x.1 x.2.1⟩
theorem Zhe:GD 146 Zc0:=fnk 1 (fo [[0,1],[0,1,12],[0,4],[0,1,5,6,7],[0,1,5,6,23],[0,5,6],[0,5],[0,4]]) (Qk1 Zge Qk2) Tryz.func146
def Zbq (b:List Int):Option ((ByteArray × Int × Bool × Unit) × Unit):=
 Option.bind (Zdb b) fun a=>
 bif !a.1.2.2.1 then
  some ((zB,0,false,()),())
 else
 bif decide (a.1.1>wJ ((b.length:Int) - a.1.2.1)) then
  some ((zB,0,false,()),())
 else
 bif (decide (0≤a.1.2.1)&&decide (a.1.2.1≤wJ (a.1.2.1+a.1.1)))&&decide (wJ (a.1.2.1+a.1.1)≤(b.length:Int)) then
  some ((Q58 (List.drop a.1.2.1.toNat (List.take ((wJ (a.1.2.1+a.1.1)).toNat) b)),wJ (a.1.2.1+a.1.1),true,()),())
 else none
def Zo1:Ent:=⟨[.val t25],[⟨t9,[false],none⟩,⟨t2,[false],none⟩,⟨t4,[false],none⟩],fun x=>Zbq x.1⟩
theorem Ziw:GD 177 Zo1:=fnk 1 (fr [[0,15,0,20],[0,3,4,5,15,0,20],[0,3,5,21],[2,3,4],[2,3,4]]) (Qk1 Zge Qk2) Tryz.func177
def Qnf (a:Zma) (c:ByteArray):Option (Zwm × (Zma × Unit)):=
 bif !(IV.isNil a.2) then
  some ((zB,()),(a,()))
 else
  Option.bind (Zbq a.1) fun b=>
  bif !b.1.2.2.1 then
   bif (decide (0≤b.1.2.1)&&decide (b.1.2.1≤(a.1.length:Int)))&&decide ((a.1.length:Int)≤(a.1.length:Int)) then
    some ((b.1.1,()),((List.drop b.1.2.1.toNat (List.take ((a.1.length:Int).toNat) a.1),IV.mk 134 [.str c]),()))
   else none
  else
  bif (decide (0≤b.1.2.1)&&decide (b.1.2.1≤(a.1.length:Int)))&&decide ((a.1.length:Int)≤(a.1.length:Int)) then
   some ((b.1.1,()),((List.drop b.1.2.1.toNat (List.take ((a.1.length:Int).toNat) a.1),a.2),()))
  else none
def Z9s:Ent:=⟨[.box 131 Zym [false,false],.val t9],[⟨t9,[false],none⟩],fun x=>Qnf x.1 x.2.1⟩
theorem Zff:GD 147 Z9s:=fnk 1 (fo [[0,1],[0,1,12],[0,4],[0,1,5,6,7],[0,1,5,6,23],[0,5,6],[0,5],[0,4]]) (Qk1 Ziw Qk2) Tryz.func147
abbrev Qln:Type:=(Qvh × Unit) × (Zma × Unit)
def Z3t:Ctx:=[(146,Zc0),(147,Z9s)]
def Qx4:Fi:=fr [[0,2,34,0,38],[0,2,34,0,38],[0,2,34,0,38],[0,2,3,34,0,38],[0,2,3,25,34,0,38],[0,2,3,34,0,38],[0,2,3,34,0,39],[0,2,3,34,0,38],[0,2,3,34,0,38],[0,2],[0,2],[0,2]]
abbrev Qr8:Type:=Int→List Int→IV→Int→Int→Int→Int→Int→Int→Int→Int→ByteArray→List Int→Option Qln
abbrev Zah:Type:=Int→Bool→List Int→IV→Int→Int→Int→Int→Int→Int→Int→Int→ByteArray→List Int→Option Qln
def Qra (L1:Qr8) (q:Int) (j:List Int) (a:IV) (d e f g h i r s:Int) (t:ByteArray) (b:List Int):Option Qln:=
 bif decide (q>0) then
  bif IV.isNil a then
   Option.bind (Qke (j,a) (⟨#[115,116,101,112]⟩:ByteArray)) fun c=>
   bif Nat.ble (b.length+1) 1073741824 then
    L1 (wJ (q - 1)) c.2.1.1 c.2.1.2 d e f g h i r s t (b++[c.1.1])
   else none
  else
   Option.bind (Qke (j,a) (⟨#[108,111]⟩:ByteArray)) fun k=>
   Option.bind (Qke k.2.1 (⟨#[104,105]⟩:ByteArray)) fun l=>
   Option.bind (Qnf l.2.1 (⟨#[116,101,120,116]⟩:ByteArray)) fun m=>
   some (((d,e,f,g,h,i,b,k.1.1,l.1.1,m.1.1),()),(m.2.1,()))
 else
  Option.bind (Qke (j,a) (⟨#[108,111]⟩:ByteArray)) fun n=>
  Option.bind (Qke n.2.1 (⟨#[104,105]⟩:ByteArray)) fun o=>
  Option.bind (Qnf o.2.1 (⟨#[116,101,120,116]⟩:ByteArray)) fun p=>
  some (((d,e,f,g,h,i,b,n.1.1,o.1.1,p.1.1),()),(p.2.1,()))
def Z9u (L3:Qr8) (q:Int) (u:Bool) (d:List Int) (a:IV) (e f g h i j r s:Int) (t:ByteArray) (b:List Int):Option Qln:=
 bif decide (q>0) then
  bif IV.isNil a then
   Option.bind (Qke (d,a) (⟨#[115,116,101,112]⟩:ByteArray)) fun c=>
   bif Nat.ble (b.length+1) 1073741824 then
    L3 (wJ (q - 1)) c.2.1.1 c.2.1.2 e f g h i j r s t (b++[c.1.1])
   else none
  else
   Option.bind (Qke (d,a) (⟨#[108,111]⟩:ByteArray)) fun k=>
   Option.bind (Qke k.2.1 (⟨#[104,105]⟩:ByteArray)) fun l=>
   Option.bind (Qnf l.2.1 (⟨#[116,101,120,116]⟩:ByteArray)) fun m=>
   some (((e,f,g,h,i,j,b,k.1.1,l.1.1,m.1.1),()),(m.2.1,()))
 else
  Option.bind (Qke (d,a) (⟨#[108,111]⟩:ByteArray)) fun n=>
  Option.bind (Qke n.2.1 (⟨#[104,105]⟩:ByteArray)) fun o=>
  Option.bind (Qnf o.2.1 (⟨#[116,101,120,116]⟩:ByteArray)) fun p=>
  some (((e,f,g,h,i,j,b,n.1.1,o.1.1,p.1.1),()),(p.2.1,()))
def Zag (L3:Qr8) (q:Int) (d:List Int) (a:IV) (e f g h i j r s:Int) (t:ByteArray) (b:List Int):Option Qln:=
 bif decide (q>0) then
  bif IV.isNil a then
   Option.bind (Qke (d,a) (⟨#[115,116,101,112]⟩:ByteArray)) fun c=>
   bif Nat.ble (b.length+1) 1073741824 then
    L3 (wJ (q - 1)) c.2.1.1 c.2.1.2 e f g h i j r s t (b++[c.1.1])
   else none
  else
   Option.bind (Qke (d,a) (⟨#[108,111]⟩:ByteArray)) fun k=>
   Option.bind (Qke k.2.1 (⟨#[104,105]⟩:ByteArray)) fun l=>
   Option.bind (Qnf l.2.1 (⟨#[116,101,120,116]⟩:ByteArray)) fun m=>
   some (((e,f,g,h,i,j,b,k.1.1,l.1.1,m.1.1),()),(m.2.1,()))
 else
  Option.bind (Qke (d,a) (⟨#[108,111]⟩:ByteArray)) fun n=>
  Option.bind (Qke n.2.1 (⟨#[104,105]⟩:ByteArray)) fun o=>
  Option.bind (Qnf o.2.1 (⟨#[116,101,120,116]⟩:ByteArray)) fun p=>
  some (((e,f,g,h,i,j,b,n.1.1,o.1.1,p.1.1),()),(p.2.1,()))
def Qy8 (L1:Qr8) (L2:Zah) (h:Zma):Option Qln:=
 Option.bind (Qke h (⟨#[107,105,110,100]⟩:ByteArray)) fun b=>
 Option.bind (Qke b.2.1 (⟨#[102,114,111,109]⟩:ByteArray)) fun c=>
 Option.bind (Qke c.2.1 (⟨#[116,111]⟩:ByteArray)) fun d=>
 Option.bind (Qke d.2.1 (⟨#[105,110,99]⟩:ByteArray)) fun e=>
 Option.bind (Qke e.2.1 (⟨#[101,112,111,99,104]⟩:ByteArray)) fun f=>
 Option.bind (Qke f.2.1 (⟨#[97,103,101]⟩:ByteArray)) fun g=>
 Option.bind (Qke g.2.1 (⟨#[119,97,121]⟩:ByteArray)) fun a=>
 bif decide (a.1.1>64) then
  L1 a.1.1 a.2.1.1 (IV.mk 134 [.str (⟨#[119,97,121]⟩:ByteArray)]) b.1.1 c.1.1 d.1.1 e.1.1 f.1.1 g.1.1 0 0 zB []
 else
  L2 a.1.1 (decide (a.1.1>64)) a.2.1.1 a.2.1.2 b.1.1 c.1.1 d.1.1 e.1.1 f.1.1 g.1.1 0 0 zB []
def Qp5 (n:Nat):Nat→Qr8:=iter (fun _ _ _ _ _ _ _ _ _ _ _ _ _=>none) fun L=>Qra L
def Za8 (n:Nat):Nat→Qr8:=iter (fun _ _ _ _ _ _ _ _ _ _ _ _ _=>none) fun L=>Zag L
def Qx8 (n:Nat):Nat→Zah:=Qjd (fun _ _ _ _ _ _ _ _ _ _ _ _ _ _=>none) fun m L=>Z9u (Za8 n m)
def Qx9 (n m:Nat) (l:Int) (o:List Int) (a:IV) (b c d e f g h i:Int) (j:ByteArray) (k:List Int):Option Qln:=
 Qjr Z3t tab (fiB [.box 131 Zym [false,false]] Qx4) n [.box 131 Zym [false,false]] [⟨t45,(nF 6++[true,false,false,false]),none⟩] Tryz.f86 [1,1,1,1,1,0,0] [] [0,2,3] m
 ⟨[(0,V1 (.ptr (0,0) 0)),(2,V1 (.ptr (2,0) 0)),(3,Vp t2 l)],[((0,0),Ob.box 131 [LV.pure t25 o,LV.pure t20 a]),((2,0),Ob.box 46 [LV.pure t2 b,LV.pure t2 c,LV.pure t2 d,LV.pure t2 e,LV.pure t2 f,LV.pure t2 g,LV.ref (2,7),LV.pure t2 h,LV.pure t2 i,LV.pure t9 j]),((2,7),Ob.row 3 t2 k)]⟩
def Z28 (n m:Nat) (a:Int) (b:Bool) (c:List Int) (d:IV) (e f g h i j k l:Int) (o:ByteArray) (p:List Int):Option Qln:=
 Qjr Z3t tab (fiB [.box 131 Zym [false,false]] Qx4) n [.box 131 Zym [false,false]] [⟨t45,(nF 6++[true,false,false,false]),none⟩] Tryz.f86 [1,1,1,1,1,0,0] [] [0,2,3,25] m
 ⟨[(0,V1 (.ptr (0,0) 0)),(2,V1 (.ptr (2,0) 0)),(3,Vp t2 a),(25,Vp t4 b)],[((0,0),Ob.box 131 [LV.pure t25 c,LV.pure t20 d]),((2,0),Ob.box 46 [LV.pure t2 e,LV.pure t2 f,LV.pure t2 g,LV.pure t2 h,LV.pure t2 i,LV.pure t2 j,LV.ref (2,7),LV.pure t2 k,LV.pure t2 l,LV.pure t9 o]),((2,7),Ob.row 3 t2 p)]⟩
def Qxa (n m:Nat) (a:Int) (b:List Int) (c:IV) (d e f g h i j k:Int) (l:ByteArray) (o:List Int):Option Qln:=
 Qjr Z3t tab (fiB [.box 131 Zym [false,false]] Qx4) n [.box 131 Zym [false,false]] [⟨t45,(nF 6++[true,false,false,false]),none⟩] Tryz.f86 [1,1,1,1,1,0,0] [] [0,2,3,25] m
 ⟨[(0,V1 (.ptr (0,0) 0)),(2,V1 (.ptr (2,0) 0)),(3,Vp t2 a)],[((0,0),Ob.box 131 [LV.pure t25 b,LV.pure t20 c]),((2,0),Ob.box 46 [LV.pure t2 d,LV.pure t2 e,LV.pure t2 f,LV.pure t2 g,LV.pure t2 h,LV.pure t2 i,LV.ref (2,7),LV.pure t2 j,LV.pure t2 k,LV.pure t9 l]),((2,7),Ob.row 3 t2 o)]⟩
theorem Z7o (n:Nat):∀ m,Qx9 n m=Qp5 n m
 | 0=>rfl
 | m+1=>by rw [show Qx9 n (m+1)=Qra (Qx9 n m) from by kernel_rfl,Z7o n m];rfl
theorem Z8e (n:Nat):∀ m,Qxa n m=Za8 n m
 | 0=>rfl
 | m+1=>by rw [show Qxa n (m+1)=Zag (Qxa n m) from by kernel_rfl,Z8e n m];rfl
theorem Zjq (n:Nat):∀ m,Z28 n m=Qx8 n m
 | 0=>rfl
 | m+1=>by rw [show Z28 n (m+1)=Z9u (Qxa n m) from by kernel_rfl,Z8e n m];rfl
def Zby (n:Nat) (a:Zma):Option Qln:=Qy8 (Qp5 n n) (Qx8 n n) a
def Z95 (a:Zma):Option Qln:=Zby 1099511627776 a
def Zbx:Ent:=⟨[.box 131 Zym [false,false]],[⟨t45,(nF 6++[true,false,false,false]),none⟩],fun x=>Z95 x.1⟩
theorem Zgp:GD 86 Zbx:=fnl Qx4 (fun n x=>Zby n x.1) (Qk1 Zhe (Qk1 Zff Qk2)) Tryz.func86 fun n x=>Eq.trans (b:=Qy8 (Qx9 n n) (Z28 n n) x.1) (by kernel_rfl) (by rw [Z7o n n,Zjq n n];rfl)
abbrev Qn6:Type:=(Int × Unit) × Unit
def Zcl:Ctx:=[]
def Z0y:Fi:=fo [[0,1],[0,1,7,8],[0,1,7,8,9],[0,1,5,7,8],[0,1,5,7,8,16],[4],[0,1,7,8],[4]]
abbrev Quv:Type:=List Int→(Int × Unit→Option (Bool × Unit))→Int→Int→Option Qn6
def Qmi (L1:Quv) (b:List Int) (c:(Int × Unit→Option (Bool × Unit))) (d a:Int):Option Qn6:=
 bif decide (a<d) then
  bif decide (0≤a)&&decide (a<(b.length:Int)) then
   Option.bind (c (List.getD b a.toNat 0,())) fun e=>
   bif e.1 then
    some ((a,()),())
   else
    L1 b c d (wJ (a+1))
  else none
 else
  some (((-1),()),())
def Z1o (L1:Quv) (a:List Int) (b:(Int × Unit→Option (Bool × Unit))):Option Qn6:=
 L1 a b (a.length:Int) 0
def Qlj (n:Nat):Nat→Quv:=iter (fun _ _ _ _=>none) fun L=>Qmi L
def Qqo (n m:Nat) (a:List Int) (b:(Int × Unit→Option (Bool × Unit))) (c d:Int):Option Qn6:=
 Qjr Zcl tab (fiB [.val t28,.fn [t2] [t4]] Z0y) n [.val t28,.fn [t2] [t4]] [⟨t2,[false],none⟩] Tryz.f208 [1,0,1,0] [] [0,1,7,8] m
 ⟨[(0,Vp t28 a),(1,V1 (.clo [t2] [t4] b)),(7,Vp t2 c),(8,Vp t2 d)],[]⟩
theorem Qzh (n:Nat):∀ m,Qqo n m=Qlj n m
 | 0=>rfl
 | m+1=>by rw [show Qqo n (m+1)=Qmi (Qqo n m) from by kernel_rfl,Qzh n m];rfl
def Z1z (n:Nat) (b:List Int) (a:(Int × Unit→Option (Bool × Unit))):Option Qn6:=Z1o (Qlj n n) b a
def Qxq (b:List Int) (a:(Int × Unit→Option (Bool × Unit))):Option Qn6:=Z1z 1099511627776 b a
def Zcn:Ent:=⟨[.val t28,.fn [t2] [t4]],[⟨t2,[false],none⟩],fun x=>Qxq x.1 x.2.1⟩
theorem Z8t:GD 208 Zcn:=fnl Z0y (fun n x=>Z1z n x.1 x.2.1) Qk2 Tryz.func208 fun n x=>Eq.trans (b:=Z1o (Qqo n n) x.1 x.2.1) (by kernel_rfl) (by rw [Qzh n n];rfl)
def Qqm (c:List Int) (a:(Int × Unit→Option (Bool × Unit))):Option ((Bool × Unit) × Unit):=
 Option.bind (Qxq c a) fun b=>
 some ((decide (b.1.1 ≥ 0),()),())
def Z8v:Ent:=⟨[.val t28,.fn [t2] [t4]],[⟨t4,[false],none⟩],fun x=>Qqm x.1 x.2.1⟩
theorem Z5b:GD 198 Z8v:=fnk 1 (fo [[0,1],[4]]) (Qk1 Z8t Qk2) Tryz.func198
def Ze8 (a b c:Int):Option ((Bool × Unit) × Unit):=
 bif decide (a<b) then
  some ((true,()),())
 else
  some ((decide (a>c),()),())
def Zpf:Ent:=⟨[.val t2,.rbox t2,.rbox t2],[⟨t4,[false],none⟩],fun x=>Ze8 x.1 x.2.1 x.2.2.1⟩
theorem Zkr:GD 199 Zpf:=fnk 1 (fr [[0,1,2,9,0,11],[4]]) Qk2 Tryz.func199
def Qpu (c a:Int) (b:List Int):Option ((Bool × Unit) × Unit):=
 Option.bind (Qqm b (fun x=>(Ze8 x.1 c a).bind fun r=>some (r.1.1,()))) fun d=>
 some ((!d.1.1,()),())
def Zwj:Ent:=⟨[.val t2,.val t2,.val t28],[⟨t4,[false],none⟩],fun x=>Qpu x.1 x.2.1 x.2.2.1⟩
theorem Zj6:GD 178 Zwj:=fnk 1 (fo [[2,3,4],[6]]) (Qk1 Z5b (Qk1 Zkr Qk2)) Tryz.func178
def Zr5 (a:Qvh):Option ((Qvh × Unit) × Unit):=
 some (((a.1,a.2.1,a.2.2.1,a.2.2.2.1,0,0,[],0,0,zB),()),())
def Zw5:Ent:=⟨[.val t45],[⟨t45,(nF 6++[true,false,false,false]),none⟩],fun x=>Zr5 x.1⟩
theorem Zrs:GD 200 Zw5:=fnk 1 (fo [[1,2],[2]]) Qk2 Tryz.func200
abbrev Qpq:Type:=(Int × Unit) × Unit
def Zj0:Ctx:=[]
def Z6m:Fi:=fo [[0,1],[0,1,7,8],[0,1,7,8,9],[0,1,5,7,8],[0,1,5,7,8,16],[4],[0,1,7,8],[4]]
abbrev Qyl:Type:=List Int→Int→Int→Int→Option Qpq
def Qp9 (L1:Qyl) (b:List Int) (c d a:Int):Option Qpq:=
 bif decide (a<d) then
  bif decide (0≤a)&&decide (a<(b.length:Int)) then
   bif c==(List.getD b a.toNat 0) then
    some ((a,()),())
   else
    L1 b c d (wJ (a+1))
  else none
 else
  some (((-1),()),())
def Z8k (L1:Qyl) (a:List Int) (b:Int):Option Qpq:=
 L1 a b (a.length:Int) 0
def Qnj (n:Nat):Nat→Qyl:=iter (fun _ _ _ _=>none) fun L=>Qp9 L
def Qul (n m:Nat) (a:List Int) (b c d:Int):Option Qpq:=
 Qjr Zj0 tab (fiB [.val t28,.val t2] Z6m) n [.val t28,.val t2] [⟨t2,[false],none⟩] Tryz.f210 [1,0,1,0] [] [0,1,7,8] m
 ⟨[(0,Vp t28 a),(1,Vp t2 b),(7,Vp t2 c),(8,Vp t2 d)],[]⟩
theorem Z49 (n:Nat):∀ m,Qul n m=Qnj n m
 | 0=>rfl
 | m+1=>by rw [show Qul n (m+1)=Qp9 (Qul n m) from by kernel_rfl,Z49 n m];rfl
def Z85 (n:Nat) (a:List Int) (b:Int):Option Qpq:=Z8k (Qnj n n) a b
def Z3u (a:List Int) (b:Int):Option Qpq:=Z85 1099511627776 a b
def Zj5:Ent:=⟨[.val t28,.val t2],[⟨t2,[false],none⟩],fun x=>Z3u x.1 x.2.1⟩
theorem Ze1:GD 210 Zj5:=fnl Z6m (fun n x=>Z85 n x.1 x.2.1) Qk2 Tryz.func210 fun n x=>Eq.trans (b:=Z8k (Qul n n) x.1 x.2.1) (by kernel_rfl) (by rw [Z49 n n];rfl)
def Qrm (b:List Int) (c:Int):Option ((Bool × Unit) × Unit):=
 Option.bind (Z3u b c) fun a=>
 some ((decide (a.1.1 ≥ 0),()),())
def Z3j:Ent:=⟨[.val t28,.val t2],[⟨t4,[false],none⟩],fun x=>Qrm x.1 x.2.1⟩
theorem Qzj:GD 202 Z3j:=fnk 1 (fo [[0,1],[4]]) (Qk1 Ze1 Qk2) Tryz.func202
abbrev Z2a:Type:=(IV × Unit) × Unit
def Zu3:Ctx:=[(202,Z3j)]
def Zlq:Fi:=fr [[0,9,0,11,14,0,17,31,32,35,0,39],[0,18,31,32,35,0,39],[2],[0,21,0,23,31,32,35,0,39],[0,21,0,24,31,32,35,0,39],[0,3,4,21,0,23,31,32,35,0,39],[0,3,21,0,23,31,32,35,0,40],[2],[0,21,0,23,31,32,35,0,39],[2]]
abbrev Ze2:Type:=List Int→List Int→Int→Int→Option Z2a
def Qz1 (L1:Ze2) (c b:List Int) (d a:Int):Option Z2a:=
 bif decide (a<d) then
  bif decide (0≤a)&&decide (a<(b.length:Int)) then
   bif decide (List.getD b a.toNat 0<1) then
    some ((IV.mk 222 [.int .i64 a],()),())
   else
   bif decide (List.getD b a.toNat 0>8) then
    some ((IV.mk 222 [.int .i64 a],()),())
   else
   bif decide (0≤a)&&decide (a≤(c.length:Int)) then
    Option.bind (Qrm (List.drop 0 (List.take a.toNat c)) (List.getD b a.toNat 0)) fun e=>
    bif e.1.1 then
     some ((IV.mk 222 [.int .i64 a],()),())
    else
     L1 c b d (wJ (a+1))
   else none
  else none
 else
  some ((IV.nil,()),())
def Zbi (L1:Ze2) (a:List Int):Option Z2a:=
 bif decide ((a.length:Int)<1) then
  some ((IV.mk 222 [.int .i64 0],()),())
 else
 bif decide ((a.length:Int)>10) then
  some ((IV.mk 222 [.int .i64 0],()),())
 else
 bif decide (0<(a.length:Int)) then
  bif (List.getD a 0 0) != 1 then
   some ((IV.mk 222 [.int .i64 0],()),())
  else
   L1 a a (a.length:Int) 0
 else none
def Qu7 (n:Nat):Nat→Ze2:=iter (fun _ _ _ _=>none) fun L=>Qz1 L
def Z7q (n m:Nat) (a b:List Int) (c d:Int):Option Z2a:=
 Qjr Zu3 tab (fiB [.val t28] Zlq) n [.val t28] [⟨t20,[false],none⟩] Tryz.f204 [1,1,0,1,0] [] [0,21,22,23] m
 ⟨[(0,Vp t28 a),(21,Vp t28 b),(22,Vp t2 c),(23,Vp t2 d)],[]⟩
theorem Zjc (n:Nat):∀ m,Z7q n m=Qu7 n m
 | 0=>rfl
 | m+1=>by rw [show Z7q n (m+1)=Qz1 (Z7q n m) from by kernel_rfl,Zjc n m];rfl
def Znc (n:Nat) (a:List Int):Option Z2a:=Zbi (Qu7 n n) a
def Zni (a:List Int):Option Z2a:=Znc 1099511627776 a
def Zv1:Ent:=⟨[.val t28],[⟨t20,[false],none⟩],fun x=>Zni x.1⟩
theorem Zow:GD 204 Zv1:=fnl Zlq (fun n x=>Znc n x.1) (Qk1 Qzj Qk2) Tryz.func204 fun n x=>Eq.trans (b:=Zbi (Z7q n n) x.1) (by kernel_rfl) (by rw [Zjc n n];rfl)
def Z56 (a:List Int):Option ((Bool × Unit) × Unit):=
 Option.bind (Zni a) fun b=>
 some ((!(IV.is b.1.1 222),()),())
def Zwu:Ent:=⟨[.val t28],[⟨t4,[false],none⟩],fun x=>Z56 x.1⟩
theorem Zjp:GD 183 Zwu:=fnk 1 (fo [[0],[4],[2]]) (Qk1 Zow Qk2) Tryz.func183
abbrev Qpm:Type:=(Bool × Unit) × Unit
def Ziy:Ctx:=[]
def Z5t:Fi:=fr [[0,1],[0,1,10],[4],[0,1,12,13],[0,1,12,0,14],[0,1,5,12,13],[0,1,12,13,24],[4],[0,1,12,13],[4]]
abbrev Qyv:Type:=List Int→List Int→Int→Int→Option Qpm
def Qou (L1:Qyv) (b c:List Int) (d a:Int):Option Qpm:=
 bif decide (a<d) then
  bif decide (0≤a)&&decide (a<(b.length:Int)) then
   bif decide (0≤a)&&decide (a<(c.length:Int)) then
    bif (List.getD b a.toNat 0) != (List.getD c a.toNat 0) then
     some ((false,()),())
    else
     L1 b c d (wJ (a+1))
   else none
  else none
 else
  some ((true,()),())
def Qw1 (L1:Qyv) (s1_0 s2_1:List Int):Option Qpm:=
 bif (s1_0.length:Int) != (s2_1.length:Int) then
  some ((false,()),())
 else
  L1 s1_0 s2_1 (s1_0.length:Int) 0
def Qow (n:Nat):Nat→Qyv:=iter (fun _ _ _ _=>none) fun L=>Qou L
def Qv3 (n m:Nat) (a b:List Int) (c d:Int):Option Qpm:=
 Qjr Ziy tab (fiB [.val t28,.val t28] Z5t) n [.val t28,.val t28] [⟨t4,[false],none⟩] Tryz.f209 [1,1,0,1,0] [] [0,1,12,13] m
 ⟨[(0,Vp t28 a),(1,Vp t28 b),(12,Vp t2 c),(13,Vp t2 d)],[]⟩
theorem Z4w (n:Nat):∀ m,Qv3 n m=Qow n m
 | 0=>rfl
 | m+1=>by rw [show Qv3 n (m+1)=Qou (Qv3 n m) from by kernel_rfl,Z4w n m];rfl
def Z7n (n:Nat) (s1_0 s2_1:List Int):Option Qpm:=Qw1 (Qow n n) s1_0 s2_1
def Z3s (s1_0 s2_1:List Int):Option Qpm:=Z7n 1099511627776 s1_0 s2_1
def Zip:Ent:=⟨[.val t28,.val t28],[⟨t4,[false],none⟩],fun x=>Z3s x.1 x.2.1⟩
theorem Zcw:GD 209 Zip:=fnl Z5t (fun n x=>Z7n n x.1 x.2.1) Qk2 Tryz.func209 fun n x=>Eq.trans (b:=Qw1 (Qv3 n n) x.1 x.2.1) (by kernel_rfl) (by rw [Z4w n n];rfl)
def Qru (a b:Qvh):Option ((Bool × Unit) × Unit):=
 bif a.1==b.1 then
  bif a.2.1==b.2.1 then
   bif a.2.2.1==b.2.2.1 then
    bif a.2.2.2.1==b.2.2.2.1 then
     bif a.2.2.2.2.1==b.2.2.2.2.1 then
      bif a.2.2.2.2.2.1==b.2.2.2.2.2.1 then
       Option.bind (Z3s a.2.2.2.2.2.2.1 b.2.2.2.2.2.2.1) fun c=>
       bif c.1.1 then
        bif a.2.2.2.2.2.2.2.1==b.2.2.2.2.2.2.2.1 then
         bif a.2.2.2.2.2.2.2.2.1==b.2.2.2.2.2.2.2.2.1 then
          some ((Qek a.2.2.2.2.2.2.2.2.2 b.2.2.2.2.2.2.2.2.2,()),())
         else
          some ((false,()),())
        else
         some ((false,()),())
       else
        some ((false,()),())
      else
       some ((false,()),())
     else
      some ((false,()),())
    else
     some ((false,()),())
   else
    some ((false,()),())
  else
   some ((false,()),())
 else
  some ((false,()),())
def Zwa:Ent:=⟨[.val t45,.val t45],[⟨t4,[false],none⟩],fun x=>Qru x.1 x.2.1⟩
theorem Zrd:GD 201 Zwa:=fnk 1 (fr [[2,3,11,0,15,18,0,22,25,0,29,32,0,36,39,0,43,46,0,50,53,0,57,60,0,64,67,0,71],[4]]) (Qk1 Zcw Qk2) Tryz.func201
def Zen (a:Qvh):Option ((Bool × Unit) × Unit):=
 Option.bind (Zr5 a) fun b=>
 bif a.1==2 then
  bif a.1==2 then
   bif a.1==2 then
    Option.bind (Qpu 0 1073741824 [a.2.2.2.2.1,a.2.2.2.2.2.1]) fun m=>
    bif m.1.1 then
     Option.bind (Z56 a.2.2.2.2.2.2.1) fun x=>
     bif x.1.1 then
      Option.bind (Qpu 0 1000000 [a.2.2.2.2.2.2.2.1,b.1.1.2.2.2.2.2.2.2.2.1]) fun C=>
      bif C.1.1 then
       Option.bind (Qru a (b.1.1.1,b.1.1.2.1,b.1.1.2.2.1,b.1.1.2.2.2.1,a.2.2.2.2.1,a.2.2.2.2.2.1,a.2.2.2.2.2.2.1,a.2.2.2.2.2.2.2.1,b.1.1.2.2.2.2.2.2.2.2)) fun D=>
       some ((D.1.1,()),())
      else
       some ((false,()),())
     else
      some ((false,()),())
    else
     some ((false,()),())
   else
    Option.bind (Qpu 0 1073741824 [a.2.2.2.2.1,a.2.2.2.2.2.1]) fun E=>
    bif E.1.1 then
     Option.bind (Z56 a.2.2.2.2.2.2.1) fun F=>
     bif F.1.1 then
      Option.bind (Qpu 0 1000000 [b.1.1.2.2.2.2.2.2.2.1,a.2.2.2.2.2.2.2.2.1]) fun G=>
      bif G.1.1 then
       Option.bind (Qru a (b.1.1.1,b.1.1.2.1,b.1.1.2.2.1,b.1.1.2.2.2.1,a.2.2.2.2.1,a.2.2.2.2.2.1,a.2.2.2.2.2.2.1,b.1.1.2.2.2.2.2.2.2.1,a.2.2.2.2.2.2.2.2.1,b.1.1.2.2.2.2.2.2.2.2.2)) fun H=>
       some ((H.1.1,()),())
      else
       some ((false,()),())
     else
      some ((false,()),())
    else
     some ((false,()),())
  else
  bif a.1==7 then
   Option.bind (Qpu 1 1000000 [a.2.2.2.2.2.2.2.1]) fun c=>
   bif c.1.1 then
    bif decide ((a.2.2.2.2.2.2.2.2.2.size:Int)≤12) then
     Option.bind (Qru a (b.1.1.1,b.1.1.2.1,b.1.1.2.2.1,b.1.1.2.2.2.1,b.1.1.2.2.2.2.1,b.1.1.2.2.2.2.2.1,b.1.1.2.2.2.2.2.2.1,a.2.2.2.2.2.2.2.1,b.1.1.2.2.2.2.2.2.2.2.1,a.2.2.2.2.2.2.2.2.2)) fun d=>
     some ((d.1.1,()),())
    else
     some ((false,()),())
   else
    some ((false,()),())
  else
  bif a.1==8 then
   bif a.1==8 then
    bif decide (a.2.2.2.2.2.2.2.1≤a.2.2.2.2.2.2.2.2.1) then
     Option.bind (Qpu 1 1000000 [a.2.2.2.2.2.2.2.1,a.2.2.2.2.2.2.2.2.1]) fun e=>
     bif e.1.1 then
      Option.bind (Qru a (b.1.1.1,b.1.1.2.1,b.1.1.2.2.1,b.1.1.2.2.2.1,b.1.1.2.2.2.2.1,b.1.1.2.2.2.2.2.1,b.1.1.2.2.2.2.2.2.1,a.2.2.2.2.2.2.2.1,a.2.2.2.2.2.2.2.2.1,b.1.1.2.2.2.2.2.2.2.2.2)) fun f=>
      some ((f.1.1,()),())
     else
      some ((false,()),())
    else
     some ((false,()),())
   else
    Option.bind (Qru a b.1.1) fun g=>
    some ((g.1.1,()),())
  else
  bif a.1==9 then
   bif decide (a.2.2.2.2.2.2.2.1≤a.2.2.2.2.2.2.2.2.1) then
    Option.bind (Qpu 1 1000000 [a.2.2.2.2.2.2.2.1,a.2.2.2.2.2.2.2.2.1]) fun h=>
    bif h.1.1 then
     Option.bind (Qru a (b.1.1.1,b.1.1.2.1,b.1.1.2.2.1,b.1.1.2.2.2.1,b.1.1.2.2.2.2.1,b.1.1.2.2.2.2.2.1,b.1.1.2.2.2.2.2.2.1,a.2.2.2.2.2.2.2.1,a.2.2.2.2.2.2.2.2.1,b.1.1.2.2.2.2.2.2.2.2.2)) fun i=>
     some ((i.1.1,()),())
    else
     some ((false,()),())
   else
    some ((false,()),())
  else
   Option.bind (Qru a b.1.1) fun j=>
   some ((j.1.1,()),())
 else
 bif a.1==5 then
  bif a.1==2 then
   Option.bind (Qpu 0 1073741824 [a.2.2.2.2.1,a.2.2.2.2.2.1]) fun k=>
   bif k.1.1 then
    Option.bind (Z56 a.2.2.2.2.2.2.1) fun l=>
    bif l.1.1 then
     Option.bind (Qpu 0 1000000 [a.2.2.2.2.2.2.2.1,b.1.1.2.2.2.2.2.2.2.2.1]) fun n=>
     bif n.1.1 then
      Option.bind (Qru a (b.1.1.1,b.1.1.2.1,b.1.1.2.2.1,b.1.1.2.2.2.1,a.2.2.2.2.1,a.2.2.2.2.2.1,a.2.2.2.2.2.2.1,a.2.2.2.2.2.2.2.1,b.1.1.2.2.2.2.2.2.2.2)) fun o=>
      some ((o.1.1,()),())
     else
      some ((false,()),())
    else
     some ((false,()),())
   else
    some ((false,()),())
  else
   Option.bind (Qpu 0 1073741824 [a.2.2.2.2.1,a.2.2.2.2.2.1]) fun p=>
   bif p.1.1 then
    Option.bind (Z56 a.2.2.2.2.2.2.1) fun q=>
    bif q.1.1 then
     Option.bind (Qpu 0 1000000 [b.1.1.2.2.2.2.2.2.2.1,a.2.2.2.2.2.2.2.2.1]) fun r=>
     bif r.1.1 then
      Option.bind (Qru a (b.1.1.1,b.1.1.2.1,b.1.1.2.2.1,b.1.1.2.2.2.1,a.2.2.2.2.1,a.2.2.2.2.2.1,a.2.2.2.2.2.2.1,b.1.1.2.2.2.2.2.2.2.1,a.2.2.2.2.2.2.2.2.1,b.1.1.2.2.2.2.2.2.2.2.2)) fun s=>
      some ((s.1.1,()),())
     else
      some ((false,()),())
    else
     some ((false,()),())
   else
    some ((false,()),())
 else
 bif a.1==7 then
  Option.bind (Qpu 1 1000000 [a.2.2.2.2.2.2.2.1]) fun t=>
  bif t.1.1 then
   bif decide ((a.2.2.2.2.2.2.2.2.2.size:Int)≤12) then
    Option.bind (Qru a (b.1.1.1,b.1.1.2.1,b.1.1.2.2.1,b.1.1.2.2.2.1,b.1.1.2.2.2.2.1,b.1.1.2.2.2.2.2.1,b.1.1.2.2.2.2.2.2.1,a.2.2.2.2.2.2.2.1,b.1.1.2.2.2.2.2.2.2.2.1,a.2.2.2.2.2.2.2.2.2)) fun u=>
    some ((u.1.1,()),())
   else
    some ((false,()),())
  else
   some ((false,()),())
 else
 bif a.1==8 then
  bif a.1==8 then
   bif decide (a.2.2.2.2.2.2.2.1≤a.2.2.2.2.2.2.2.2.1) then
    Option.bind (Qpu 1 1000000 [a.2.2.2.2.2.2.2.1,a.2.2.2.2.2.2.2.2.1]) fun v=>
    bif v.1.1 then
     Option.bind (Qru a (b.1.1.1,b.1.1.2.1,b.1.1.2.2.1,b.1.1.2.2.2.1,b.1.1.2.2.2.2.1,b.1.1.2.2.2.2.2.1,b.1.1.2.2.2.2.2.2.1,a.2.2.2.2.2.2.2.1,a.2.2.2.2.2.2.2.2.1,b.1.1.2.2.2.2.2.2.2.2.2)) fun w=>
     some ((w.1.1,()),())
    else
     some ((false,()),())
   else
    some ((false,()),())
  else
   Option.bind (Qru a b.1.1) fun y=>
   some ((y.1.1,()),())
 else
 bif a.1==9 then
  bif decide (a.2.2.2.2.2.2.2.1≤a.2.2.2.2.2.2.2.2.1) then
   Option.bind (Qpu 1 1000000 [a.2.2.2.2.2.2.2.1,a.2.2.2.2.2.2.2.2.1]) fun z=>
   bif z.1.1 then
    Option.bind (Qru a (b.1.1.1,b.1.1.2.1,b.1.1.2.2.1,b.1.1.2.2.2.1,b.1.1.2.2.2.2.1,b.1.1.2.2.2.2.2.1,b.1.1.2.2.2.2.2.2.1,a.2.2.2.2.2.2.2.1,a.2.2.2.2.2.2.2.2.1,b.1.1.2.2.2.2.2.2.2.2.2)) fun A=>
    some ((A.1.1,()),())
   else
    some ((false,()),())
  else
   some ((false,()),())
 else
  Option.bind (Qru a b.1.1) fun B=>
  some ((B.1.1,()),())
def Zsw:Ent:=⟨[.val t45],[⟨t4,[false],none⟩],fun x=>Zen x.1⟩
theorem Zok:GD 179 Zsw:=fnk 1 (fr [[1,36,0,38,41,0,46,49,0,51,66,0,69,72,0,74,91,0,96,99,0,101],[1,3,36,0,38,41,0,46,49,0,51,66,0,69,72,0,74,91,0,96,99,0,101],[1,3,7,36,0,38,41,0,46,49,0,51,66,0,69,72,0,74,91,0,96,99,0,101],[1,3,7,8,36,0,38,41,0,46,49,0,51,66,0,69,72,0,74,91,0,96,99,0,101],[1,3,7,8,36,0,38,41,0,46,49,0,51,66,0,69,72,0,74,91,0,96,99,0,101],[1,3,36,0,38,41,0,46,49,0,51],[1,3,22,36,0,38,41,0,46,49,0,51],[1,3,36,0,38,41,0,46,49,0,51],[1,3,36,0,38,41,0,46,49,0,51],[2],[1,3,7,53,66,0,69,72,0,74,91,0,96,99,0,101],[1,3,66,0,69,72,0,74],[2],[1,3,7,76,91,0,96,99,0,101],[1,3,76,91,0,96,99,0,101],[1,3,91,0,96,99,0,101],[2],[2]]) (Qk1 Zj6 (Qk1 Zjp (Qk1 Zrs (Qk1 Zrd Qk2)))) Tryz.func179
def Zrk (a:Qvh):Option ((Bool × Unit) × Unit):=
 Option.bind (Qpu 1 9 [a.1]) fun b=>
 bif b.1.1 then
  Option.bind (Qpu 1 8 [a.2.1,a.2.2.1]) fun c=>
  bif c.1.1 then
   bif a.2.1 != a.2.2.1 then
    Option.bind (Qpu 1 1073741824 [a.2.2.2.1]) fun d=>
    bif d.1.1 then
     Option.bind (Zen a) fun e=>
     some ((e.1.1,()),())
    else
     some ((false,()),())
   else
    some ((false,()),())
  else
   some ((false,()),())
 else
  some ((false,()),())
def Ztg:Ent:=⟨[.val t45],[⟨t4,[false],none⟩],fun x=>Zrk x.1⟩
theorem Zsx:GD 148 Ztg:=fnk 1 (fr [[1,8,0,13,16,0,20,23,0,26,29,30],[2]]) (Qk1 Zj6 (Qk1 Zok Qk2)) Tryz.func148
def Qx6 (s:List Int):Option (((List Int) × Unit) × Unit):=bif Nat.ble s.length 1073741824 then some ((s,()),()) else none
theorem Zdq (s:List Int):Qdr [] tab (Qk6 Tryz.f180 []) 1 [.val t25] [⟨t25,[true],none⟩] Tryz.f180 (s,())=bif !(List.isEmpty s) then bif Nat.ble (0+s.length) 1073741824 then some (([]++s,()),()) else none
 else Q35 (some (([],()),())) (bif Nat.ble (0+s.length) 1073741824 then some (([]++s,()),()) else none):=by kernel_rfl
theorem Zf2 (s:List Int):Qdr [] tab (Qk6 Tryz.f180 []) 1 [.val t25] [⟨t25,[true],none⟩] Tryz.f180 (s,())=Qx6 s:=by
  rw [Zdq]
  cases s with
  | nil=>exact Qbn _
  | cons x q=>rw [Nat.zero_add];rfl
def Z62:Ent:=⟨[.val t25],[⟨t25,[true],none⟩],fun x=>Qx6 x.1⟩
theorem Zc4:Q4t tab.ty Tryz.prog 180 Z62:=by
  refine Qjn (Γ:=[]) (fi:=Qk6 Tryz.f180 []) (n:=1) follows Qk2 Zfn Tryz.func180 (by kernel_rfl) (by kernel_rfl) (fun x r h=>?_)
  obtain ⟨s,_u⟩:=x
  exact (Zf2 s).trans h
abbrev Z5h:Type:=((List Int) × Unit) × Unit
def Zwk:Ctx:=[(180,Z62)]
def Zmr:Fi:=fo [[0,1],[0,1],[0,5],[0,5,11],[0,5],[0,5],[4]]
abbrev Zgm:Type:=Int→List Int→Option Z5h
def Zbd (L1:Zgm) (a:Int) (b:List Int):Option Z5h:=
 bif decide (a ≥ 128) then
  bif Nat.ble (b.length+1) 1073741824 then
   L1 (Int.fdiv a (2 ^ 7)) (b++[IntKind.wrap .u8 ((BitVec.ofInt 8 (IntKind.wrap .u8 a) ||| BitVec.ofInt 8 128).toNat)])
  else none
 else
 bif Nat.ble (b.length+1) 1073741824 then
  some ((b++[IntKind.wrap .u8 a],()),())
 else none
def Zex (L1:Zgm) (a:List Int) (c:Int):Option Z5h:=
 Option.bind (Qx6 a) fun b=>
 L1 (IntKind.wrap .u64 c) b.1.1
def Z6u (n:Nat):Nat→Zgm:=iter (fun _ _=>none) fun L=>Zbd L
def Zas (n m:Nat) (a:Int) (b:List Int):Option Z5h:=
 Qjr Zwk tab (fiB [.val t25,.val t2] Zmr) n [.val t25,.val t2] [⟨t25,[true],none⟩] Tryz.f149 [1,1,1,0,0] [] [0,5] m
 ⟨[(0,V1 (.ref (888888,0))),(5,Vp t12 a)],[((888888,0),Ob.row 5 t5 b)]⟩
theorem Zlx (n:Nat):∀ m,Zas n m=Z6u n m
 | 0=>rfl
 | m+1=>by rw [show Zas n (m+1)=Zbd (Zas n m) from by kernel_rfl,Zlx n m];rfl
def Zpo (n:Nat) (a:List Int) (b:Int):Option Z5h:=Zex (Z6u n n) a b
def Zmn (a:List Int) (b:Int):Option Z5h:=Zpo 1099511627776 a b
def Zqb:Ent:=⟨[.val t25,.val t2],[⟨t25,[true],none⟩],fun x=>Zmn x.1 x.2.1⟩
theorem Zhr:GD 149 Zqb:=fnl Zmr (fun n x=>Zpo n x.1 x.2.1) (Qk1 Zc4 Qk2) Tryz.func149 fun n x=>Eq.trans (b:=Zex (Zas n n) x.1 x.2.1) (by kernel_rfl) (by rw [Zlx n n];rfl)
def Z7b (d:List Int) (a:ByteArray):Option (((List Int) × Unit) × Unit):=
 Option.bind (Zmn d (a.size:Int)) fun c=>
 bif Nat.ble (c.1.1.length+(a.data.toList.map fun b=>(b.toNat:Int)).length) 1073741824 then
  some ((c.1.1++(a.data.toList.map fun b=>(b.toNat:Int)),()),())
 else none
def Zgl:Ent:=⟨[.val t25,.val t9],[⟨t25,[true],none⟩],fun x=>Z7b x.1 x.2.1⟩
theorem Zkh:GD 150 Zgl:=fnk 1 (fo [[0,1],[4]]) (Qk1 Zhr Qk2) Tryz.func150
abbrev Z04:Type:=(Int × Unit) × Unit
def Ztm:Ctx:=[]
def Zkc:Fi:=fr [[0],[0,3],[3,7,8,9],[3,7,0,10],[3,5,7,8,9],[3,7,8,9],[3,7,8,9,17],[3,7,8,9,17,18],[3,6,0,9,17],[3,6,0,9,17],[3,7,8,9,17,24],[3,7,8,9,17],[3,7,8,9,17],[3,7,8,9],[2]]
abbrev Zez:Type:=Int→List Int→Int→Int→Option Z04
abbrev Zkm:Type:=Int→List Int→Int→Int→Int→Option Z04
def Z5i (L2:Zkm) (c:Int) (b:List Int) (d a:Int):Option Z04:=
 bif decide (a<d) then
  bif decide (0≤a)&&decide (a<(b.length:Int)) then
   L2 (IntKind.wrap .u32 ((BitVec.ofInt 32 c ^^^ BitVec.ofInt 32 (IntKind.wrap .u32 (List.getD b a.toNat 0))).toNat)) b d a 0
  else none
 else
  some ((IntKind.wrap .u32 ((BitVec.ofInt 32 c ^^^ BitVec.ofInt 32 4294967295).toNat),()),())
def Z5f (L2:Zkm) (L1:Zez) (a:Int) (b:List Int) (c d e:Int):Option Z04:=
 bif decide (e<8) then
  bif (IntKind.wrap .u32 ((BitVec.ofInt 32 a &&& BitVec.ofInt 32 1).toNat))==1 then
   L2 (IntKind.wrap .u32 ((BitVec.ofInt 32 (Int.fdiv a (2 ^ 1)) ^^^ BitVec.ofInt 32 3988292384).toNat)) b c d (wJ (e+1))
  else
   L2 (Int.fdiv a (2 ^ 1)) b c d (wJ (e+1))
 else
  L1 a b c (wJ (d+1))
def Zto (L1:Zez) (a:List Int):Option Z04:=
 L1 4294967295 a (a.length:Int) 0
def Z2h (n:Nat) (m1:Nat) (a:Zez):Nat→Zkm:=iter (fun _ _ _ _ _=>none) fun L=>Z5f L a
def Z5m (n:Nat):Nat→Zez:=Qjd (fun _ _ _ _=>none) fun m L=>Z5i (Z2h n m L n)
def Zam (n m:Nat) (a:Int) (b:List Int) (c d:Int):Option Z04:=
 Qjr Ztm tab (fiB [.val t25] Zkc) n [.val t25] [⟨t91,[false],none⟩] Tryz.f151 [1,1,0,1,0] [] [3,7,8,9] m
 ⟨[(3,Vp t91 a),(7,Vp t25 b),(8,Vp t2 c),(9,Vp t2 d)],[]⟩
def Zeo (n m1 m:Nat) (a:Int) (b:List Int) (c d e:Int):Option Z04:=
 Qjr Ztm tab (fiB [.val t25] Zkc) n [.val t25] [⟨t91,[false],none⟩] Tryz.f151 [1,1,0,1,0,0,1,1,0,0,1,1,1,0] [(m1,[3,7,8,9])] [3,7,8,9,17] m
 ⟨[(3,Vp t91 a),(7,Vp t25 b),(8,Vp t2 c),(9,Vp t2 d),(17,Vp t2 e)],[]⟩
theorem Zms (n m1:Nat):∀ m,Zeo n m1 m=Z2h n m1 (Zam n m1) m
 | 0=>rfl
 | m+1=>by rw [show Zeo n m1 (m+1)=Z5f (Zeo n m1 m) (Zam n m1) from by kernel_rfl,Zms n m1 m];rfl
theorem Zmv (n:Nat):∀ m,Zam n m=Z5m n m
 | 0=>rfl
 | m+1=>by rw [show Zam n (m+1)=Z5i (Zeo n m n) from by kernel_rfl,Zms n m n,Zmv n m];rfl
def Zs2 (n:Nat) (a:List Int):Option Z04:=Zto (Z5m n n) a
def Zuv (a:List Int):Option Z04:=Zs2 1099511627776 a
def Zsq:Ent:=⟨[.val t25],[⟨t91,[false],none⟩],fun x=>Zuv x.1⟩
theorem Ztd:GD 151 Zsq:=fnl Zkc (fun n x=>Zs2 n x.1) Qk2 Tryz.func151 fun n x=>Eq.trans (b:=Zto (Zam n n) x.1) (by kernel_rfl) (by rw [Zmv n n];rfl)
abbrev Zao:Type:=((List Int) × Unit) × Unit
def Zx5:Ctx:=[(148,Ztg),(149,Zqb),(150,Zgl),(151,Zsq)]
def Zqm:Fi:={ keep:=[],vty:=[(4,25)],vals:=[],live:=[(0,[1]),(1,[1,10]),(2,[2]),(3,[1,3]),(4,[1,3]),(5,[1,3,4]),(6,[1,4,37,38,39]),(7,[1,4,37,38,39,40]),(8,[1,4,6,37,38,39]),(9,[1,4,37,38,39]),(10,[1,4,37,38,39]),(11,[4]),(12,[4,7]),(13,[2])] }
abbrev Zk0:Type:=Int→Int→Int→Int→Int→Int→Int→Int→List Int→Int→Int→ByteArray→List Int→List Int→Option Zao
def Z5k (L1:Zk0) (g a l m n o p q:Int) (i:List Int) (j k:Int) (e:ByteArray) (f c:List Int):Option Zao:=
 bif decide (a<g) then
  bif decide (0≤a)&&decide (a<(c.length:Int)) then
   bif decide (0≤a)&&decide (a<(c.length:Int)) then
    Option.bind (Zmn f (List.getD c a.toNat 0)) fun h=>
    L1 g (wJ (a+1)) l m n o p q i j k e h.1.1 c
   else none
  else none
 else
  Option.bind (Z7b f e) fun d=>
  Option.bind (Zuv d.1.1) fun b=>
  bif Nat.ble (d.1.1.length+4) 1073741824 then
   some ((d.1.1++[IntKind.wrap .u8 (Int.fdiv b.1.1 (2 ^ 24)),IntKind.wrap .u8 (Int.fdiv b.1.1 (2 ^ 16)),IntKind.wrap .u8 (Int.fdiv b.1.1 (2 ^ 8)),IntKind.wrap .u8 b.1.1],()),())
  else none
def Zi1 (L1:Zk0) (a:Qvh):Option Zao:=
 Option.bind (Zrk a) fun b=>
 bif !b.1.1 then
  some (([],()),())
 else
 bif Nat.ble (7+a.2.2.2.2.2.2.1.length) 1073741824 then
  bif Nat.ble (([a.1,a.2.1,a.2.2.1,a.2.2.2.1,a.2.2.2.2.1,a.2.2.2.2.2.1,(a.2.2.2.2.2.2.1.length:Int)]++a.2.2.2.2.2.2.1).length+2) 1073741824 then
   L1 ((([a.1,a.2.1,a.2.2.1,a.2.2.2.1,a.2.2.2.2.1,a.2.2.2.2.2.1,(a.2.2.2.2.2.2.1.length:Int)]++a.2.2.2.2.2.2.1)++[a.2.2.2.2.2.2.2.1,a.2.2.2.2.2.2.2.2.1]).length:Int) 0 a.1 a.2.1 a.2.2.1 a.2.2.2.1 a.2.2.2.2.1 a.2.2.2.2.2.1 a.2.2.2.2.2.2.1 a.2.2.2.2.2.2.2.1 a.2.2.2.2.2.2.2.2.1 a.2.2.2.2.2.2.2.2.2 [] (([a.1,a.2.1,a.2.2.1,a.2.2.2.1,a.2.2.2.2.1,a.2.2.2.2.2.1,(a.2.2.2.2.2.2.1.length:Int)]++a.2.2.2.2.2.2.1)++[a.2.2.2.2.2.2.2.1,a.2.2.2.2.2.2.2.2.1])
  else none
 else none
def Z5j (n:Nat):Nat→Zk0:=iter (fun _ _ _ _ _ _ _ _ _ _ _ _ _ _=>none) fun L=>Z5k L
def Zes (n m:Nat) (g h i j k l o p:Int) (a:List Int) (b c:Int) (d:ByteArray) (e f:List Int):Option Zao:=
 Qjr Zx5 tab (fiB [.val t45] Zqm) n [.val t45] [⟨t25,[true],none⟩] Tryz.f87 [1,1,1,1,1,0,1,0] [] [1,4,37,38,39] m
 ⟨[(1,V1 (.ptr (1,0) 0)),(4,V1 (.ref (888888,4))),(37,V1 (.ref (888888,37))),(38,Vp t2 g),(39,Vp t2 h)],[((1,0),Ob.box 46 [LV.pure t2 i,LV.pure t2 j,LV.pure t2 k,LV.pure t2 l,LV.pure t2 o,LV.pure t2 p,LV.pure t28 a,LV.pure t2 b,LV.pure t2 c,LV.pure t9 d]),((888888,4),Ob.row 5 t5 e),((888888,37),Ob.row 3 t2 f)]⟩
theorem Zog (n:Nat):∀ m,Zes n m=Z5j n m
 | 0=>rfl
 | m+1=>by rw [show Zes n (m+1)=Z5k (Zes n m) from by kernel_rfl,Zog n m];rfl
def Zsn (n:Nat) (a:Qvh):Option Zao:=Zi1 (Z5j n n) a
def Zu1 (a:Qvh):Option Zao:=Zsn 1099511627776 a
def Zsu:Ent:=⟨[.val t45],[⟨t25,[true],none⟩],fun x=>Zu1 x.1⟩
theorem Zsr:GD 87 Zsu:=fnl Zqm (fun n x=>Zsn n x.1) (Qk1 Zsx (Qk1 Zhr (Qk1 Zkh (Qk1 Ztd Qk2)))) Tryz.func87 fun n x=>Eq.trans (b:=Zi1 (Zes n n) x.1) (by kernel_rfl) (by rw [Zog n n];rfl)
abbrev Qp6:Type:=(Bool × Unit) × Unit
def Zh0:Ctx:=[]
def Z43:Fi:=fr [[0,1],[0,1,10],[4],[0,1,12,13],[0,1,12,0,14],[0,1,5,12,13],[0,1,12,13,24],[4],[0,1,12,13],[4]]
abbrev Qxn:Type:=List Int→List Int→Int→Int→Option Qp6
def Qod (L1:Qxn) (b c:List Int) (d a:Int):Option Qp6:=
 bif decide (a<d) then
  bif decide (0≤a)&&decide (a<(b.length:Int)) then
   bif decide (0≤a)&&decide (a<(c.length:Int)) then
    bif (List.getD b a.toNat 0) != (List.getD c a.toNat 0) then
     some ((false,()),())
    else
     L1 b c d (wJ (a+1))
   else none
  else none
 else
  some ((true,()),())
def Qux (L1:Qxn) (s1_0 s2_1:List Int):Option Qp6:=
 bif (s1_0.length:Int) != (s2_1.length:Int) then
  some ((false,()),())
 else
  L1 s1_0 s2_1 (s1_0.length:Int) 0
def Qob (n:Nat):Nat→Qxn:=iter (fun _ _ _ _=>none) fun L=>Qod L
def Qt7 (n m:Nat) (a b:List Int) (c d:Int):Option Qp6:=
 Qjr Zh0 tab (fiB [.val t25,.val t25] Z43) n [.val t25,.val t25] [⟨t4,[false],none⟩] Tryz.f88 [1,1,0,1,0] [] [0,1,12,13] m
 ⟨[(0,Vp t25 a),(1,Vp t25 b),(12,Vp t2 c),(13,Vp t2 d)],[]⟩
theorem Z2q (n:Nat):∀ m,Qt7 n m=Qob n m
 | 0=>rfl
 | m+1=>by rw [show Qt7 n (m+1)=Qod (Qt7 n m) from by kernel_rfl,Z2q n m];rfl
def Z67 (n:Nat) (s1_0 s2_1:List Int):Option Qp6:=Qux (Qob n n) s1_0 s2_1
def Qx5 (s1_0 s2_1:List Int):Option Qp6:=Z67 1099511627776 s1_0 s2_1
def Z6c:Ent:=⟨[.val t25,.val t25],[⟨t4,[false],none⟩],fun x=>Qx5 x.1 x.2.1⟩
theorem Zc7:GD 88 Z6c:=fnl Z43 (fun n x=>Z67 n x.1 x.2.1) Qk2 Tryz.func88 fun n x=>Eq.trans (b:=Qux (Qt7 n n) x.1 x.2.1) (by kernel_rfl) (by rw [Z2q n n];rfl)
def Zkn:Ctx:=[(86,Zbx),(87,Zsu),(88,Z6c)]
def Zgq:Fi:={ keep:=[],vty:=[],vals:=[],live:=[(0,[0,2,34,35,38,39,40,41]),(1,[0,2,11,34,35,38,39,40,41]),(2,[2,3]),(3,[0,2,4,34,35,38,39,40,41]),(4,[0,2,4,5,34,35,38,39,40,41]),(5,[0,2,5,7,34,35,38,39,40,41]),(6,[0,2,5,7,8,34,35,38,39,40,41]),(7,[2,5,42]),(8,[2,3]),(9,[2,3])] }
def Z89 (Q35:Option ((Qvh × Bool × Unit) × Unit)→Option ((Qvh × Bool × Unit) × Unit)→Option ((Qvh × Bool × Unit) × Unit)) (a:List Int):Option ((Qvh × Bool × Unit) × Unit):=
 bif decide ((a.length:Int)<4) then
  some ((Z15,false,()),())
 else
 bif decide (0≤wJ ((a.length:Int) - 4))&&decide (wJ ((a.length:Int) - 4)≤(a.length:Int)) then
  Option.bind (Z95 (List.drop 0 (List.take ((wJ ((a.length:Int) - 4)).toNat) a),IV.nil)) fun (b:(Qvh × Unit) × (Zma × Unit))=>
  Option.bind (Zu1 b.1.1) fun (c:((List Int) × Unit) × Unit)=>
  bif IV.is b.2.1.2 134 then
   some ((Z15,false,()),())
  else
  bif !(List.isEmpty c.1.1) then
   Option.bind (Qx5 c.1.1 a) fun (d:(Bool × Unit) × Unit)=>
   bif !d.1.1 then
    some ((Z15,false,()),())
   else
    some ((b.1.1,true,()),())
  else
   Q35 (
    some ((Z15,false,()),())) (
    Option.bind (Qx5 c.1.1 a) fun (e:(Bool × Unit) × Unit)=>
    bif !e.1.1 then
     some ((Z15,false,()),())
    else
     some ((b.1.1,true,()),()))
 else none
def Zjf (a:List Int):Option ((Qvh × Bool × Unit) × Unit):=Z89 (@Qa5 _ (@instDecidableEqProd _ _ (@instDecidableEqProd _ _ (@instDecidableEqProd _ _ inferInstance (@instDecidableEqProd _ _ inferInstance (@instDecidableEqProd _ _ inferInstance (@instDecidableEqProd _ _ inferInstance (@instDecidableEqProd _ _ inferInstance (@instDecidableEqProd _ _ inferInstance (@instDecidableEqProd _ _ inferInstance (@instDecidableEqProd _ _ inferInstance (@instDecidableEqProd _ _ inferInstance inferInstance))))))))) (@instDecidableEqProd _ _ inferInstance inferInstance)) inferInstance)) a
theorem Zsk (a:List Int):Qdr Zkn tab Zgq 1 [.val t25] [⟨t45,[false,false,false,false,false,false,true,false,false,false],none⟩,⟨t4,[false],none⟩] Tryz.f45 (a,())=Z89 Q35 a:=by kernel_rfl
theorem Zuh (a:List Int):Qdr Zkn tab Zgq 1 [.val t25] [⟨t45,[false,false,false,false,false,false,true,false,false,false],none⟩,⟨t4,[false],none⟩] Tryz.f45 (a,())=Zjf a:=(Zsk a).trans (congrArg (fun b=>Z89 b a) (@Qiz _ (@instDecidableEqProd _ _ (@instDecidableEqProd _ _ (@instDecidableEqProd _ _ inferInstance (@instDecidableEqProd _ _ inferInstance (@instDecidableEqProd _ _ inferInstance (@instDecidableEqProd _ _ inferInstance (@instDecidableEqProd _ _ inferInstance (@instDecidableEqProd _ _ inferInstance (@instDecidableEqProd _ _ inferInstance (@instDecidableEqProd _ _ inferInstance (@instDecidableEqProd _ _ inferInstance inferInstance))))))))) (@instDecidableEqProd _ _ inferInstance inferInstance)) inferInstance)))
def Zwi:Ent:=⟨[.val t25],[⟨t45,[false,false,false,false,false,false,true,false,false,false],none⟩,⟨t4,[false],none⟩],fun x=>Zjf x.1⟩
theorem Zqt:Q4t tab.ty Tryz.prog 45 Zwi:=by
  refine Qjn (Γ:=Zkn) (fi:=Zgq) (n:=1) follows (Qk1 Zgp (Qk1 Zsr (Qk1 Zc7 Qk2))) Zfn Tryz.func45 (by kernel_rfl) (by kernel_rfl) (fun x r h=>?_)
  obtain ⟨a,_u⟩:=x
  exact (Zuh a).trans h
def Zpw (a:Qse):Option ((Qt4 × Unit) × Unit):=
 Option.bind (Qom (g6 a)) fun b=>
 Option.bind (Qng (h12 a)) fun c=>
 some ((((e12 (u6 a b.1.1) c.1.1),[]),()),())
def Zvo:Ent:=⟨[.val t30],[⟨Ztv,(nF 13++[true]),some 141⟩],fun x=>Zpw x.1⟩
theorem Zgt:GD 89 Zvo:=fnk 1 (fo [[1],[1],[2]]) (Qk1 Qsb (Qk1 Qpi Qk2)) Tryz.func89
abbrev Qkm:Type:=(Int × Bool × Unit) × Unit
def Qxt:Ctx:=[]
def Qq9:Fi:=fr [[0,1,2,40,0,47],[0,1,2,8,40,0,47],[0,1,2,8,9,10,40,0,47],[0,1,2,8,9,10,17,40,0,47],[0,1,2,8,0,11,40,0,47],[0,1,2,8,0,11,31,40,0,47],[0,1,2,8,9,10,40,0,47],[0,1,2,8,9,10,40,0,47],[6,7]]
abbrev Qmr:Type:=Qkv→Int→(Zdv × Int × Unit→Option (Int × Unit))→Int→Int→Int→Option Qkm
def Ql8 (L1:Qmr) (b:Qkv) (d:Int) (e:(Zdv × Int × Unit→Option (Int × Unit))) (f a c:Int):Option Qkm:=
 bif decide (a<c) then
  bif ix (wJ (Int.fdiv (IntKind.wrap .u64 (wJ (a+c))) (2 ^ 1))) (b.length:Int) then
   Option.bind (e ((List.getD b ((wJ (Int.fdiv (IntKind.wrap .u64 (wJ (a+c))) (2 ^ 1))).toNat) (0,0,0)),d,())) fun g=>
   bif decide (g.1<0) then
    L1 b d e f (wJ ((wJ (Int.fdiv (IntKind.wrap .u64 (wJ (a+c))) (2 ^ 1)))+1)) c
   else
    L1 b d e f a (wJ (Int.fdiv (IntKind.wrap .u64 (wJ (a+c))) (2 ^ 1)))
  else none
 else
 bif decide (a<f) then
  bif ix a (b.length:Int) then
   Option.bind (e ((List.getD b a.toNat (0,0,0)),d,())) fun h=>
   some ((a,h.1==0,()),())
  else none
 else
  some ((a,false,()),())
def Qqd (L1:Qmr) (a:Qkv) (c:Int) (b:(Zdv × Int × Unit→Option (Int × Unit))):Option Qkm:=
 L1 a c b (a.length:Int) 0 (a.length:Int)
def Ql9 (n:Nat):Nat→Qmr:=iter (fun _ _ _ _ _ _=>none) fun L=>Ql8 L
def Ql7 (n m:Nat) (a:Qkv) (b:Int) (c:(Zdv × Int × Unit→Option (Int × Unit))) (d e f:Int):Option Qkm:=
 Qjr Qxt tab (fiB [.val t29,.val t2,.fn [t52,t2] [t2]] Qq9) n [.val t29,.val t2,.fn [t52,t2] [t2]] [⟨t2,[false],none⟩,⟨t4,[false],none⟩] Tryz.f186 [1,1,1,0,0] [] [0,1,2,8,9,10] m
 ⟨[(0,Vp t29 a),(1,Vp t2 b),(2,V1 (.clo [t52,t2] [t2] c)),(8,Vp t2 d),(9,Vp t2 e),(10,Vp t2 f)],[]⟩
theorem Qpj (n:Nat):∀ m,Ql7 n m=Ql9 n m
 | 0=>rfl
 | m+1=>by rw [show Ql7 n (m+1)=Ql8 (Ql7 n m) from by kernel_rfl,Qpj n m];rfl
def Qqi (n:Nat) (c:Qkv) (b:Int) (a:(Zdv × Int × Unit→Option (Int × Unit))):Option Qkm:=Qqd (Ql9 n n) c b a
def Qnm (c:Qkv) (b:Int) (a:(Zdv × Int × Unit→Option (Int × Unit))):Option Qkm:=Qqi 1099511627776 c b a
def Qxj:Ent:=⟨[.val t29,.val t2,.fn [t52,t2] [t2]],[⟨t2,[false],none⟩,⟨t4,[false],none⟩],fun x=>Qnm x.1 x.2.1 x.2.2.1⟩
theorem Qw2:GD 186 Qxj:=fnl Qq9 (fun n x=>Qqi n x.1 x.2.1 x.2.2.1) Qk2 Tryz.func186 fun n x=>Eq.trans (b:=Qqd (Ql7 n n) x.1 x.2.1 x.2.2.1) (by kernel_rfl) (by rw [Qpj n n];rfl)
def Z5a (a:Int):Option ((Bool × Unit) × Unit):=
 some ((a != a,()),())
def Zn0:Ent:=⟨[.val t2],[⟨t4,[false],none⟩],fun x=>Z5a x.1⟩
theorem Zic:GD 205 Zn0:=fnk 1 (fo [[0],[2]]) Qk2 Tryz.func205
def Qtm (a b:Int):Option ((Int × Unit) × Unit):=
 Option.bind (Z5a a) fun d=>
 Option.bind (Z5a b) fun c=>
 bif d.1.1 then
  bif c.1.1 then
   some ((0,()),())
  else
   some (((-1),()),())
 else
 bif c.1.1 then
  some ((1,()),())
 else
 bif decide (a<b) then
  some (((-1),()),())
 else
 bif decide (a>b) then
  some ((1,()),())
 else
  some ((0,()),())
def Zkb:Ent:=⟨[.val t2,.val t2],[⟨t2,[false],none⟩],fun x=>Qtm x.1 x.2.1⟩
theorem Qxp:GD 188 Zkb:=fnk 1 (fo [[0,1],[0,1,5],[0,1,5,6],[0,1,6,11],[12],[4],[4],[0,1,13],[4],[0,1,16],[4],[19],[4],[4]]) (Qk1 Zic Qk2) Tryz.func188
def Z8r (b:Zdv) (a:Int):Option ((Int × Unit) × Unit):=
 Option.bind (Qtm b.1 a) fun c=>
 some ((c.1.1,()),())
def Zm0:Ent:=⟨[.val t52,.val t2],[⟨t2,[false],none⟩],fun x=>Z8r x.1 x.2.1⟩
theorem Zgx:GD 187 Zm0:=fnk 1 (fo [[1,2],[4]]) (Qk1 Qxp Qk2) Tryz.func187
def Z9p (c:Qkv) (b:Int):Option ((Int × Bool × Unit) × Unit):=
 Option.bind (Qnm c b (fun x=>(Z8r x.1 x.2.1).bind fun r=>some (r.1.1,()))) fun a=>
 some ((a.1.1,a.1.2.1,()),())
def Zsp:Ent:=⟨[.val t29,.val t2],[⟨t2,[false],none⟩,⟨t4,[false],none⟩],fun x=>Z9p x.1 x.2.1⟩
theorem Zde:GD 158 Zsp:=fnk 1 (fo [[0,1],[4,5]]) (Qk1 Qw2 (Qk1 Zgx Qk2)) Tryz.func158
def Z3d (a:Qkv) (c:Int):Option ((Zdv × Bool × Unit) × Unit):=
 Option.bind (Z9p a c) fun b=>
 bif !b.1.2.1 then
  some (((0,0,0),false,()),())
 else
 bif ix b.1.1 (a.length:Int) then
  some (((List.getD a b.1.1.toNat (0,0,0)),true,()),())
 else none
def Znl:Ent:=⟨[.val t29,.val t2],[⟨t52,[false,false,false],none⟩,⟨t4,[false],none⟩],fun x=>Z3d x.1 x.2.1⟩
theorem Z2o:GD 98 Znl:=fnk 1 (fo [[0,1,4],[0,4,6,7],[0,4,6,15],[4,5],[4,5]]) (Qk1 Zde Qk2) Tryz.func98
def Zis (d:Qkv) (b c:Int):Option ((Bool × Unit) × Unit):=
 Option.bind (Z3d d b) fun a=>
 bif a.1.2.1 then
  some ((decide (a.1.1.2.1>c),()),())
 else
  some ((false,()),())
def Zwl:Ent:=⟨[.val t29,.val t2,.val t2],[⟨t4,[false],none⟩],fun x=>Zis x.1 x.2.1 x.2.2.1⟩
theorem Zhl:GD 90 Zwl:=fnk 1 (fr [[0,1,2,17,0,20],[2,7,8,17,0,20],[6]]) (Qk1 Z2o Qk2) Tryz.func90
def Qx1 (a:Qt4) (b:Int):Option (Unit × (Qt4 × Unit)):=
 some ((),(((u11 (u9 (u6 (u4 (u3 a.1 0) 0) []) 0) b),a.2),()))
def Zos:Ent:=⟨[.box 141 Ztv (nF 13++[true]),.val t2],[],fun x=>Qx1 x.1 x.2.1⟩
theorem Qvz:GD 91 Zos:=fnk 1 (fo [[0]]) Qk2 Tryz.func91
def Za0 (a:Qse):Option ((Bool × Unit) × Unit):=
 bif a.1==1 then
  some ((true,()),())
 else
 bif (g3 a) != 0 then
  some ((decide (wJ (a.2.2.1 - (g8 a))≤20),()),())
 else
  some ((false,()),())
def Zoh:Ent:=⟨[.val t30],[⟨t4,[false],none⟩],fun x=>Za0 x.1⟩
theorem Z8w:GD 111 Zoh:=fnk 1 (fr [[1,7,0,17],[2]]) Qk2 Tryz.func111
def Zho (b:List Int) (a:Int):Option ((Bool × Unit) × Unit):=
 Option.bind (Qrm b a) fun c=>
 some ((c.1.1,()),())
def Zwe:Ent:=⟨[.val t28,.val t2],[⟨t4,[false],none⟩],fun x=>Zho x.1 x.2.1⟩
theorem Zqz:GD 181 Zwe:=fnk 1 (fo [[0,1],[4]]) (Qk1 Qzj Qk2) Tryz.func181
def Z57 (a:Qt4) (b:Int):Option ((Bool × Unit) × (Qt4 × Unit)):=
 bif a.1.1==1 then
  Option.bind (Z3d (h12 a.1) b) fun c=>
  Option.bind (Za0 a.1) fun d=>
  bif d.1.1 then
   Option.bind (Zho (g6 a.1) b) fun e=>
   bif !e.1.1 then
    bif c.1.2.1 then
     some ((true,()),(a,()))
    else
     some ((decide (((h12 a.1).length:Int)<8),()),(a,()))
   else
    some ((false,()),(a,()))
  else
   some ((false,()),(a,()))
 else
  Option.bind (Z3d (h12 a.1) b) fun f=>
  Option.bind (Za0 a.1) fun g=>
  bif g.1.1 then
   Option.bind (Zho (g6 a.1) b) fun h=>
   bif !h.1.1 then
    bif f.1.2.1 then
     some ((true,()),(a,()))
    else
     some ((decide (((h12 a.1).length:Int)<3),()),(a,()))
   else
    some ((false,()),(a,()))
  else
   some ((false,()),(a,()))
def Znu:Ent:=⟨[.box 141 Ztv (nF 13++[true]),.val t2],[⟨t4,[false],none⟩],fun x=>Z57 x.1 x.2.1⟩
theorem Zi3:GD 152 Znu:=fnk 1 (fr [[0,1,30,0,37,40,0,50],[0,1,5,30,0,37,40,0,50],[0,1,5,13,30,0,37,40,0,50],[0,1,5,30,0,37,40,0,50],[0,1,5,7,30,0,37,40,0,50],[0,4]]) (Qk1 Z2o (Qk1 Z8w (Qk1 Zqz Qk2))) Tryz.func152
def Qx0 (a:Qt4) (b e c:Int):Option (Unit × (Qt4 × Unit)):=
 Option.bind (Qom (g6 a.1)) fun d=>
 bif Nat.ble (a.2.length+1) 1073741824 then
  some ((),((a.1,a.2++[(b,a.1.1,e,a.1.2.1,(g7 a.1),wJ (a.1.2.2.1 - (g8 a.1)),d.1.1,c,0,zB)]),()))
 else none
def Qkg (a:Qt4) (b d c:Int):Option (Unit × (Qt4 × Unit)):=
 bif b==2 then
  Qx0 a b d c
 else
 bif b==5 then
  Qx0 a b d c
 else
 bif Nat.ble (a.2.length+1) 1073741824 then
  some ((),((a.1,a.2++[(b,a.1.1,d,a.1.2.1,0,0,[],c,0,zB)]),()))
 else none
def Z3r:Ent:=⟨[.box 141 Ztv (nF 13++[true]),.val t2,.val t2,.val t2],[],fun x=>Qkg x.1 x.2.1 x.2.2.1 x.2.2.2.1⟩
theorem Qnh:GD 142 Z3r:=fnk 1 (fo [[0,1,8,26,27],[0,8,28],[0,8],[0]]) (Qk1 Qsb Qk2) Tryz.func142
def Z69:Ctx:=[(203,Qji)]
def Z4z:Fi:={ keep:=[],vty:=[],vals:=[],live:=[(0,[0,1,2]),(1,[0,1,2]),(2,[0,1,2,7]),(3,[0,1,2,7,16]),(4,[6]),(5,[0,1,2,7,8]),(6,[0,1,2,7,8,22]),(7,[6]),(8,[0,1,2,7,8,31]),(9,[0,1,2,7,9]),(10,[0,1,7,9]),(11,[9]),(12,[6]),(13,[0,1,2,7,8]),(14,[0,1,2,7,8,68]),(15,[0,1,2]),(16,[0]),(17,[6]),(18,[0,1,7]),(19,[0]),(20,[6])] }
def Z6f (c:Nat) (b:Qkv) (a:Int) (d:Qkv):Option ((Qkv × Unit) × Unit):=Qep ((0,0,0):Zdv) c b a d
theorem Zcd (c:Nat) (b:Qkv) (a:Int) (d:Qkv):Qdr Z69 tab { Z4z with cap:=c } 1 [.ownc 53 t52,.val t2,.own 53 t52] [⟨t29,[true],none⟩] Tryz.f203 (b,a,d,())=Z6f c b a d:=by kernel_rfl
theorem Zcm (c:Nat) (b:Qkv) (a:Int) (d:Qkv):Z6f c b a d=Qep ((0,0,0):Zdv) c b a d:=by kernel_rfl
def Z2d (b:Qkv) (a:Int) (c:Qkv):Option ((Qkv × Unit) × Unit):=Qf0 b a c
def Zgw:Ent:=⟨[.ownc 53 t52,.val t2,.own 53 t52],[⟨t29,[true],none⟩],fun x=>Z2d x.1 x.2.1 x.2.2.1⟩
theorem Zci:Q4t tab.ty Tryz.prog 203 Zgw:=by
  refine Qha (Γ:=Z69) (fi:=Z4z) (n:=1) follows (Qk1 (Qk0 Tryz.func203 (by kernel_rfl) (by kernel_rfl)) Qk2) Zfn Tryz.func203 (by kernel_rfl) (by kernel_rfl) (fun c x r hc h=>?_)
  obtain ⟨b,a,d,_u⟩:=x
  exact (Zcd c b a d).trans ((Zcm c b a d).trans (Qio ((0,0,0):Zdv) c b a d r hc h))
def Zd9 (d:Qkv) (a:Zdv):Option ((Qkv × Bool × Unit) × Unit):=
 Option.bind (Qng d) fun b=>
 Option.bind (Zis d a.1 a.2.1) fun e=>
 bif e.1.1 then
  some ((b.1.1,false,()),())
 else
  Option.bind (Z9p d a.1) fun c=>
  bif c.1.2.1 then
   bif ix c.1.1 (b.1.1.length:Int) then
    bif ix c.1.1 (b.1.1.length:Int) then
     some ((List.set b.1.1 c.1.1.toNat a,true,()),())
    else none
   else none
  else
   Option.bind (Z2d b.1.1 c.1.1 [a]) fun f=>
   some ((f.1.1,true,()),())
def Zu4:Ent:=⟨[.val t29,.val t52],[⟨t29,[true],none⟩,⟨t4,[false],none⟩],fun x=>Zd9 x.1 x.2.1⟩
theorem Zp8:GD 182 Zu4:=fnk 1 (fo [[0,3],[0,3,6],[0,3,6,16],[4,5],[3,6,7,8],[3,6,7,25],[6],[4,5],[4,5]]) (Qk1 Qpi (Qk1 Zhl (Qk1 Zde (Qk1 Zci Qk2)))) Tryz.func182
def Qy6 (a:Qt4) (b:Qvh):Option (Unit × (Qt4 × Unit)):=
 Option.bind (Zd9 (h12 a.1) (b.2.1,(g3 b),a.1.2.2.1)) fun c=>
 some ((),(((e12 a.1 c.1.1),a.2),()))
def Zm5:Ent:=⟨[.box 141 Ztv (nF 13++[true]),.val t45],[],fun x=>Qy6 x.1 x.2.1⟩
theorem Z5z:GD 153 Zm5:=fnk 1 (fo [[0,3],[0]]) (Qk1 Zp8 Qk2) Tryz.func153
def Qwh (d:Qt4) (a:Qvh) (c:Int):Option (Unit × (Qt4 × Unit)):=
 Option.bind (Z57 d a.2.1) fun b=>
 bif !b.1.1 then
  Option.bind (Qkg b.2.1 3 a.2.1 0) fun e=>
  some ((),(e.2.1,()))
 else
  Option.bind (Qy6 b.2.1 a) fun f=>
  Option.bind (Qkg f.2.1 2 a.2.1 c) fun g=>
  some ((),(g.2.1,()))
def Zku:Ent:=⟨[.box 141 Ztv (nF 13++[true]),.val t45,.val t2],[],fun x=>Qwh x.1 x.2.1 x.2.2.1⟩
theorem Zfq:GD 92 Zku:=fnk 1 (fo [[0,2,4],[0,2,4,10],[0],[0,2,4],[0]]) (Qk1 Qnh (Qk1 Zi3 (Qk1 Z5z Qk2))) Tryz.func92
def Zj1 (c:List Int) (b:Int):Option (((List Int) × Bool × Unit) × Unit):=
 Option.bind (Qom c) fun a=>
 bif Nat.ble (a.1.1.length+1) 1073741824 then
  Option.bind (Z56 (a.1.1++[b])) fun d=>
  bif !d.1.1 then
   some (([],false,()),())
  else
   some ((a.1.1++[b],true,()),())
 else none
def Zws:Ent:=⟨[.val t28,.val t2],[⟨t28,[true],none⟩,⟨t4,[false],none⟩],fun x=>Zj1 x.1 x.2.1⟩
theorem Zhs:GD 154 Zws:=fnk 1 (fo [[0,1],[6],[6,14],[4,5],[4,5]]) (Qk1 Qsb (Qk1 Zjp Qk2)) Tryz.func154
def Zad (a:List Int):Option ((Int × Unit) × Unit):=
 bif decide ((a.length:Int)<2) then
  some ((0,()),())
 else
 bif decide (0≤wJ ((a.length:Int) - 2))&&decide (wJ ((a.length:Int) - 2)<(a.length:Int)) then
  some ((List.getD a ((wJ ((a.length:Int) - 2)).toNat) 0,()),())
 else none
def Zsl:Ent:=⟨[.val t28],[⟨t2,[false],none⟩],fun x=>Zad x.1⟩
theorem Zna:GD 184 Zsl:=fnk 1 (fo [[0],[0,5],[2],[2]]) Qk2 Tryz.func184
def Z3l (a:Qt4) (d:Qvh) (b:List Int):Option (Unit × (Qt4 × Unit)):=
 Option.bind (Zad (g6 d)) fun c=>
 bif c.1.1==0 then
  some ((),(((u6 (u5 a.1 1) b),a.2),()))
 else
  some ((),(((u6 (u5 a.1 c.1.1) b),a.2),()))
def Zpb:Ent:=⟨[.box 141 Ztv (nF 13++[true]),.val t45,.val t28],[],fun x=>Z3l x.1 x.2.1 x.2.2.1⟩
theorem Z9l:GD 155 Zpb:=fnk 1 (fo [[0,2,4],[0],[0,23],[0]]) (Qk1 Zna Qk2) Tryz.func155
def Qvs (b:Qt4) (c:Qvh):Option (Unit × (Qt4 × Unit)):=
 Option.bind (Qkg ((u9 b.1 0),b.2) 6 c.2.1 0) fun a=>
 some ((),(((u11 a.2.1.1 (wJ ((g11 a.2.1.1)+1))),a.2.1.2),()))
def Qwb (b:Qt4) (a:Qvh):Option (Unit × (Qt4 × Unit)):=
 bif (g9 b.1) != a.2.1 then
  bif (g3 b.1) != a.2.1 then
   Option.bind (Qkg b 6 a.2.1 0) fun e=>
   some ((),(e.2.1,()))
  else
   some ((),(b,()))
 else
 bif (g3 b.1) != 0 then
  bif (g3 b.1) != a.2.1 then
   Option.bind (Qkg b 6 a.2.1 0) fun f=>
   some ((),(f.2.1,()))
  else
   some ((),(b,()))
 else
  Option.bind (Zj1 (g6 a) b.1.1) fun d=>
  bif !d.1.2.1 then
   Qvs b a
  else
  bif decide ((g5 a)>20) then
   Qvs b a
  else
   Option.bind (Z3l ((u9 b.1 0),b.2) a d.1.1) fun c=>
   some ((),(((u11 (u8 (u7 (u4 (u3 c.2.1.1 a.2.1) (g3 a)) (g4 a)) (wJ (c.2.1.1.2.2.1 - (g5 a)))) 0),c.2.1.2),()))
def Zkl:Ent:=⟨[.box 141 Ztv (nF 13++[true]),.val t45],[],fun x=>Qwb x.1 x.2.1⟩
theorem Zfd:GD 93 Zkl:=fnk 1 (fr [[0,3,15,0,20,52,0,54],[0,3,21,52,0,54],[0,3,29],[0],[0,3,52,0,54],[0,3,4,5,52,0,54],[0,3,4,55],[0],[0],[0,3],[0]]) (Qk1 Qnh (Qk1 Zhs (Qk1 Z9l Qk2))) Tryz.func93
def Z0s (a:Qt4) (b:Qvh):Option (Unit × (Qt4 × Unit)):=
 bif b.2.1==(g9 a.1) then
  some ((),(((u11 (u9 a.1 0) (wJ ((g11 a.1)+1))),a.2),()))
 else
 bif b.2.1==(g3 a.1) then
  Option.bind (Qx1 a 0) fun c=>
  some ((),(c.2.1,()))
 else
  some ((),(a,()))
def Zks:Ent:=⟨[.box 141 Ztv (nF 13++[true]),.val t45],[],fun x=>Z0s x.1 x.2.1⟩
theorem Zf7:GD 94 Zks:=fnk 1 (fo [[0,3],[0,5],[0,5,6],[0],[0],[0,26],[0]]) (Qk1 Qvz Qk2) Tryz.func94
def Qw9 (b:Qt4) (a:Qvh):Option (Unit × (Qt4 × Unit)):=
 Option.bind (Z3d (h12 b.1) a.2.1) fun c=>
 bif c.1.2.1 then
  Option.bind (Qy6 b a) fun d=>
  some ((),(d.2.1,()))
 else
  Option.bind (Qkg b 3 a.2.1 0) fun e=>
  some ((),(e.2.1,()))
def Zkj:Ent:=⟨[.box 141 Ztv (nF 13++[true]),.val t45],[],fun x=>Qw9 x.1 x.2.1⟩
theorem Zfj:GD 95 Zkj:=fnk 1 (fo [[0,3],[0,3,5],[0,3,17],[0],[0]]) (Qk1 Z2o (Qk1 Qnh (Qk1 Z5z Qk2))) Tryz.func95
def Z07 (c:Qt4) (a:Qvh):Option (Unit × (Qt4 × Unit)):=
 bif a.2.1 != (g3 c.1) then
  Option.bind (Qkg c 6 a.2.1 0) fun e=>
  some ((),(e.2.1,()))
 else
  Option.bind (Zj1 (g6 a) c.1.1) fun d=>
  bif !d.1.2.1 then
   Option.bind (Qkg c 6 a.2.1 0) fun f=>
   Option.bind (Qx1 f.2.1 1) fun g=>
   some ((),(g.2.1,()))
  else
   Option.bind (Z3l c a d.1.1) fun b=>
   bif decide (wJ (b.2.1.1.2.2.1 - (g5 a))>(g8 b.2.1.1)) then
    some ((),(((u8 (u7 b.2.1.1 (g4 a)) (wJ (b.2.1.1.2.2.1 - (g5 a)))),b.2.1.2),()))
   else
    some ((),(b.2.1,()))
def Zky:Ent:=⟨[.box 141 Ztv (nF 13++[true]),.val t45],[],fun x=>Z07 x.1 x.2.1⟩
theorem Zf3:GD 96 Zky:=fnk 1 (fo [[0,3],[0,3,13],[0],[0,3,4,5],[0,3,4,30],[0],[0],[0,3],[0,3,54],[0]]) (Qk1 Qvz (Qk1 Qnh (Qk1 Zhs (Qk1 Z9l Qk2)))) Tryz.func96
abbrev Qn5:Type:=(Int × Unit) × Unit
def Zc3:Ctx:=[]
def Z0l:Fi:=fo [[0,1],[0,1,7,8],[0,1,7,8,9],[0,1,5,7,8],[0,1,5,7,8,16],[4],[0,1,7,8],[4]]
abbrev Qup:Type:=Qkv→(Zdv × Unit→Option (Bool × Unit))→Int→Int→Option Qn5
def Qmu (L1:Qup) (b:Qkv) (c:(Zdv × Unit→Option (Bool × Unit))) (d a:Int):Option Qn5:=
 bif decide (a<d) then
  bif ix a (b.length:Int) then
   Option.bind (c ((List.getD b a.toNat (0,0,0)),())) fun e=>
   bif e.1 then
    some ((a,()),())
   else
    L1 b c d (wJ (a+1))
  else none
 else
  some (((-1),()),())
def Z18 (L1:Qup) (a:Qkv) (b:(Zdv × Unit→Option (Bool × Unit))):Option Qn5:=
 L1 a b (a.length:Int) 0
def Qlm (n:Nat):Nat→Qup:=iter (fun _ _ _ _=>none) fun L=>Qmu L
def Qqk (n m:Nat) (a:Qkv) (b:(Zdv × Unit→Option (Bool × Unit))) (c d:Int):Option Qn5:=
 Qjr Zc3 tab (fiB [.val t29,.fn [t52] [t4]] Z0l) n [.val t29,.fn [t52] [t4]] [⟨t2,[false],none⟩] Tryz.f185 [1,0,1,0] [] [0,1,7,8] m
 ⟨[(0,Vp t29 a),(1,V1 (.clo [t52] [t4] b)),(7,Vp t2 c),(8,Vp t2 d)],[]⟩
theorem Qz3 (n:Nat):∀ m,Qqk n m=Qlm n m
 | 0=>rfl
 | m+1=>by rw [show Qqk n (m+1)=Qmu (Qqk n m) from by kernel_rfl,Qz3 n m];rfl
def Z1s (n:Nat) (b:Qkv) (a:(Zdv × Unit→Option (Bool × Unit))):Option Qn5:=Z18 (Qlm n n) b a
def Qxf (b:Qkv) (a:(Zdv × Unit→Option (Bool × Unit))):Option Qn5:=Z1s 1099511627776 b a
def Z20:Ent:=⟨[.val t29,.fn [t52] [t4]],[⟨t2,[false],none⟩],fun x=>Qxf x.1 x.2.1⟩
theorem Z92:GD 185 Z20:=fnl Z0l (fun n x=>Z1s n x.1 x.2.1) Qk2 Tryz.func185 fun n x=>Eq.trans (b:=Z18 (Qqk n n) x.1 x.2.1) (by kernel_rfl) (by rw [Qz3 n n];rfl)
abbrev Qms:Type:=(Qkv × Unit) × Unit
def Zat:Ctx:=[(156,Qji),(185,Z20)]
def Qz7:Fi:={ keep:=[],vty:=[],vals:=[],live:=[(0,[0,1]),(1,[0,1,5]),(2,[0,1,5,12]),(3,[4]),(4,[0,1,5,6]),(5,[0,1,5,6,19]),(6,[0,1,5,6]),(7,[0,1,5,6,7]),(8,[0,1,5,6,7,29]),(9,[0,1,5,6]),(10,[0,1,5,6]),(11,[0,5]),(12,[4])],melt:=[(11,1000000),(12,1000000)] }
abbrev Qty:Type:=(Zdv × Unit→Option (Bool × Unit))→Int→Int→Qkv→Option Qms
def Qm2 (L1:Qty) (d:(Zdv × Unit→Option (Bool × Unit))) (b c:Int) (a:Qkv):Option Qms:=
 bif decide (c<(a.length:Int)) then
  bif ix c (a.length:Int) then
   bif ix c (a.length:Int) then
    Option.bind (d ((List.getD a c.toNat (0,0,0)),())) fun e=>
    bif !e.1 then
     bif ix b (a.length:Int) then
      bif ix b (a.length:Int) then
       L1 d (wJ (b+1)) (wJ (c+1)) (List.set a b.toNat (List.getD a c.toNat (0,0,0)))
      else none
     else none
    else
     L1 d b (wJ (c+1)) a
   else none
  else none
 else
 bif (decide (0≤b)&&decide (b≤((a.length:Nat):Int)))&&decide (((a.length:Nat):Int)≤(((List.map some a).length:Nat):Int)) then
  bif Nat.ble ((0+b.toNat)+((((a.length:Nat):Int) - b).toNat)) ((List.map some a).length) then
   bif decide (0≤b)&&decide (b≤(((Q6 (List.map some a) (0+b.toNat) (List.replicate ((((a.length:Nat):Int) - b).toNat) ((0,0,0):Zdv))).length:Nat):Int)) then
    bif Nat.ble ((b - 0).toNat) ((Q6 (List.map some a) (0+b.toNat) (List.replicate ((((a.length:Nat):Int) - b).toNat) ((0,0,0):Zdv))).length) then
     Option.bind (Qd (List.take ((b - 0).toNat) (Q6 (List.map some a) (0+b.toNat) (List.replicate ((((a.length:Nat):Int) - b).toNat) ((0,0,0):Zdv))))) fun z7=>
     some ((z7,()),())
    else none
   else none
  else none
 else none
def Qqp (L1:Qty) (b:Qkv) (c:(Zdv × Unit→Option (Bool × Unit))):Option Qms:=
 Option.bind (Qxf b c) fun a=>
 bif a.1.1==(-1) then
  some ((b,()),())
 else
  L1 c a.1.1 (wJ (a.1.1+1)) b
def Qm4 (n:Nat):Nat→Qty:=iter (fun _ _ _ _=>none) fun L=>Qm2 L
def Qq0 (n m:Nat) (a:(Zdv × Unit→Option (Bool × Unit))) (b c:Int) (d:Qkv):Option Qms:=
 Qjr Zat tab (fiB [.own 53 t52,.fn [t52] [t4]] Qz7) n [.own 53 t52,.fn [t52] [t4]] [⟨t29,[true],none⟩] Tryz.f156 [1,1,1,0,1,0] [] [0,1,5,6] m
 ⟨[(0,V1 (.ref (888888,0))),(1,V1 (.clo [t52] [t4] a)),(5,Vp t2 b),(6,Vp t2 c)],[((888888,0),Ob.row 53 t52 d)]⟩
theorem Qy2 (n:Nat):∀ m,Qq0 n m=Qm4 n m
 | 0=>rfl
 | m+1=>by rw [show Qq0 n (m+1)=Qm2 (Qq0 n m) from by kernel_rfl,Qy2 n m];rfl
def Z05 (n:Nat) (b:Qkv) (a:(Zdv × Unit→Option (Bool × Unit))):Option Qms:=Qqp (Qm4 n n) b a
def Qsq (b:Qkv) (a:(Zdv × Unit→Option (Bool × Unit))):Option Qms:=Z05 1099511627776 b a
def Zba:Ent:=⟨[.own 53 t52,.fn [t52] [t4]],[⟨t29,[true],none⟩],fun x=>Qsq x.1 x.2.1⟩
theorem Qxd:GD 156 Zba:=fnl Qz7 (fun n x=>Z05 n x.1 x.2.1) (Qk1 (Qk0 Tryz.func156 (by kernel_rfl) (by kernel_rfl)) (Qk1 Z92 Qk2)) Tryz.func156 fun n x=>Eq.trans (b:=Qqp (Qq0 n n) x.1 x.2.1) (by kernel_rfl) (by rw [Qy2 n n];rfl)
def Zhv (a:Zdv) (b:Int):Option ((Bool × Unit) × Unit):=
 some ((a.1==b,()),())
def Zof:Ent:=⟨[.val t52,.rbox t2],[⟨t4,[false],none⟩],fun x=>Zhv x.1 x.2.1⟩
theorem Zht:GD 157 Zof:=fnk 1 (fo [[1,2],[3]]) Qk2 Tryz.func157
def Zcy (b:Qkv) (a:Int):Option ((Qkv × Unit) × Unit):=
 Option.bind (Qng b) fun c=>
 Option.bind (Qsq c.1.1 (fun x=>(Zhv x.1 a).bind fun r=>some (r.1.1,()))) fun d=>
 some ((d.1.1,()),())
def Zu7:Ent:=⟨[.val t29,.val t2],[⟨t29,[true],none⟩],fun x=>Zcy x.1 x.2.1⟩
theorem Zou:GD 97 Zu7:=fnk 1 (fo [[0,3],[4]]) (Qk1 Qpi (Qk1 Qxd (Qk1 Zht Qk2))) Tryz.func97
def Qsf (a:Qvh) (b:(Qt4 × Unit) × Unit) (h:Int):Option ((Qse × Qpc × Unit) × Unit):=
 bif a.1==1 then
  Option.bind (Qwh b.1.1 a h) fun c=>
  some ((c.2.1.1,c.2.1.2,()),())
 else
 bif a.1==2 then
  Option.bind (Qwb b.1.1 a) fun d=>
  some ((d.2.1.1,d.2.1.2,()),())
 else
 bif a.1==3 then
  Option.bind (Z0s b.1.1 a) fun e=>
  some ((e.2.1.1,e.2.1.2,()),())
 else
 bif a.1==4 then
  Option.bind (Qw9 b.1.1 a) fun f=>
  some ((f.2.1.1,f.2.1.2,()),())
 else
 bif a.1==5 then
  Option.bind (Z07 b.1.1 a) fun g=>
  some ((g.2.1.1,g.2.1.2,()),())
 else
 bif a.1==6 then
  Option.bind (Zcy (h12 b.1.1.1) a.2.1) fun i=>
  some (((e12 b.1.1.1 i.1.1),b.1.1.2,()),())
 else
  some ((b.1.1.1,b.1.1.2,()),())
def Zdj (c:(Qt4 × Unit) × Unit) (a:Qvh) (d:Int):Option ((Qse × Qpc × Unit) × Unit):=
 bif (g3 c.1.1.1) != 0 then
  bif a.2.1==(g3 c.1.1.1) then
   bif decide ((g3 a)>(g4 c.1.1.1)) then
    Option.bind (Qx1 c.1.1 0) fun b=>
    bif a.1==1 then
     Option.bind (Qwh b.2.1 a d) fun e=>
     some ((e.2.1.1,e.2.1.2,()),())
    else
    bif a.1==2 then
     Option.bind (Qwb b.2.1 a) fun f=>
     some ((f.2.1.1,f.2.1.2,()),())
    else
    bif a.1==3 then
     Option.bind (Z0s b.2.1 a) fun g=>
     some ((g.2.1.1,g.2.1.2,()),())
    else
    bif a.1==4 then
     Option.bind (Qw9 b.2.1 a) fun h=>
     some ((h.2.1.1,h.2.1.2,()),())
    else
    bif a.1==5 then
     Option.bind (Z07 b.2.1 a) fun i=>
     some ((i.2.1.1,i.2.1.2,()),())
    else
    bif a.1==6 then
     Option.bind (Zcy (h12 b.2.1.1) a.2.1) fun j=>
     some (((e12 b.2.1.1 j.1.1),b.2.1.2,()),())
    else
     some ((b.2.1.1,b.2.1.2,()),())
   else
    Qsf a c d
  else
   Qsf a c d
 else
  Qsf a c d
def Zif (e:Qse) (b:Qvh) (c:Int):Option ((Qse × Qpc × Unit) × Unit):=
 Option.bind (Zpw e) fun a=>
 Option.bind (Zis (h12 a.1.1.1) b.2.1 (g3 b)) fun d=>
 bif d.1.1 then
  some ((a.1.1.1,[],()),())
 else
 bif b.2.1==(g3 a.1.1.1) then
  bif decide ((g3 b)<(g4 a.1.1.1)) then
   some ((a.1.1.1,[],()),())
  else
   Zdj a b c
 else
  Zdj a b c
def Zv2:Ent:=⟨[.val t30,.val t45,.val t2],[⟨t30,(nF 13),none⟩,⟨t48,[true],none⟩],fun x=>Zif x.1 x.2.1 x.2.2.1⟩
theorem Zoy:GD 46 Zv2:=fnk 1 (fr [[2,3,4,6,22,0,39,52,0,59,62,0,69],[2,4,6,8,22,0,39,52,0,59,62,0,69],[2,4,6,8,40,52,0,59,62,0,69],[6,7],[2,4,6,8,70],[2,4,6,8],[2,4,6,8,74],[2,4,6,8,74,75],[6,8],[4,6,8,74,81],[6,8],[4,6,8,74,86],[6,8],[4,6,8,74,91],[6,8],[4,6,8,74,96],[6,8],[4,6,8,101],[6,8],[6,7]]) (Qk1 Zgt (Qk1 Zhl (Qk1 Qvz (Qk1 Zfq (Qk1 Zfd (Qk1 Zf7 (Qk1 Zfj (Qk1 Zf3 (Qk1 Zou Qk2))))))))) Tryz.func46
abbrev Qkj:Type:=(Int × Bool × Unit) × Unit
def Qwn:Ctx:=[]
def Qpb:Fi:=fr [[0,1,2,40,0,47],[0,1,2,8,40,0,47],[0,1,2,8,9,10,40,0,47],[0,1,2,8,9,10,17,40,0,47],[0,1,2,8,0,11,40,0,47],[0,1,2,8,0,11,31,40,0,47],[0,1,2,8,9,10,40,0,47],[0,1,2,8,9,10,40,0,47],[6,7]]
abbrev Qlz:Type:=Qkl→Int→(Zgs × Int × Unit→Option (Int × Unit))→Int→Int→Int→Option Qkj
def Ql0 (L1:Qlz) (b:Qkl) (d:Int) (e:(Zgs × Int × Unit→Option (Int × Unit))) (f a c:Int):Option Qkj:=
 bif decide (a<c) then
  bif ix (wJ (Int.fdiv (IntKind.wrap .u64 (wJ (a+c))) (2 ^ 1))) (b.length:Int) then
   Option.bind (e ((List.getD b ((wJ (Int.fdiv (IntKind.wrap .u64 (wJ (a+c))) (2 ^ 1))).toNat) (0,zB)),d,())) fun g=>
   bif decide (g.1<0) then
    L1 b d e f (wJ ((wJ (Int.fdiv (IntKind.wrap .u64 (wJ (a+c))) (2 ^ 1)))+1)) c
   else
    L1 b d e f a (wJ (Int.fdiv (IntKind.wrap .u64 (wJ (a+c))) (2 ^ 1)))
  else none
 else
 bif decide (a<f) then
  bif ix a (b.length:Int) then
   Option.bind (e ((List.getD b a.toNat (0,zB)),d,())) fun h=>
   some ((a,h.1==0,()),())
  else none
 else
  some ((a,false,()),())
def Qpl (L1:Qlz) (a:Qkl) (c:Int) (b:(Zgs × Int × Unit→Option (Int × Unit))):Option Qkj:=
 L1 a c b (a.length:Int) 0 (a.length:Int)
def Qkz (n:Nat):Nat→Qlz:=iter (fun _ _ _ _ _ _=>none) fun L=>Ql0 L
def Qky (n m:Nat) (a:Qkl) (b:Int) (c:(Zgs × Int × Unit→Option (Int × Unit))) (d e f:Int):Option Qkj:=
 Qjr Qwn tab (fiB [.val t32,.val t2,.fn [t58,t2] [t2]] Qpb) n [.val t32,.val t2,.fn [t58,t2] [t2]] [⟨t2,[false],none⟩,⟨t4,[false],none⟩] Tryz.f189 [1,1,1,0,0] [] [0,1,2,8,9,10] m
 ⟨[(0,Vp t32 a),(1,Vp t2 b),(2,V1 (.clo [t58,t2] [t2] c)),(8,Vp t2 d),(9,Vp t2 e),(10,Vp t2 f)],[]⟩
theorem Qos (n:Nat):∀ m,Qky n m=Qkz n m
 | 0=>rfl
 | m+1=>by rw [show Qky n (m+1)=Ql0 (Qky n m) from by kernel_rfl,Qos n m];rfl
def Qpg (n:Nat) (c:Qkl) (b:Int) (a:(Zgs × Int × Unit→Option (Int × Unit))):Option Qkj:=Qpl (Qkz n n) c b a
def Qlb (c:Qkl) (b:Int) (a:(Zgs × Int × Unit→Option (Int × Unit))):Option Qkj:=Qpg 1099511627776 c b a
def Qwd:Ent:=⟨[.val t32,.val t2,.fn [t58,t2] [t2]],[⟨t2,[false],none⟩,⟨t4,[false],none⟩],fun x=>Qlb x.1 x.2.1 x.2.2.1⟩
theorem Qoo:GD 189 Qwd:=fnl Qpb (fun n x=>Qpg n x.1 x.2.1 x.2.2.1) Qk2 Tryz.func189 fun n x=>Eq.trans (b:=Qpl (Qky n n) x.1 x.2.1 x.2.2.1) (by kernel_rfl) (by rw [Qos n n];rfl)
def Zcp (a:Zgs) (c:Int):Option ((Int × Unit) × Unit):=
 Option.bind (Qtm a.1 c) fun b=>
 some ((b.1.1,()),())
def Zpd:Ent:=⟨[.val t58,.val t2],[⟨t2,[false],none⟩],fun x=>Zcp x.1 x.2.1⟩
theorem Zkx:GD 190 Zpd:=fnk 1 (fo [[1,2],[4]]) (Qk1 Qxp Qk2) Tryz.func190
def Zmk (a:Qkl) (c:Int):Option ((ByteArray × Bool × Unit) × Unit):=
 Option.bind (Qlb a c (fun x=>(Zcp x.1 x.2.1).bind fun r=>some (r.1.1,()))) fun b=>
 bif !b.1.2.1 then
  some ((zB,false,()),())
 else
 bif ix b.1.1 (a.length:Int) then
  some (((List.getD a b.1.1.toNat (0,zB)).2,true,()),())
 else none
def Zq7:Ent:=⟨[.val t32,.val t2],[⟨t9,[false],none⟩,⟨t4,[false],none⟩],fun x=>Zmk x.1 x.2.1⟩
theorem Zrw:GD 159 Zq7:=fnk 1 (fo [[0,1],[0,6,7],[0,6,15],[4,5],[4,5]]) (Qk1 Qoo (Qk1 Zkx Qk2)) Tryz.func159
abbrev Qu8:Type:=(Qkl × Qmq × Unit) × Unit
def Ztq:Ctx:=[(159,Zq7)]
def Zhn:Fi:={ keep:=[],vty:=[(6,32),(7,146)],vals:=[],live:=[(0,[1,2,3,6,7,25,26,27,28,48,49,52,53,60,61,62,63,64,65,66,67,68]),(1,[1,2,3,6,7,14,25,26,27,28,48,49,52,53,60,61,62,63,64,65,66,67,68]),(2,[6,7]),(3,[1,2,3,6,7,25,26,27,28,48,49,52,53,60,61,62,63,64,65,66,67,68]),(4,[1,2,3,6,7,8,25,26,27,28,48,49,52,53,60,61,62,63,64,65,66,67,68]),(5,[1,2,3,6,7,8,25,26,27,28,29,48,49,52,53,60,61,62,63,64,65,66,67,68]),(6,[1,2,3,6,7,8,25,26,27,28,48,49,52,53,60,61,62,63,64,65,66,67,68]),(7,[1,2,3,6,7,8,9,10,25,26,27,28,48,49,52,53,60,61,62,63,64,65,66,67,68]),(8,[1,2,3,6,7,8,9,10,25,26,27,28,39,48,49,52,53,60,61,62,63,64,65,66,67,68]),(9,[1,2,3,6,7,8,10,25,26,27,28,48,49,52,53,60,61,62,63,64,65,66,67,68]),(10,[1,2,3,6,7,8,25,26,27,28,48,49,52,53,54,60,61,62,63,64,65,66,67,68]),(11,[1,2,3,6,7,8,11,25,26,27,28,48,49,52,53,60,61,62,63,64,65,66,67,68]),(12,[1,2,3,6,7,8,11,25,26,27,28,48,49,52,53,60,61,62,63,64,65,66,67,68,69]),(13,[1,2,3,6,7,8,25,26,27,28,48,49,52,53,60,61,62,63,64,65,66,67,68]),(14,[1,2,3,6,7,8,25,26,27,28,48,49,52,53,60,61,62,63,64,65,66,67,68]),(15,[6,7])] }
abbrev Qzo:Type:=Int→Int→Int→Int→Int→Qkl→Qkl→Qlw→Int→Int→Qkl→Qmq→Option Qu8
def Zjl (b:Qmq) (L1:Qzo) (d g a h i:Int) (j k:Qkl) (l:Qlw) (m e:Int) (f:Qkl) (c:(ByteArray × Bool × Unit) × Unit):Option Qu8:=
 bif Nat.ble (b.length+1) 1073741824 then
  L1 d g (wJ (a+1)) h i j k l m e (f++[(a,c.1.1)]) (b++[(a,a)])
 else none
def Z59 (b:Qmq) (L1:Qzo) (c f a g h:Int) (i j:Qkl) (k:Qlw) (l d:Int) (e:Qkl):Option Qu8:=
 bif Nat.ble (b.length+1) 1073741824 then
  L1 c f (wJ (a+1)) g h i j k l d e (b++[(a,a)])
 else none
def Qwu (L1:Qzo) (d e b h i:Int) (f j:Qkl) (k:Qlw) (l g:Int) (c:Qkl) (a:Qmq):Option Qu8:=
 bif decide (b≤e) then
  bif decide (wJ (b - d)<8) then
   Option.bind (Zmk f b) fun m=>
   bif m.1.2.1 then
    bif Nat.ble (c.length+1) 1073741824 then
     bif m.1.2.1 then
      L1 d e (wJ (b+1)) h i f j k l g (c++[(b,m.1.1)]) a
     else
     bif decide (b<1) then
      L1 d e (wJ (b+1)) h i f j k l g (c++[(b,m.1.1)]) a
     else
     bif decide (b>1000000) then
      L1 d e (wJ (b+1)) h i f j k l g (c++[(b,m.1.1)]) a
     else
     bif decide ((a.length:Int)>0) then
      bif ix (wJ ((a.length:Int) - 1)) (a.length:Int) then
       bif ix (wJ ((a.length:Int) - 1)) (a.length:Int) then
        bif ((List.getD a ((wJ ((a.length:Int) - 1)).toNat) (0,0)).2)==(wJ (b - 1)) then
         bif ix (wJ ((a.length:Int) - 1)) (a.length:Int) then
          bif ix (wJ ((a.length:Int) - 1)) (a.length:Int) then
           L1 d e (wJ (b+1)) h i f j k l g (c++[(b,m.1.1)]) (List.set a ((wJ ((a.length:Int) - 1)).toNat) ((List.getD a ((wJ ((a.length:Int) - 1)).toNat) (0,0)).1,b))
          else none
         else none
        else
         Zjl a L1 d e b h i f j k l g c m
       else none
      else none
     else
      Zjl a L1 d e b h i f j k l g c m
    else none
   else
   bif m.1.2.1 then
    L1 d e (wJ (b+1)) h i f j k l g c a
   else
   bif decide (b<1) then
    L1 d e (wJ (b+1)) h i f j k l g c a
   else
   bif decide (b>1000000) then
    L1 d e (wJ (b+1)) h i f j k l g c a
   else
   bif decide ((a.length:Int)>0) then
    bif ix (wJ ((a.length:Int) - 1)) (a.length:Int) then
     bif ix (wJ ((a.length:Int) - 1)) (a.length:Int) then
      bif ((List.getD a ((wJ ((a.length:Int) - 1)).toNat) (0,0)).2)==(wJ (b - 1)) then
       bif ix (wJ ((a.length:Int) - 1)) (a.length:Int) then
        bif ix (wJ ((a.length:Int) - 1)) (a.length:Int) then
         L1 d e (wJ (b+1)) h i f j k l g c (List.set a ((wJ ((a.length:Int) - 1)).toNat) ((List.getD a ((wJ ((a.length:Int) - 1)).toNat) (0,0)).1,b))
        else none
       else none
      else
       Z59 a L1 d e b h i f j k l g c
     else none
    else none
   else
    Z59 a L1 d e b h i f j k l g c
  else
   some ((c,a,()),())
 else
  some ((c,a,()),())
def Z86 (L1:Qzo) (a:Qwt) (c b:Int):Option Qu8:=
 bif decide (a.1<1) then
  some (([],[],()),())
 else
  L1 c (if wJ (a.1 - 1)<b then wJ (a.1 - 1) else b) c a.1 a.2.1 a.2.2.1 (g3 a) (g4 a) (g5 a) (h6 a) [] []
def Qv5 (n:Nat):Nat→Qzo:=iter (fun _ _ _ _ _ _ _ _ _ _ _ _=>none) fun L=>Qwu L
def Z55 (n m:Nat) (a e f g h:Int) (i j:Qkl) (k:Qlw) (l b:Int) (c:Qkl) (d:Qmq):Option Qu8:=
 Qjr Ztq tab (fiB [.val t36,.val t2,.val t2] Zhn) n [.val t36,.val t2,.val t2] [⟨t32,[true],none⟩,⟨Ztc,[true],none⟩] Tryz.f99 [1,1,1,0,1,0] [] [1,2,3,6,7,8] m
 ⟨[(1,Vp t2 a),(2,Vp t2 e),(3,V1 (.ptr (3,0) 0)),(6,V1 (.ref (888888,6))),(7,V1 (.ref (888888,7))),(8,Vp t2 f)],[((3,0),Ob.box 37 [LV.pure t2 g,LV.pure t2 h,LV.pure t32 i,LV.pure t32 j,LV.pure t33 k,LV.pure t2 l,LV.pure t2 b]),((888888,6),Ob.row 59 t58 c),((888888,7),Ob.row 100 t34 d)]⟩
theorem Zgg (n:Nat):∀ m,Z55 n m=Qv5 n m
 | 0=>rfl
 | m+1=>by rw [show Z55 n (m+1)=Qwu (Z55 n m) from by kernel_rfl,Zgg n m];rfl
def Zl3 (n:Nat) (a:Qwt) (c b:Int):Option Qu8:=Z86 (Qv5 n n) a c b
def Zjy (a:Qwt) (c b:Int):Option Qu8:=Zl3 1099511627776 a c b
def Zl0:Ent:=⟨[.val t36,.val t2,.val t2],[⟨t32,[true],none⟩,⟨Ztc,[true],none⟩],fun x=>Zjy x.1 x.2.1 x.2.2.1⟩
theorem Zmp:GD 99 Zl0:=fnl Zhn (fun n x=>Zl3 n x.1 x.2.1 x.2.2.1) (Qk1 Zrw Qk2) Tryz.func99 fun n x=>Eq.trans (b:=Z86 (Z55 n n) x.1 x.2.1 x.2.2.1) (by kernel_rfl) (by rw [Zgg n n];rfl)
abbrev Qqy:Type:=(Qpc × Unit) × Unit
def Zi4:Ctx:=[(58,Z7m),(98,Znl),(99,Zl0)]
def Z94:Fi:={ keep:=[],vty:=[(4,48)],vals:=[],live:=[(0,[2,3,4,25,26,27,28,29]),(1,[2,3,4,5,6,25,26,27,28,29]),(2,[2,3,4,30]),(3,[4]),(4,[2,3,4,7,8]),(5,[2,3,4,8,41,42,43]),(6,[2,3,4,8,41,42,43,44]),(7,[2,3,4,8,10,41,42,43]),(8,[2,3,4,8,41,42,43]),(9,[2,3,4,8,41,42,43]),(10,[2,3,4,59,60,61]),(11,[2,3,4,59,60,61,62]),(12,[2,3,4,12,59,60,61]),(13,[2,3,4,59,60,61]),(14,[2,3,4,59,60,61]),(15,[4])] }
abbrev Z8x:Type:=Int→Int→Bool→Int→ByteArray→Int→Int→Int→Int→Int→Int→List Int→Int→Int→Int→Int→Int→Qkv→Int→Int→Qkl→Qkl→Qlw→Int→Int→Int→Int→Int→Int→Int→Int→Int→List Int→Int→Int→ByteArray→Qpc→Qmq→Qkl→Option Qqy
abbrev Z90:Type:=Int→Int→Bool→Int→ByteArray→Int→Int→Int→Int→Int→Int→List Int→Int→Int→Int→Int→Int→Qkv→Int→Int→Qkl→Qkl→Qlw→Int→Int→Int→Int→Int→Int→Int→Int→Int→List Int→Int→Int→ByteArray→Qpc→Qmq→Option Qqy
def Qvb (L1:Z8x) (L2:Z90) (E a:Int) (y:Bool) (z:Int) (A:ByteArray) (B C c d e f:Int) (g:List Int) (h i j k l:Int) (m:Qkv) (n o:Int) (p q:Qkl) (r:Qlw) (s t u D v F G H I:Int) (J:List Int) (K L:Int) (M:ByteArray) (w:Qpc) (x:Qmq) (b:Qkl):Option Qqy:=
 bif decide (a<E) then
  bif ix a (b.length:Int) then
   bif ix a (b.length:Int) then
    Option.bind (Qtr (y,z,A,(B,C,c,d,e,f,g,h,i,j,k,l,m),(n,o,p,q,r,s,t),u) 7 v ((List.getD b a.toNat (0,zB)).1) 0 ((List.getD b a.toNat (0,zB)).2)) fun N=>
    bif Nat.ble (w.length+1) 1073741824 then
     L1 E (wJ (a+1)) y z A B C c d e f g h i j k l m n o p q r s t u D v F G H I J K L M (w++[N.1.1]) x b
    else none
   else none
  else none
 else
  L2 (x.length:Int) 0 y z A B C c d e f g h i j k l m n o p q r s t u D v F G H I J K L M w x
def Qva (L2:Z90) (d a:Int) (e:Bool) (f:Int) (g:ByteArray) (h i j k l m:Int) (n:List Int) (o p q r s:Int) (t:Qkv) (u v:Int) (w x:Qkl) (y:Qlw) (z A B E C F G H I:Int) (J:List Int) (K L:Int) (M:ByteArray) (c:Qpc) (b:Qmq):Option Qqy:=
 bif decide (a<d) then
  bif ix a (b.length:Int) then
   bif ix a (b.length:Int) then
    Option.bind (Qtr (e,f,g,(h,i,j,k,l,m,n,o,p,q,r,s,t),(u,v,w,x,y,z,A),B) 9 C ((List.getD b a.toNat (0,0)).1) ((List.getD b a.toNat (0,0)).2) zB) fun D=>
    bif Nat.ble (c.length+1) 1073741824 then
     L2 d (wJ (a+1)) e f g h i j k l m n o p q r s t u v w x y z A B E C F G H I J K L M (c++[D.1.1]) b
    else none
   else none
  else none
 else
  some ((c,()),())
def Z58 (L1:Z8x) (a:Qy9) (b:Qvh):Option Qqy:=
 Option.bind (Z3d (h12 (g3 a)) b.2.1) fun d=>
 bif !d.1.2.1 then
  some (([],()),())
 else
 bif d.1.1.2.1 != (g3 b) then
  some (([],()),())
 else
  Option.bind (Zjy (g4 a) (g7 b) (g8 b)) fun c=>
  L1 (c.1.1.length:Int) 0 a.1 a.2.1 a.2.2.1 (g3 a).1 (g3 a).2.1 (g3 a).2.2.1 (g3 (g3 a)) (g4 (g3 a)) (g5 (g3 a)) (g6 (g3 a)) (g7 (g3 a)) (g8 (g3 a)) (g9 (g3 a)) (g10 (g3 a)) (g11 (g3 a)) (h12 (g3 a)) (g4 a).1 (g4 a).2.1 (g4 a).2.2.1 (g3 (g4 a)) (g4 (g4 a)) (g5 (g4 a)) (h6 (g4 a)) (h5 a) b.1 b.2.1 b.2.2.1 (g3 b) (g4 b) (g5 b) (g6 b) (g7 b) (g8 b) (h9 b) [] c.1.2.1 c.1.1
def Qt0 (n:Nat):Nat→Z90:=iter (fun _ _ _ _ _ _ _ _ _ _ _ _ _ _ _ _ _ _ _ _ _ _ _ _ _ _ _ _ _ _ _ _ _ _ _ _ _ _=>none) fun L=>Qva L
def Qvc (n:Nat):Nat→Z8x:=iter (fun _ _ _ _ _ _ _ _ _ _ _ _ _ _ _ _ _ _ _ _ _ _ _ _ _ _ _ _ _ _ _ _ _ _ _ _ _ _ _=>none) fun L=>Qvb L (Qt0 n n)
def Z2m (n m:Nat) (w H:Int) (K:Bool) (L:Int) (M:ByteArray) (N O a b c d:Int) (e:List Int) (f g h i j:Int) (k:Qkv) (l o:Int) (p q:Qkl) (r:Qlw) (s t u v x y z A B:Int) (C:List Int) (D E:Int) (F:ByteArray) (G:Qpc) (I:Qmq) (J:Qkl):Option Qqy:=
 Qjr Zi4 tab (fiB [.val t38,.val t45] Z94) n [.val t38,.val t45] [⟨t48,[true],none⟩] Tryz.f47 [1,1,1,1,0,1,0] [] [2,3,4,8,41,42,43] m
 ⟨[(2,V1 (.ptr (2,0) 0)),(3,V1 (.ptr (3,0) 0)),(4,V1 (.ref (888888,4))),(8,V1 (.ref (888888,8))),(41,V1 (.ref (888888,41))),(42,Vp t2 w),(43,Vp t2 H)],[((2,0),Ob.box 39 [LV.pure t4 K,LV.pure t2 L,LV.pure t9 M,LV.pure t2 N,LV.pure t2 O,LV.pure t2 a,LV.pure t2 b,LV.pure t2 c,LV.pure t2 d,LV.pure t28 e,LV.pure t2 f,LV.pure t2 g,LV.pure t2 h,LV.pure t2 i,LV.pure t2 j,LV.pure t29 k,LV.pure t2 l,LV.pure t2 o,LV.pure t32 p,LV.pure t32 q,LV.pure t33 r,LV.pure t2 s,LV.pure t2 t,LV.pure t2 u]),((3,0),Ob.box 46 [LV.pure t2 v,LV.pure t2 x,LV.pure t2 y,LV.pure t2 z,LV.pure t2 A,LV.pure t2 B,LV.pure t28 C,LV.pure t2 D,LV.pure t2 E,LV.pure t9 F]),((888888,4),Ob.row 46 t45 G),((888888,8),Ob.row 100 t34 I),((888888,41),Ob.row 59 t58 J)]⟩
def Z2n (n m:Nat) (a b:Int) (c:Bool) (d:Int) (e:ByteArray) (f g h i j k:Int) (l:List Int) (o p q r s:Int) (t:Qkv) (u v:Int) (w x:Qkl) (y:Qlw) (z A B C D E F G H:Int) (I:List Int) (J K:Int) (L:ByteArray) (M:Qpc) (N:Qmq):Option Qqy:=
 Qjr Zi4 tab (fiB [.val t38,.val t45] Z94) n [.val t38,.val t45] [⟨t48,[true],none⟩] Tryz.f47 [1,1,1,1,1,0,1,0] [] [2,3,4,59,60,61] m
 ⟨[(2,V1 (.ptr (2,0) 0)),(3,V1 (.ptr (3,0) 0)),(4,V1 (.ref (888888,4))),(59,V1 (.ref (888888,59))),(60,Vp t2 a),(61,Vp t2 b)],[((2,0),Ob.box 39 [LV.pure t4 c,LV.pure t2 d,LV.pure t9 e,LV.pure t2 f,LV.pure t2 g,LV.pure t2 h,LV.pure t2 i,LV.pure t2 j,LV.pure t2 k,LV.pure t28 l,LV.pure t2 o,LV.pure t2 p,LV.pure t2 q,LV.pure t2 r,LV.pure t2 s,LV.pure t29 t,LV.pure t2 u,LV.pure t2 v,LV.pure t32 w,LV.pure t32 x,LV.pure t33 y,LV.pure t2 z,LV.pure t2 A,LV.pure t2 B]),((3,0),Ob.box 46 [LV.pure t2 C,LV.pure t2 D,LV.pure t2 E,LV.pure t2 F,LV.pure t2 G,LV.pure t2 H,LV.pure t28 I,LV.pure t2 J,LV.pure t2 K,LV.pure t9 L]),((888888,4),Ob.row 46 t45 M),((888888,59),Ob.row 100 t34 N)]⟩
theorem Zcz (n:Nat):∀ m,Z2n n m=Qt0 n m
 | 0=>rfl
 | m+1=>by rw [show Z2n n (m+1)=Qva (Z2n n m) from by kernel_rfl,Zcz n m];rfl
theorem Ze3 (n:Nat):∀ m,Z2m n m=Qvc n m
 | 0=>rfl
 | m+1=>by rw [show Z2m n (m+1)=Qvb (Z2m n m) (Z2n n n) from by kernel_rfl,Zcz n n,Ze3 n m];rfl
def Zjh (n:Nat) (b:Qy9) (a:Qvh):Option Qqy:=Z58 (Qvc n n) b a
def Zb0 (b:Qy9) (a:Qvh):Option Qqy:=Zjh 1099511627776 b a
def Zr4:Ent:=⟨[.val t38,.val t45],[⟨t48,[true],none⟩],fun x=>Zb0 x.1 x.2.1⟩
theorem Zm1:GD 47 Zr4:=fnl Z94 (fun n x=>Zjh n x.1 x.2.1) (Qk1 Z72 (Qk1 Z2o (Qk1 Zmp Qk2))) Tryz.func47 fun n x=>Eq.trans (b:=Z58 (Z2m n n) x.1 x.2.1) (by kernel_rfl) (by rw [Ze3 n n];rfl)
def Qx2 (c:Qwt) (b:Int):Option ((Qwt × Unit) × Unit):=
 Option.bind (Qpf c) fun a=>
 bif decide (a.1.1.1>0) then
  bif decide (b≤1000000) then
   some (((u1 a.1.1 (if b>a.1.1.2.1 then b else a.1.1.2.1)),()),())
  else
   some ((a.1.1,()),())
 else
  some ((a.1.1,()),())
def Zsm:Ent:=⟨[.val t36,.val t2],[⟨t36,[false,false,true,true,true,false,false],none⟩],fun x=>Qx2 x.1 x.2.1⟩
theorem Z09:GD 100 Zsm:=fnk 1 (fo [[1,2,4,11,12],[1,2,4,11,12],[1,2,4,13],[2,4],[4]]) (Qk1 Qvf Qk2) Tryz.func100
def Zeq (b:Qwt) (a:Int):Option ((Qwt × Unit) × Unit):=
 bif decide (b.1>0) then
  Option.bind (Qx2 b (wJ (a - 1))) fun d=>
  some ((d.1.1,()),())
 else
  Option.bind (Qpf b) fun c=>
  bif decide (a ≥ 1) then
   bif decide (a≤1000000) then
    some (((a,c.1.1.2),()),())
   else
    some ((c.1.1,()),())
  else
   some ((c.1.1,()),())
def Zse:Ent:=⟨[.val t36,.val t2],[⟨t36,[false,false,true,true,true,false,false],none⟩],fun x=>Zeq x.1 x.2.1⟩
theorem Zo3:GD 101 Zse:=fnk 1 (fo [[1,2,4,17,18],[1,2,4,7,17,18],[4],[1,2,4,17,18],[1,2,4,19],[2,4],[4]]) (Qk1 Z09 (Qk1 Qvf Qk2)) Tryz.func101
def Zh6 (c:Zgs) (b:Int):Option ((Int × Unit) × Unit):=
 Option.bind (Qtm c.1 b) fun a=>
 some ((a.1.1,()),())
def Zrx:Ent:=⟨[.val t58,.val t2],[⟨t2,[false],none⟩],fun x=>Zh6 x.1 x.2.1⟩
theorem Zm6:GD 191 Zrx:=fnk 1 (fo [[1,2],[4]]) (Qk1 Qxp Qk2) Tryz.func191
def Z54:Ctx:=[(192,Qji)]
def Z3f:Fi:={ keep:=[],vty:=[],vals:=[],live:=[(0,[0,1,2]),(1,[0,1,2]),(2,[0,1,2,7]),(3,[0,1,2,7,16]),(4,[6]),(5,[0,1,2,7,8]),(6,[0,1,2,7,8,22]),(7,[6]),(8,[0,1,2,7,8,31]),(9,[0,1,2,7,9]),(10,[0,1,7,9]),(11,[9]),(12,[6]),(13,[0,1,2,7,8]),(14,[0,1,2,7,8,68]),(15,[0,1,2]),(16,[0]),(17,[6]),(18,[0,1,7]),(19,[0]),(20,[6])] }
def Z4m (c:Nat) (b:Qkl) (a:Int) (d:Qkl):Option ((Qkl × Unit) × Unit):=Qep ((0,zB):Zgs) c b a d
theorem Zb5 (c:Nat) (b:Qkl) (a:Int) (d:Qkl):Qdr Z54 tab { Z3f with cap:=c } 1 [.ownc 59 t58,.val t2,.own 59 t58] [⟨t32,[true],none⟩] Tryz.f192 (b,a,d,())=Z4m c b a d:=by kernel_rfl
theorem Zbr (c:Nat) (b:Qkl) (a:Int) (d:Qkl):Z4m c b a d=Qep ((0,zB):Zgs) c b a d:=by kernel_rfl
def Z08 (b:Qkl) (a:Int) (c:Qkl):Option ((Qkl × Unit) × Unit):=Qf0 b a c
def Zf9:Ent:=⟨[.ownc 59 t58,.val t2,.own 59 t58],[⟨t32,[true],none⟩],fun x=>Z08 x.1 x.2.1 x.2.2.1⟩
theorem Zar:Q4t tab.ty Tryz.prog 192 Zf9:=by
  refine Qha (Γ:=Z54) (fi:=Z3f) (n:=1) follows (Qk1 (Qk0 Tryz.func192 (by kernel_rfl) (by kernel_rfl)) Qk2) Zfn Tryz.func192 (by kernel_rfl) (by kernel_rfl) (fun c x r hc h=>?_)
  obtain ⟨b,a,d,_u⟩:=x
  exact (Zb5 c b a d).trans ((Zbr c b a d).trans (Qio ((0,zB):Zgs) c b a d r hc h))
def Zqs (c:Qkl) (d:Int) (a:Zgs):Option ((Qkl × Bool × Unit) × Unit):=
 Option.bind (Qkr c) fun b=>
 Option.bind (Qlb c a.1 (fun x=>(Zh6 x.1 x.2.1).bind fun r=>some (r.1.1,()))) fun e=>
 bif e.1.2.1 then
  some ((b.1.1,false,()),())
 else
 bif decide (a.1<d) then
  some ((b.1.1,false,()),())
 else
 bif decide (wJ (a.1 - d) ≥ 8) then
  some ((b.1.1,false,()),())
 else
  Option.bind (Z08 b.1.1 e.1.1 [a]) fun f=>
  some ((f.1.1,true,()),())
def Zxs:Ent:=⟨[.val t32,.val t2,.val t58],[⟨t32,[true],none⟩,⟨t4,[false],none⟩],fun x=>Zqs x.1 x.2.1 x.2.2.1⟩
theorem Zsz:GD 160 Zxs:=fnk 1 (fr [[0,1,5,22,0,25,28,0,32],[0,1,5,8,22,0,25,28,0,32],[1,5,8,9,10,22,0,25,28,0,32],[5,8,9,33],[6,7],[6,7]]) (Qk1 Qnc (Qk1 Qoo (Qk1 Zm6 (Qk1 Zar Qk2)))) Tryz.func160
def Zi0 (a:Qwt):Option ((Qwt × Unit) × Unit):=
 Option.bind (Qkr a.2.2.1) fun b=>
 Option.bind (Qkr (g3 a)) fun c=>
 Option.bind (Qlf (g4 a)) fun d=>
 some (((u4 (u3 (u2 a b.1.1) c.1.1) d.1.1),()),())
def Zqj:Ent:=⟨[.val t36],[⟨t36,[false,false,true,true,true,false,false],none⟩],fun x=>Zi0 x.1⟩
theorem Ziu:GD 163 Zqj:=fnk 1 (fo [[1,2],[1,2],[2]]) (Qk1 Qnc (Qk1 Qmj Qk2)) Tryz.func163
def Zej (a:Qkl):Option ((Int × Unit) × Unit):=
 bif (a.length:Int)==0 then
  some ((0,()),())
 else
 bif decide (0<(a.length:Int)) then
  some (((List.getD a 0 (0,zB)).1,()),())
 else none
def Zu2:Ent:=⟨[.val t32],[⟨t2,[false],none⟩],fun x=>Zej x.1⟩
theorem Zgd:GD 162 Zu2:=fnk 1 (fo [[0],[0,5],[2],[2]]) Qk2 Tryz.func162
def Zbf (b:Qkl) (c:Int):Option ((Qkl × Zgs × Bool × Unit) × Unit):=
 Option.bind (Qkr b) fun a=>
 Option.bind (Zej b) fun d=>
 bif d.1.1 != c then
  some ((a.1.1,(0,zB),false,()),())
 else
 bif (b.length:Int)==0 then
  some ((a.1.1,(0,zB),false,()),())
 else
 bif decide (1≤(a.1.1.length:Int))&&decide ((a.1.1.length:Int)≤(a.1.1.length:Int)) then
  bif decide (0<(b.length:Int)) then
   some ((List.drop 1 (List.take ((a.1.1.length:Int).toNat) a.1.1),(List.getD b 0 (0,zB)),true,()),())
  else none
 else none
def Zq8:Ent:=⟨[.val t32,.val t2],[⟨t32,[false],none⟩,⟨t58,[false,false],none⟩,⟨t4,[false],none⟩],fun x=>Zbf x.1 x.2.1⟩
theorem Zqy:GD 195 Zq8:=fnk 1 (fr [[0,1,5,14,0,16],[0,1,4,5,14,0,16],[0,4,5,17],[4,5,6],[4,5,6]]) (Qk1 Qnc (Qk1 Zgd Qk2)) Tryz.func195
def Zle:Ctx:=[]
def Zje:Fi:={ keep:=[],vty:=[],vals:=[],live:=[(0,[0]),(1,[0])] }
def Zts (x:PDs []):Option (RDs [⟨t34,[false,false],none⟩] × ODs []):=Qdr Zle tab Zje 1099511627776 [] [⟨t34,[false,false],none⟩] Tryz.f167 x
def Qtx  : Option (((Int × Int) × Unit) × Unit):=Zts (())
def Zd4:Ent:=⟨[],[⟨t34,[false,false],none⟩],fun x=>Qtx⟩
theorem Zdi:Q4t tab.ty Tryz.prog 167 Zd4:=by
  refine Qjn (Γ:=Zle) (fi:=Zje) (n:=1099511627776) follows Qk2 Zfn Tryz.func167 (by kernel_rfl) (by kernel_rfl) (fun x r h=>?_)
  exact h
abbrev Qua:Type:=(Qwt × Qkl × Unit) × Unit
def Zoi:Ctx:=[(121,Zqa),(122,Zpt),(167,Zd4),(195,Zq8)]
def Zdx:Fi:={ keep:=[],vty:=[(4,32)],vals:=[],live:=[(0,[1,2]),(1,[1,2,4]),(2,[1,2,4,5,6,7]),(3,[1,2,4,5,6,18]),(4,[1,2,4,6]),(5,[1,2,4,6]),(6,[1,2,4]),(7,[1,2,4,44]),(8,[1,2,4]),(9,[2,3])] }
abbrev Zlp:Type:=Int→Int→Qkl→Qkl→Qlw→Int→Int→Int→Int→Int→Int→Qkl→Qkl→Qlw→Qkl→Option Qua
abbrev Zeb:Type:=Int→Int→Qkl→Int→Int→Qkl→Qlw→Int→Int→Int→Int→Qkl→Qkl→Qlw→Qkl→Option Qua
def Zlb (L2:Zeb) (c d:Int) (e f:Qkl) (g:Qlw) (h i r s m n:Int) (o p:Qkl) (q:Qlw) (b:Qkl):Option Qua:=
 Option.bind (Zbf f c) fun a=>
 bif !a.1.2.2.1 then
  bif decide ((b.length:Int)>0) then
   Option.bind (Qtx) fun j=>
   some (((c,d,e,f,g,j.1.1),b,()),())
  else
   some (((c,d,e,f,g,h,i),b,()),())
 else
  Option.bind (Zer g a.1.2.1.1 a.1.2.1.2) fun k=>
  Option.bind (Zep e a.1.2.1) fun l=>
  bif Nat.ble (b.length+1) 1073741824 then
   L2 (wJ (c+1)) d a.1.1 h i l.1.1 k.1.1 r s m n o p q (b++[a.1.2.1])
  else none
def Z3k (L2:Zeb) (c d:Int) (e:Qkl) (h i:Int) (f:Qkl) (g:Qlw) (m n o p:Int) (q r:Qkl) (s:Qlw) (b:Qkl):Option Qua:=
 Option.bind (Zbf e c) fun a=>
 bif !a.1.2.2.1 then
  bif decide ((b.length:Int)>0) then
   Option.bind (Qtx) fun j=>
   some (((c,d,f,e,g,j.1.1),b,()),())
  else
   some (((c,d,f,e,g,h,i),b,()),())
 else
  Option.bind (Zer g a.1.2.1.1 a.1.2.1.2) fun k=>
  Option.bind (Zep f a.1.2.1) fun l=>
  bif Nat.ble (b.length+1) 1073741824 then
   L2 (wJ (c+1)) d a.1.1 h i l.1.1 k.1.1 m n o p q r s (b++[a.1.2.1])
  else none
def Zmu (L1:Zlp) (a:Qwt):Option Qua:=
 L1 a.1 a.2.1 a.2.2.1 (g3 a) (g4 a) (g5 a) (h6 a) 0 0 0 0 [] [] [] []
def Qu5 (n:Nat):Nat→Zeb:=iter (fun _ _ _ _ _ _ _ _ _ _ _ _ _ _ _=>none) fun L=>Z3k L
def Z79 (n:Nat):Nat→Zlp:=Qjd (fun _ _ _ _ _ _ _ _ _ _ _ _ _ _ _=>none) fun m L=>Zlb (Qu5 n m)
def Zct (n m:Nat) (a h:Int) (i j:Qkl) (k:Qlw) (l o p q b c:Int) (d e:Qkl) (f:Qlw) (g:Qkl):Option Qua:=
 Qjr Zoi tab (fiB [.val t36] Zdx) n [.val t36] [⟨t36,(nF 7),none⟩,⟨t32,[true],none⟩] Tryz.f166 [1,1,0,0] [] [1,2,4] m
 ⟨[(1,V1 (.ptr (1,0) 0)),(2,V1 (.ptr (2,0) 0)),(4,V1 (.ref (888888,4)))],[((1,0),Ob.box 37 [LV.pure t2 a,LV.pure t2 h,LV.pure t32 i,LV.pure t32 j,LV.pure t33 k,LV.pure t2 l,LV.pure t2 o]),((2,0),Ob.box 37 [LV.pure t2 p,LV.pure t2 q,LV.ref (2,3),LV.ref (2,4),LV.ref (2,5),LV.pure t2 b,LV.pure t2 c]),((2,3),Ob.row 59 t58 d),((2,4),Ob.row 59 t58 e),((2,5),Ob.row 55 t54 f),((888888,4),Ob.row 59 t58 g)]⟩
def Z7v (n m:Nat) (a b:Int) (c:Qkl) (d e:Int) (f:Qkl) (g:Qlw) (h i j k:Int) (l o:Qkl) (p:Qlw) (q:Qkl):Option Qua:=
 Qjr Zoi tab (fiB [.val t36] Zdx) n [.val t36] [⟨t36,(nF 7),none⟩,⟨t32,[true],none⟩] Tryz.f166 [1,1,0,0] [] [1,2,4] m
 ⟨[(1,V1 (.ptr (1,0) 0)),(2,V1 (.ptr (2,0) 0)),(4,V1 (.ref (888888,4)))],[((1,0),Ob.box 37 [LV.pure t2 a,LV.pure t2 b,LV.ref (1,3),LV.pure t32 c,LV.ref (1,5),LV.pure t2 d,LV.pure t2 e]),((1,3),Ob.row 59 t58 f),((1,5),Ob.row 55 t54 g),((2,0),Ob.box 37 [LV.pure t2 h,LV.pure t2 i,LV.ref (2,3),LV.ref (2,4),LV.ref (2,5),LV.pure t2 j,LV.pure t2 k]),((2,3),Ob.row 59 t58 l),((2,4),Ob.row 59 t58 o),((2,5),Ob.row 55 t54 p),((888888,4),Ob.row 59 t58 q)]⟩
theorem Zjo (n:Nat):∀ m,Z7v n m=Qu5 n m
 | 0=>rfl
 | m+1=>by rw [show Z7v n (m+1)=Z3k (Z7v n m) from by kernel_rfl,Zjo n m];rfl
theorem Zrv (n:Nat):∀ m,Zct n m=Z79 n m
 | 0=>rfl
 | m+1=>by rw [show Zct n (m+1)=Zlb (Z7v n m) from by kernel_rfl,Zjo n m];rfl
def Zoo (n:Nat) (a:Qwt):Option Qua:=Zmu (Z79 n n) a
def Z6v (a:Qwt):Option Qua:=Zoo 1099511627776 a
def Zmt:Ent:=⟨[.val t36],[⟨t36,(nF 7),none⟩,⟨t32,[true],none⟩],fun x=>Z6v x.1⟩
theorem Zgj:GD 166 Zmt:=fnl Zdx (fun n x=>Zoo n x.1) (Qk1 Zhi (Qk1 Zhq (Qk1 Zdi (Qk1 Zqy Qk2)))) Tryz.func166 fun n x=>Eq.trans (b:=Zmu (Zct n n) x.1) (by kernel_rfl) (by rw [Zrv n n];rfl)
def Zel (b:Qwt):Option ((Qwt × Qkl × Unit) × Unit):=
 Option.bind (Zi0 b) fun c=>
 Option.bind (Z6v c.1.1) fun a=>
 some ((a.1.1,a.1.2.1,()),())
def Zwp:Ent:=⟨[.val t36],[⟨t36,(nF 7),none⟩,⟨t32,[true],none⟩],fun x=>Zel x.1⟩
theorem Zbb:GD 119 Zwp:=fnk 1 (fo [[1,2],[2,3]]) (Qk1 Ziu (Qk1 Zgj Qk2)) Tryz.func119
def Zey (a:Qwt) (b:Zgs):Option ((Qwt × Unit) × Unit):=
 bif a.1==0 then
  Option.bind (Qpf a) fun d=>
  some ((d.1.1,()),())
 else
 bif decide (b.1<1) then
  Option.bind (Qpf a) fun e=>
  some ((e.1.1,()),())
 else
 bif decide (b.1>1000000) then
  Option.bind (Qpf a) fun f=>
  some ((f.1.1,()),())
 else
 bif decide ((b.2.size:Int)>12) then
  Option.bind (Qpf a) fun g=>
  some ((g.1.1,()),())
 else
  Option.bind (Qx2 a b.1) fun c=>
  Option.bind (Zqs (g3 c.1.1) c.1.1.1 b) fun h=>
  Option.bind (Zel (u3 c.1.1 h.1.1)) fun i=>
  some ((i.1.1,()),())
def Zs7:Ent:=⟨[.val t36,.val t58],[⟨t36,(nF 7),none⟩],fun x=>Zey x.1 x.2.1⟩
theorem Zn8:GD 102 Zs7:=fnk 1 (fr [[2,3,4,9,0,11,14,0,16,19,0,22],[2,3,4,23],[4],[2,3,4],[2,4],[2,4],[4]]) (Qk1 Z09 (Qk1 Qvf (Qk1 Zbb (Qk1 Zsz Qk2)))) Tryz.func102
abbrev Qml:Type:=(Int × Unit) × Unit
def Zbj:Ctx:=[]
def Qzk:Fi:=fo [[0,1],[0,1,7,8],[0,1,7,8,9],[0,1,5,7,8],[0,1,5,7,8,16],[4],[0,1,7,8],[4]]
abbrev Qu0:Type:=Qkl→(Zgs × Unit→Option (Bool × Unit))→Int→Int→Option Qml
def Qm5 (L1:Qu0) (b:Qkl) (c:(Zgs × Unit→Option (Bool × Unit))) (d a:Int):Option Qml:=
 bif decide (a<d) then
  bif ix a (b.length:Int) then
   Option.bind (c ((List.getD b a.toNat (0,zB)),())) fun e=>
   bif e.1 then
    some ((a,()),())
   else
    L1 b c d (wJ (a+1))
  else none
 else
  some (((-1),()),())
def Z03 (L1:Qu0) (a:Qkl) (b:(Zgs × Unit→Option (Bool × Unit))):Option Qml:=
 L1 a b (a.length:Int) 0
def Qle (n:Nat):Nat→Qu0:=iter (fun _ _ _ _=>none) fun L=>Qm5 L
def Qpn (n m:Nat) (a:Qkl) (b:(Zgs × Unit→Option (Bool × Unit))) (c d:Int):Option Qml:=
 Qjr Zbj tab (fiB [.val t32,.fn [t58] [t4]] Qzk) n [.val t32,.fn [t58] [t4]] [⟨t2,[false],none⟩] Tryz.f193 [1,0,1,0] [] [0,1,7,8] m
 ⟨[(0,Vp t32 a),(1,V1 (.clo [t58] [t4] b)),(7,Vp t2 c),(8,Vp t2 d)],[]⟩
theorem Qy1 (n:Nat):∀ m,Qpn n m=Qle n m
 | 0=>rfl
 | m+1=>by rw [show Qpn n (m+1)=Qm5 (Qpn n m) from by kernel_rfl,Qy1 n m];rfl
def Qzu (n:Nat) (b:Qkl) (a:(Zgs × Unit→Option (Bool × Unit))):Option Qml:=Z03 (Qle n n) b a
def Qw3 (b:Qkl) (a:(Zgs × Unit→Option (Bool × Unit))):Option Qml:=Qzu 1099511627776 b a
def Zb4:Ent:=⟨[.val t32,.fn [t58] [t4]],[⟨t2,[false],none⟩],fun x=>Qw3 x.1 x.2.1⟩
theorem Z75:GD 193 Zb4:=fnl Qzk (fun n x=>Qzu n x.1 x.2.1) Qk2 Tryz.func193 fun n x=>Eq.trans (b:=Z03 (Qpn n n) x.1 x.2.1) (by kernel_rfl) (by rw [Qy1 n n];rfl)
def Zi7 (a:Zgs) (b:Qwt):Option ((Bool × Unit) × Unit):=
 some ((decide (a.1 ≥ b.1),()),())
def Znm:Ent:=⟨[.val t58,.rbox t36],[⟨t4,[false],none⟩],fun x=>Zi7 x.1 x.2.1⟩
theorem Zjg:GD 194 Znm:=fnk 1 (fo [[1,2],[3]]) Qk2 Tryz.func194
def Zd7 (a:Qwt) (c:Int):Option ((Int × Bool × Unit) × Unit):=
 Option.bind (Qw3 (g3 a) (fun x=>(Zi7 x.1 a).bind fun r=>some (r.1.1,()))) fun b=>
 bif decide (b.1.1<0) then
  some ((c,false,()),())
 else
 bif ix b.1.1 ((g3 a).length:Int) then
  bif decide ((List.getD (g3 a) b.1.1.toNat (0,zB)).1>c) then
   some ((c,false,()),())
  else
  bif ix b.1.1 ((g3 a).length:Int) then
   some ((wJ (((List.getD (g3 a) b.1.1.toNat (0,zB)).1) - 1),true,()),())
  else none
 else none
def Znw:Ent:=⟨[.val t36,.val t2],[⟨t2,[false],none⟩,⟨t4,[false],none⟩],fun x=>Zd7 x.1 x.2.1⟩
theorem Zpg:GD 164 Znw:=fnk 1 (fr [[1,2,14,0,21],[1,2,6,14,0,21],[1,2,6,22],[4,5],[4,5]]) (Qk1 Z75 (Qk1 Zjg Qk2)) Tryz.func164
def Ziz (c:Qlw) (d b e:Int):Option ((Qlw × Unit) × Unit):=
 Option.bind (Qlf c) fun a=>
 bif Nat.ble (a.1.1.length+1) 1073741824 then
  some ((a.1.1++[(2,d,b,zB,e)],()),())
 else none
def Zpp:Ent:=⟨[.val t33,.val t2,.val t2,.val t2],[⟨t33,[true],none⟩],fun x=>Ziz x.1 x.2.1 x.2.2.1 x.2.2.2.1⟩
theorem Zr6:GD 165 Zpp:=fnk 1 (fo [[0,1,2,3],[8]]) (Qk1 Qmj Qk2) Tryz.func165
abbrev Qt1:Type:=(Qwt × Qmq × Unit) × Unit
def Znx:Ctx:=[(163,Zqj),(164,Znw),(165,Zpp),(166,Zmt),(167,Zd4)]
def Zea:Fi:={ keep:=[],vty:=[(8,146)],vals:=[],live:=[(0,[1,2,3,6,20,21]),(1,[1,2,3,6,20,21]),(2,[1,2,3,6,22]),(3,[6,7]),(4,[1,2,3,6,8]),(5,[1,2,3,6,8,9]),(6,[1,2,3,6,8,9,29]),(7,[1,2,3,6,8,9,10,11]),(8,[1,2,3,6,8,9,10,11,39]),(9,[1,2,3,6,8,9,10,11]),(10,[1,2,3,6,8,9,10,11]),(11,[1,2,3,6,8,9,11]),(12,[1,2,3,6,8,9,59]),(13,[1,2,3,6,8,9,12,13]),(14,[1,2,3,6,8,9,13]),(15,[1,2,3,6,8,9,68]),(16,[3,6,8,72]),(17,[3,6,8]),(18,[6,7])] }
abbrev Zli:Type:=Int→Int→Int→Int→Int→Int→Int→Qkl→Qkl→Qlw→Int→Int→Int→Int→Qkl→Qkl→Qlw→Qmq→Option Qt1
abbrev Zcq:Type:=Int→Int→Int→Int→Int→Qkl→Qkl→Qlw→Int→Int→Int→Int→Int→Int→Qkl→Qkl→Qlw→Qmq→Option Qt1
def Z2t (a h e:Int) (f b:Qkl) (c:Qlw) (d:Qmq) (i j:Int):Option Qt1:=
 bif a != h then
  Option.bind (Qtx) fun g=>
  some (((a,e,f,b,c,g.1.1),d,()),())
 else
  some (((a,e,f,b,c,i,j),d,()),())
def Zlt (L2:Zcq) (m o g b h j k:Int) (i f:Qkl) (l:Qlw) (p q r s:Int) (t u:Qkl) (v:Qlw) (e:Qmq):Option Qt1:=
 bif decide (b≤m) then
  Option.bind (Zd7 (b,h,i,f,l,j,k) m) fun a=>
  bif decide (a.1.1 ≥ b) then
   Option.bind (Ziz l b a.1.1 o) fun n=>
   bif Nat.ble (e.length+1) 1073741824 then
    bif !a.1.2.1 then
     bif (wJ (a.1.1+1)) != g then
      Option.bind (Qtx) fun w=>
      some (((wJ (a.1.1+1),h,i,f,n.1.1,w.1.1),e++[(b,a.1.1)],()),())
     else
      some (((wJ (a.1.1+1),h,i,f,n.1.1,j,k),e++[(b,a.1.1)],()),())
    else
     Option.bind (Z6v (wJ (a.1.1+1),h,i,f,n.1.1,j,k)) fun c=>
     bif (c.1.2.1.length:Int)==0 then
      bif c.1.1.1 != g then
       Option.bind (Qtx) fun x=>
       some (((e5 c.1.1 x.1.1),e++[(b,a.1.1)],()),())
      else
       some ((c.1.1,e++[(b,a.1.1)],()),())
     else
      L2 m o g c.1.1.1 c.1.1.2.1 c.1.1.2.2.1 (g3 c.1.1) (g4 c.1.1) (g5 c.1.1) (h6 c.1.1) p q r s t u v (e++[(b,a.1.1)])
   else none
  else
  bif !a.1.2.1 then
   Z2t b g h i f l e j k
  else
   Option.bind (Z6v (b,h,i,f,l,j,k)) fun d=>
   bif (d.1.2.1.length:Int)==0 then
    bif d.1.1.1 != g then
     Option.bind (Qtx) fun y=>
     some (((e5 d.1.1 y.1.1),e,()),())
    else
     some ((d.1.1,e,()),())
   else
    L2 m o g d.1.1.1 d.1.1.2.1 d.1.1.2.2.1 (g3 d.1.1) (g4 d.1.1) (g5 d.1.1) (h6 d.1.1) p q r s t u v e
 else
  Z2t b g h i f l e j k
def Qs9 (L2:Zcq) (m o f b g:Int) (h i:Qkl) (l:Qlw) (j k p q r s:Int) (t u:Qkl) (v:Qlw) (e:Qmq):Option Qt1:=
 bif decide (b≤m) then
  Option.bind (Zd7 (b,g,h,i,l,j,k) m) fun a=>
  bif decide (a.1.1 ≥ b) then
   Option.bind (Ziz l b a.1.1 o) fun n=>
   bif Nat.ble (e.length+1) 1073741824 then
    bif !a.1.2.1 then
     bif (wJ (a.1.1+1)) != f then
      Option.bind (Qtx) fun w=>
      some (((wJ (a.1.1+1),g,h,i,n.1.1,w.1.1),e++[(b,a.1.1)],()),())
     else
      some (((wJ (a.1.1+1),g,h,i,n.1.1,j,k),e++[(b,a.1.1)],()),())
    else
     Option.bind (Z6v (wJ (a.1.1+1),g,h,i,n.1.1,j,k)) fun c=>
     bif (c.1.2.1.length:Int)==0 then
      bif c.1.1.1 != f then
       Option.bind (Qtx) fun x=>
       some (((e5 c.1.1 x.1.1),e++[(b,a.1.1)],()),())
      else
       some ((c.1.1,e++[(b,a.1.1)],()),())
     else
      L2 m o f c.1.1.1 c.1.1.2.1 c.1.1.2.2.1 (g3 c.1.1) (g4 c.1.1) (g5 c.1.1) (h6 c.1.1) p q r s t u v (e++[(b,a.1.1)])
   else none
  else
  bif !a.1.2.1 then
   Z2t b f g h i l e j k
  else
   Option.bind (Z6v (b,g,h,i,l,j,k)) fun d=>
   bif (d.1.2.1.length:Int)==0 then
    bif d.1.1.1 != f then
     Option.bind (Qtx) fun y=>
     some (((e5 d.1.1 y.1.1),e,()),())
    else
     some ((d.1.1,e,()),())
   else
    L2 m o f d.1.1.1 d.1.1.2.1 d.1.1.2.2.1 (g3 d.1.1) (g4 d.1.1) (g5 d.1.1) (h6 d.1.1) p q r s t u v e
 else
  Z2t b f g h i l e j k
def Zbl (L1:Zli) (c:Qwt) (b d:Int):Option Qt1:=
 Option.bind (Zi0 c) fun a=>
 bif decide (a.1.1.1<1) then
  some ((a.1.1,[],()),())
 else
 bif decide (b>1000000) then
  some ((a.1.1,[],()),())
 else
  L1 b d a.1.1.1 a.1.1.1 a.1.1.2.1 (g5 a.1.1) (h6 a.1.1) a.1.1.2.2.1 (g3 a.1.1) (g4 a.1.1) 0 0 0 0 [] [] [] []
def Qzd (n:Nat):Nat→Zcq:=iter (fun _ _ _ _ _ _ _ _ _ _ _ _ _ _ _ _ _ _=>none) fun L=>Qs9 L
def Z34 (n:Nat):Nat→Zli:=Qjd (fun _ _ _ _ _ _ _ _ _ _ _ _ _ _ _ _ _ _=>none) fun m L=>Zlt (Qzd n m)
def Zdz (n m:Nat) (k l o p q r s:Int) (t a:Qkl) (b:Qlw) (c d e f:Int) (g h:Qkl) (i:Qlw) (j:Qmq):Option Qt1:=
 Qjr Znx tab (fiB [.val t36,.val t2,.val t2] Zea) n [.val t36,.val t2,.val t2] [⟨t36,(nF 7),none⟩,⟨Ztc,[true],none⟩] Tryz.f118 [1,1,1,1,1,0,0] [] [1,2,3,6,8,9] m
 ⟨[(1,Vp t2 k),(2,Vp t2 l),(3,V1 (.ptr (3,0) 0)),(6,V1 (.ptr (6,0) 0)),(8,V1 (.ref (888888,8))),(9,Vp t2 o)],[((3,0),Ob.box 37 [LV.pure t2 p,LV.pure t2 q,LV.ref (3,3),LV.ref (3,4),LV.ref (3,5),LV.pure t2 r,LV.pure t2 s]),((3,3),Ob.row 59 t58 t),((3,4),Ob.row 59 t58 a),((3,5),Ob.row 55 t54 b),((6,0),Ob.box 37 [LV.pure t2 c,LV.pure t2 d,LV.ref (6,3),LV.ref (6,4),LV.ref (6,5),LV.pure t2 e,LV.pure t2 f]),((6,3),Ob.row 59 t58 g),((6,4),Ob.row 59 t58 h),((6,5),Ob.row 55 t54 i),((888888,8),Ob.row 100 t34 j)]⟩
def Z84 (n m:Nat) (a b c d e:Int) (f g:Qkl) (h:Qlw) (i j k l o p:Int) (q r:Qkl) (s:Qlw) (t:Qmq):Option Qt1:=
 Qjr Znx tab (fiB [.val t36,.val t2,.val t2] Zea) n [.val t36,.val t2,.val t2] [⟨t36,(nF 7),none⟩,⟨Ztc,[true],none⟩] Tryz.f118 [1,1,1,1,1,0,0] [] [1,2,3,6,8,9] m
 ⟨[(1,Vp t2 a),(2,Vp t2 b),(3,V1 (.ptr (3,0) 0)),(6,V1 (.ptr (6,0) 0)),(8,V1 (.ref (888888,8))),(9,Vp t2 c)],[((3,0),Ob.box 37 [LV.pure t2 d,LV.pure t2 e,LV.pure t32 f,LV.pure t32 g,LV.pure t33 h,LV.pure t2 i,LV.pure t2 j]),((6,0),Ob.box 37 [LV.pure t2 k,LV.pure t2 l,LV.ref (6,3),LV.ref (6,4),LV.ref (6,5),LV.pure t2 o,LV.pure t2 p]),((6,3),Ob.row 59 t58 q),((6,4),Ob.row 59 t58 r),((6,5),Ob.row 55 t54 s),((888888,8),Ob.row 100 t34 t)]⟩
theorem Zjk (n:Nat):∀ m,Z84 n m=Qzd n m
 | 0=>rfl
 | m+1=>by rw [show Z84 n (m+1)=Qs9 (Z84 n m) from by kernel_rfl,Zjk n m];rfl
theorem Zrr (n:Nat):∀ m,Zdz n m=Z34 n m
 | 0=>rfl
 | m+1=>by rw [show Zdz n (m+1)=Zlt (Z84 n m) from by kernel_rfl,Zjk n m];rfl
def Zo0 (n:Nat) (a:Qwt) (b c:Int):Option Qt1:=Zbl (Z34 n n) a b c
def Zib (a:Qwt) (b c:Int):Option Qt1:=Zo0 1099511627776 a b c
def Zu5:Ent:=⟨[.val t36,.val t2,.val t2],[⟨t36,(nF 7),none⟩,⟨Ztc,[true],none⟩],fun x=>Zib x.1 x.2.1 x.2.2.1⟩
theorem Zgf:GD 118 Zu5:=fnl Zea (fun n x=>Zo0 n x.1 x.2.1 x.2.2.1) (Qk1 Ziu (Qk1 Zpg (Qk1 Zr6 (Qk1 Zgj (Qk1 Zdi Qk2))))) Tryz.func118 fun n x=>Eq.trans (b:=Zbl (Zdz n n) x.1 x.2.1 x.2.2.1) (by kernel_rfl) (by rw [Zrr n n];rfl)
def Zew (a:Qwt) (c b:Int):Option ((Qwt × Unit) × Unit):=
 bif a.1==0 then
  Option.bind (Qpf a) fun e=>
  some ((e.1.1,()),())
 else
 bif decide (c<1) then
  Option.bind (Qpf a) fun f=>
  some ((f.1.1,()),())
 else
 bif decide (c>b) then
  Option.bind (Qpf a) fun g=>
  some ((g.1.1,()),())
 else
 bif decide (b>1000000) then
  Option.bind (Qpf a) fun h=>
  some ((h.1.1,()),())
 else
 bif decide (a.1<c) then
  Option.bind (Qx2 a b) fun i=>
  some ((i.1.1,()),())
 else
 bif decide (a.1>b) then
  Option.bind (Qx2 a b) fun j=>
  some ((j.1.1,()),())
 else
  Option.bind (Zib a b 1) fun d=>
  Option.bind (Zel (u1 d.1.1 (if b>d.1.1.2.1 then b else d.1.1.2.1))) fun k=>
  some ((k.1.1,()),())
def Ztf:Ent:=⟨[.val t36,.val t2,.val t2],[⟨t36,(nF 7),none⟩],fun x=>Zew x.1 x.2.1 x.2.2.1⟩
theorem Zn7:GD 103 Ztf:=fnk 1 (fr [[1,2,3,6,11,12,15,0,17,20,21,30,0,33],[1,2,3,6,22,30,0,33],[6],[2,3,6,34],[6],[2,3,6],[3,6],[3,6],[6]]) (Qk1 Z09 (Qk1 Qvf (Qk1 Zgf (Qk1 Zbb Qk2)))) Tryz.func103
def Z5e (a:Qvh) (b:Qy9):Option ((Qwt × Unit) × Unit):=
 bif a.1==7 then
  Option.bind (Zey (g4 b) ((g7 a),(h9 a))) fun c=>
  some ((c.1.1,()),())
 else
 bif a.1==9 then
  Option.bind (Zew (g4 b) (g7 a) (g8 a)) fun d=>
  some ((d.1.1,()),())
 else
  some (((g4 b),()),())
def Z5d (a:Qvh) (d:Int) (b:Qy9):Option ((Qwt × Unit) × Unit):=
 bif a.1==5 then
  bif d==a.2.1 then
   Option.bind (Qx2 (g4 b) (g8 a)) fun c=>
   some ((c.1.1,()),())
  else
   Z5e a b
 else
  Z5e a b
def Z5l (b:Qy9) (a:Qvh) (c:Int):Option ((Qwt × Unit) × Unit):=
 bif a.2.1==(g3 (g3 b)) then
  bif !((g3 a)==(g4 (g3 b))) then
   some (((g4 b),()),())
  else
  bif a.1==2 then
   bif c != a.2.1 then
    Option.bind (Zeq (g4 b) (g7 a)) fun d=>
    Option.bind (Qx2 d.1.1 (wJ ((g7 a) - 1))) fun e=>
    some ((e.1.1,()),())
   else
    Z5d a c b
  else
   Z5d a c b
 else
  some (((g4 b),()),())
def Zt3:Ent:=⟨[.val t38,.val t45,.val t2],[⟨t36,(nF 7),none⟩],fun x=>Z5l x.1 x.2.1 x.2.2.1⟩
theorem Zng:GD 48 Zt3:=fnk 1 (fr [[2,3,4,6,15,0,20,32,0,35,51,0,54],[2,3,4,6,7,32,0,35,51,0,54],[2,3,4,6,22,32,0,35,51,0,54],[6],[2,3,4,6,27,51,0,54],[6],[3,4,6,46],[6],[3,4,6,61],[6],[3,4,6,73],[6],[6]]) (Qk1 Z09 (Qk1 Zo3 (Qk1 Zn8 (Qk1 Zn7 Qk2)))) Tryz.func48
def Qx7 (c:Qy9) (j:List Int):Option ((Qy9 × Qpc × Unit) × Unit):=
 Option.bind (Qrj c) fun a=>
 bif !c.1 then
  some ((a.1.1,[],()),())
 else
  Option.bind (Zjf j) fun d=>
  bif !d.1.2.1 then
   some (((e5 a.1.1 (if 1073741824<wJ ((h5 a.1.1)+1) then 1073741824 else wJ ((h5 a.1.1)+1))),[],()),())
  else
  bif d.1.1.2.2.1 != (g3 c).1 then
   some (((e5 a.1.1 (if 1073741824<wJ ((h5 a.1.1)+1) then 1073741824 else wJ ((h5 a.1.1)+1))),[],()),())
  else
   Option.bind (Zif (g3 c) d.1.1 (if 1>(g4 c).1 then 1 else (g4 c).1)) fun b=>
   bif d.1.1.1==8 then
    Option.bind (Zb0 (u3 a.1.1 b.1.1) d.1.1) fun e=>
    bif Nat.ble (b.1.2.1.length+e.1.1.length) 1073741824 then
     Option.bind (Z5l (u3 a.1.1 b.1.1) d.1.1 (g3 (g3 c))) fun g=>
     Option.bind (Qrj (u4 (u3 a.1.1 b.1.1) g.1.1)) fun k=>
     Option.bind (Qy4 (u4 (u3 a.1.1 b.1.1) g.1.1) (g4 c)) fun h=>
     bif Nat.ble ((b.1.2.1++e.1.1).length+h.1.1.length) 1073741824 then
      some ((k.1.1,(b.1.2.1++e.1.1)++h.1.1,()),())
     else none
    else none
   else
    Option.bind (Z5l (u3 a.1.1 b.1.1) d.1.1 (g3 (g3 c))) fun i=>
    Option.bind (Qrj (u4 (u3 a.1.1 b.1.1) i.1.1)) fun l=>
    Option.bind (Qy4 (u4 (u3 a.1.1 b.1.1) i.1.1) (g4 c)) fun f=>
    bif Nat.ble (b.1.2.1.length+f.1.1.length) 1073741824 then
     some ((l.1.1,b.1.2.1++f.1.1,()),())
    else none
def Zdw:Ent:=⟨[.val t38,.val t25],[⟨t38,(nF 24),none⟩,⟨t48,[true],none⟩],fun x=>Qx7 x.1 x.2.1⟩
theorem Zcu:GD 18 Zdw:=fnk 1 (fr [[1,2,4,25,0,30],[1,2,4,6,25,0,30],[1,2,4,6,15,25,0,30],[4,5],[2,4,6,7,8,25,0,30],[2,4,6,7,31],[4,6],[4,5],[2,4,6,7,9,10],[2,4,6,7,10],[2,4,6,7,10,53],[2,4,6,7,10],[2,4,6,10],[4,5]]) (Qk1 Qve (Qk1 Zqt (Qk1 Zoy (Qk1 Zm1 (Qk1 Zng (Qk1 Z93 Qk2)))))) Tryz.func18
def Za1 (a:Qy9):Option ((Qy9 × Unit) × Unit):=
 bif !a.1 then
  Option.bind (Qrj a) fun b=>
  some ((b.1.1,()),())
 else
  some (((u4 (u3 (u2 (u0 a false) zB) X0p) (0,0,[],[],[],0,0)),()),())
def Zdn:Ent:=⟨[.val t38],[⟨t38,(nF 24),none⟩],fun x=>Za1 x.1⟩
theorem Z6p:GD 33 Zdn:=fnk 1 (fo [[1,2],[1,2,5],[2],[2]]) (Qk1 Qve Qk2) Tryz.func33
def Z5p:Ctx:=[(13,Zoc),(18,Zdw),(23,Zk5),(33,Zdn)]
def Z4s:Fi:={ keep:=[],vty:=[(6,48),(9,48),(54,48),(71,48)],vals:=[],live:=[(0,[38,39,42,43,44,47,48,51,54,55,56,59,60,61,62,63,66,67,68,71,72,73,76,77,78,81,82,83]),(1,[1,2,38,39,42,43,44,47,48,51,54,55,56,59,60,61,62,63,66,67,68,71,72,73,76,77,78,81,82,83]),(2,[1,2,4,38,39,42,43,44,47,48,51,54,55,56,59,60,61,62,63,66,67,68,71,72,73,76,77,78,81,82,83]),(3,[1,2,4,5,6,7,38,39,42,43,44,47,48,51,54,55,56,59,60,61,62,63,66,67,68,71,72,73,76,77,78,81,82,83]),(4,[1,2,4,5,6,7,8,9,38,39,42,43,44,47,48,51,54,55,56,59,60,61,62,63,66,67,68,71,72,73,76,77,78,81,82,83]),(5,[1,2,4,5,6,7,8,9,10,38,39,42,43,44,47,48,51,54,55,56,59,60,61,62,63,66,67,68,71,72,73,76,77,78,81,82,83]),(6,[0])] }
def Zgu (x:PDs []):Option (RDs [⟨t4,[false],none⟩] × ODs []):=Qdr Z5p tab Z4s 1099511627776 [] [⟨t4,[false],none⟩] Tryz.f10 x
def Z2e  : Option ((Bool × Unit) × Unit):=Zgu (())
def Z6z:Ent:=⟨[],[⟨t4,[false],none⟩],fun x=>Z2e⟩
theorem Zc6:Q4t tab.ty Tryz.prog 10 Z6z:=by
  refine Qjn (Γ:=Z5p) (fi:=Z4s) (n:=1099511627776) follows (Qk1 Zox (Qk1 Zcu (Qk1 Zhz (Qk1 Z6p Qk2)))) Zfn Tryz.func10 (by kernel_rfl) (by kernel_rfl) (fun x r h=>?_)
  exact h
def Qwa (a:List Int):Option ((Z4n × Unit) × Unit):=
 some (((a,0),()),())
def Z9e:Ent:=⟨[.val t25],[⟨t74,[false,false],some 75⟩],fun x=>Qwa x.1⟩
theorem Z4e:GD 11 Z9e:=fnk 1 (fo [[0],[2]]) Qk2 Tryz.func11
def Qk8 (a:Z4n) (b:Int):Option ((Int × Unit) × (Z4n × Unit)):=
 bif decide (a.2 ≥ (a.1.length:Int)) then
  some ((0,()),(a,()))
 else
 bif decide (b<1) then
  some ((0,()),(a,()))
 else
 bif decide (0≤wJ ((wJ (a.2+1)) - 1))&&decide (wJ ((wJ (a.2+1)) - 1)<(a.1.length:Int)) then
  bif !(b==0) then
   some ((Int.tmod (wJ (List.getD a.1 ((wJ ((wJ (a.2+1)) - 1)).toNat) 0)) b,()),((a.1,wJ (a.2+1)),()))
  else none
 else none
def Qop:Ent:=⟨[.box 75 t74 [false,false],.val t2],[⟨t2,[false],none⟩],fun x=>Qk8 x.1 x.2.1⟩
theorem Ql6:GD 26 Qop:=fnk 1 (fo [[0,1,16,17],[0,1,18],[0,4],[0,1],[0,4]]) Qk2 Tryz.func26
def Z70:Ctx:=[]
def Z4f:Fi:={ keep:=[],vty:=[],vals:=[],live:=[(0,[0,19,20,28,29,37,38,56,57,58,59,73,74,77,78,79,80,81,82]),(1,[0,4,19,20,28,29,37,38,56,57,58,59,73,74,77,78,79,80,81,82]),(2,[0,4,19,20,28,29,37,38,56,57,58,59,73,74,77,78,79,80,81,82]),(3,[2,3]),(4,[0,4,11,19,20,28,29,37,38,56,57,58,59,73,74,77,78,79,80,81,82]),(5,[2,3]),(6,[0,4,15,28,29,37,38,56,57,58,59,73,74,77,78,79,80,81,82]),(7,[0,4,5,6,56,57,58,59,73,74,77,78,79,80,81,82]),(8,[0,4,24,37,38,56,57,58,59,73,74,77,78,79,80,81,82]),(9,[0,4,5,6,56,57,58,59,73,74,77,78,79,80,81,82]),(10,[0,4,33,56,57,58,59,73,74,77,78,79,80,81,82]),(11,[0,4,5,6,56,57,58,59,73,74,77,78,79,80,81,82]),(12,[0,4,5,6,45,56,57,58,59,73,74,77,78,79,80,81,82]),(13,[2,3]),(14,[0,4,5,6,7,56,57,58,59,73,74,77,78,79,80,81,82]),(15,[0,4,5,6,7,48,56,57,58,59,73,74,77,78,79,80,81,82]),(16,[0,4,5,6,7,56,57,58,59,73,74,77,78,79,80,81,82]),(17,[0,4,5,6,7,56,57,58,59,60,73,74,77,78,79,80,81,82]),(18,[2,3]),(19,[0,4,5,6,7,56,57,58,59,73,74,77,78,79,80,81,82]),(20,[4,5,83]),(21,[2,3]),(22,[2,3])] }
def Zh3 (x:PDs [.val t9]):Option (RDs [⟨t2,[false],none⟩,⟨t2,[false],none⟩] × ODs [.val t9]):=Qdr Z70 tab Z4f 1099511627776 [.val t9] [⟨t2,[false],none⟩,⟨t2,[false],none⟩] Tryz.f145 x
def Zke (x0:ByteArray):Option ((Int × Int × Unit) × Unit):=Zh3 (x0,())
def Z63:Ent:=⟨[.val t9],[⟨t2,[false],none⟩,⟨t2,[false],none⟩],fun x=>Zke x.1⟩
theorem Zc9:Q4t tab.ty Tryz.prog 145 Z63:=by
  refine Qjn (Γ:=Z70) (fi:=Z4f) (n:=1099511627776) follows Qk2 Zfn Tryz.func145 (by kernel_rfl) (by kernel_rfl) (fun x r h=>?_)
  obtain ⟨x0,_u⟩:=x
  exact h
def Z3y:Ctx:=[(145,Z63)]
def Z2x:Fi:={ keep:=[],vty:=[(2,28),(3,28),(14,28),(21,28)],vals:=[],live:=[(0,[0]),(1,[0,3]),(2,[0,3,8]),(3,[0,3,4,5]),(4,[0,3]),(5,[2])] }
def Zf1 (x:PDs [.val t9]):Option (RDs [⟨t28,[true],none⟩] × ODs [.val t9]):=Qdr Z3y tab Z2x 1099511627776 [.val t9] [⟨t28,[true],none⟩] Tryz.f80 x
def Z78 (x0:ByteArray):Option (((List Int) × Unit) × Unit):=Zf1 (x0,())
def Z4b:Ent:=⟨[.val t9],[⟨t28,[true],none⟩],fun x=>Z78 x.1⟩
theorem Zbc:Q4t tab.ty Tryz.prog 80 Z4b:=by
  refine Qjn (Γ:=Z3y) (fi:=Z2x) (n:=1099511627776) follows (Qk1 Zc9 Qk2) Zfn Tryz.func80 (by kernel_rfl) (by kernel_rfl) (fun x r h=>?_)
  obtain ⟨x0,_u⟩:=x
  exact h
abbrev Qr9:Type:=(Bool × Unit) × Unit
def Zjx:Ctx:=[(80,Z4b)]
def Z8b:Fi:=fr [[0,19,0,30,36,0,38],[3,19,0,30,36,0,38],[3,4,19,0,30,36,0,38],[3,4,10,19,0,30,36,0,38],[3,4,19,0,30,36,0,38],[3,4,19,0,31,36,0,38],[2],[2]]
abbrev Qzt:Type:=Int→List Int→Option Qr9
def Z7r (L1:Qzt) (b:Int) (a:List Int):Option Qr9:=
 bif decide (b<(a.length:Int)) then
  bif ix b (a.length:Int) then
   bif ix b (a.length:Int) then
    bif decide (List.getD a b.toNat 0<33) then
     some ((false,()),())
    else
    bif ix b (a.length:Int) then
     bif ix b (a.length:Int) then
      bif decide (List.getD a b.toNat 0 ≥ 127) then
       bif ix b (a.length:Int) then
        bif ix b (a.length:Int) then
         bif decide (List.getD a b.toNat 0≤159) then
          some ((false,()),())
         else
          L1 (wJ (b+1)) a
        else none
       else none
      else
       L1 (wJ (b+1)) a
     else none
    else none
   else none
  else none
 else
 bif decide ((a.length:Int) ≥ 1) then
  some ((decide ((a.length:Int)≤8),()),())
 else
  some ((false,()),())
def Z9q (L1:Qzt) (b:ByteArray):Option Qr9:=
 Option.bind (Z78 b) fun a=>
 L1 0 a.1.1
def Z7w (n:Nat):Nat→Qzt:=iter (fun _ _=>none) fun L=>Z7r L
def Qvy (n m:Nat) (a:Int) (b:List Int):Option Qr9:=
 Qjr Zjx tab (fiB [.val t9] Z8b) n [.val t9] [⟨t4,[false],none⟩] Tryz.f37 [1,1,0,1,0] [] [3,4] m
 ⟨[(3,V1 (.ref (888888,3))),(4,Vp t2 a)],[((888888,3),Ob.row 3 t2 b)]⟩
theorem Z6l (n:Nat):∀ m,Qvy n m=Z7w n m
 | 0=>rfl
 | m+1=>by rw [show Qvy n (m+1)=Z7r (Qvy n m) from by kernel_rfl,Z6l n m];rfl
def Z9h (n:Nat) (a:ByteArray):Option Qr9:=Z9q (Z7w n n) a
def Z6d (a:ByteArray):Option Qr9:=Z9h 1099511627776 a
def Zk4:Ent:=⟨[.val t9],[⟨t4,[false],none⟩],fun x=>Z6d x.1⟩
theorem Zfm:GD 37 Zk4:=fnl Z8b (fun n x=>Z9h n x.1) (Qk1 Zbc Qk2) Tryz.func37 fun n x=>Eq.trans (b:=Z9q (Qvy n n) x.1) (by kernel_rfl) (by rw [Z6l n n];rfl)
def Qwq (a d b c:Int):Option ((Qse × Unit) × Unit):=
 bif a==1 then
  some (((a,d,b,0,0,c,[1],0,b,0,0,0,[]),()),())
 else
  some (((a,d,b,0,0,c,[],0,0,0,0,0,[]),()),())
def Za5:Ent:=⟨[.val t2,.val t2,.val t2,.val t2],[⟨t30,(nF 6++[true,false,false,false,false,false,true]),none⟩],fun x=>Qwq x.1 x.2.1 x.2.2.1 x.2.2.2.1⟩
theorem Z44:GD 38 Za5:=fnk 1 (fo [[0,1,2,3,8],[0,2,8,9],[2,8,9,16],[8,9],[8]]) Qk2 Tryz.func38
def Qyb (a:Qy9) (b:Int) (c:ByteArray) (d:Int):Option ((Qy9 × Bool × Unit) × Unit):=
 bif a.1 then
  some ((a,false,()),())
 else
  Option.bind (Z6d c) fun e=>
  bif !e.1.1 then
   some ((a,false,()),())
  else
  bif decide (b<1) then
   some ((a,false,()),())
  else
  bif decide (b>8) then
   some ((a,false,()),())
  else
  bif decide (a.2.1 ≥ 1073741824) then
   some ((a,false,()),())
  else
   Option.bind (Qwq b (wJ (a.2.1+1)) 0 d) fun f=>
   some (((true,wJ (a.2.1+1),c,f.1.1,(0,0,[],[],[],0,0),0),true,()),())
def Zio:Ent:=⟨[.val t38,.val t2,.val t9,.val t2],[⟨t38,(nF 24),none⟩,⟨t4,[false],none⟩],fun x=>Qyb x.1 x.2.1 x.2.2.1 x.2.2.2.1⟩
theorem Ze9:GD 14 Zio:=fnk 1 (fr [[1,0,4,8,13,0,15,18,19,22,23,26,0,28],[1,0,4,8,29],[8,9],[8,9]]) (Qk1 Zfm (Qk1 Z44 Qk2)) Tryz.func14
def Qnw (a:Z4n):Option ((Bool × Unit) × (Z4n × Unit)):=
 some ((decide (a.2 ≥ (a.1.length:Int)),()),(a,()))
def Qqu:Ent:=⟨[.box 75 t74 [false,false]],[⟨t4,[false],none⟩],fun x=>Qnw x.1⟩
theorem Qs2:GD 25 Qqu:=fnk 1 (fo [[0],[0,2]]) Qk2 Tryz.func25
abbrev Qpo:Type:=(Qkv × Unit) × Unit
def Zji:Ctx:=[]
def Z5y:Fi:={ keep:=[],vty:=[(5,29)],vals:=[],live:=[(0,[0,1]),(1,[0,1,5]),(2,[0,1,5,6]),(3,[0,1,5,6,10]),(4,[0,1,5,6]),(5,[0,1,5,6,20]),(6,[0,1,5,6]),(7,[4])] }
abbrev Qyk:Type:=Qkv→Int→Int→Qkv→Option Qpo
def Qox (L1:Qyk) (a:Qkv) (d b:Int) (c:Qkv):Option Qpo:=
 bif decide (b<(a.length:Int)) then
  bif ix b (a.length:Int) then
   bif decide (wJ (d - (((List.getD a b.toNat (0,0,0)).2).2))≤20) then
    bif ix b (a.length:Int) then
     bif Nat.ble (c.length+1) 1073741824 then
      L1 a d (wJ (b+1)) (c++[(List.getD a b.toNat (0,0,0))])
     else none
    else none
   else
    L1 a d (wJ (b+1)) c
  else none
 else
  some ((c,()),())
def Z8j (L1:Qyk) (a:Qkv) (b:Int):Option Qpo:=
 L1 a b 0 []
def Qrd (n:Nat):Nat→Qyk:=iter (fun _ _ _ _=>none) fun L=>Qox L
def Qug (n m:Nat) (a:Qkv) (b c:Int) (d:Qkv):Option Qpo:=
 Qjr Zji tab (fiB [.val t29,.val t2] Z5y) n [.val t29,.val t2] [⟨t29,[true],none⟩] Tryz.f123 [1,1,0,1,0] [] [0,1,5,6] m
 ⟨[(0,Vp t29 a),(1,Vp t2 b),(5,V1 (.ref (888888,5))),(6,Vp t2 c)],[((888888,5),Ob.row 53 t52 d)]⟩
theorem Z52 (n:Nat):∀ m,Qug n m=Qrd n m
 | 0=>rfl
 | m+1=>by rw [show Qug n (m+1)=Qox (Qug n m) from by kernel_rfl,Z52 n m];rfl
def Z7e (n:Nat) (a:Qkv) (b:Int):Option Qpo:=Z8j (Qrd n n) a b
def Z3o (a:Qkv) (b:Int):Option Qpo:=Z7e 1099511627776 a b
def Z7a:Ent:=⟨[.val t29,.val t2],[⟨t29,[true],none⟩],fun x=>Z3o x.1 x.2.1⟩
theorem Zeh:GD 123 Z7a:=fnl Z5y (fun n x=>Z7e n x.1 x.2.1) Qk2 Tryz.func123 fun n x=>Eq.trans (b:=Z8j (Qug n n) x.1 x.2.1) (by kernel_rfl) (by rw [Z52 n n];rfl)
def Qlu (a:Qse):Option ((Bool × Unit) × Unit):=
 bif a.1==1 then
  some ((true,()),())
 else
 bif (g3 a) != 0 then
  some ((decide (wJ (a.2.2.1 - (g8 a))≤20),()),())
 else
  some ((false,()),())
def Z5q:Ent:=⟨[.val t30],[⟨t4,[false],none⟩],fun x=>Qlu x.1⟩
theorem Z1n:GD 124 Z5q:=fnk 1 (fr [[1,7,0,17],[2]]) Qk2 Tryz.func124
def Qlo (b:Qse) (a:Int):Option ((Qse × Unit) × Unit):=
 some (((u11 (u9 (u6 (u4 (u3 b 0) 0) []) 0) a),()),())
def Z9f:Ent:=⟨[.val t30,.val t2],[⟨t30,(nF 13),none⟩],fun x=>Qlo x.1 x.2.1⟩
theorem Z53:GD 125 Z9f:=fnk 1 (fo [[1,2,4],[2,4],[4]]) Qk2 Tryz.func125
def Qk9 (a:Qse) (b c:Int):Option ((Qvh × Unit) × Unit):=
 some (((b,a.1,c,a.2.1,0,0,[],0,0,zB),()),())
def Qq4:Ent:=⟨[.val t30,.val t2,.val t2],[⟨t45,(nF 6++[true,false,false,false]),none⟩],fun x=>Qk9 x.1 x.2.1 x.2.2.1⟩
theorem Qlh:GD 62 Qq4:=fnk 1 (fo [[1,2,3,6],[6]]) Qk2 Tryz.func62
def Qon (a:Qse) (b d:Int):Option ((Qvh × Unit) × Unit):=
 Option.bind (Qk9 a b d) fun c=>
 bif Nat.ble (0+(g6 a).length) 1073741824 then
  some (((u6 (u5 (u4 c.1.1 (g7 a)) (wJ (a.2.2.1 - (g8 a)))) ([]++(g6 a))),()),())
 else none
def Z7k:Ent:=⟨[.val t30,.val t2,.val t2],[⟨t45,(nF 6++[true,false,false,false]),none⟩],fun x=>Qon x.1 x.2.1 x.2.2.1⟩
theorem Z2r:GD 126 Z7k:=fnk 1 (fo [[1,2,3,6],[3,6,7],[6,7],[6]]) (Qk1 Qlh Qk2) Tryz.func126
abbrev Qki:Type:=(Qse × Qpc × Unit) × Unit
def Z8o:Ctx:=[(62,Qq4),(123,Z7a),(124,Z5q),(125,Z9f),(126,Z7k)]
def Qyo:Fi:={ keep:=[],vty:=[(5,48)],vals:=[],live:=[(0,[1,2,36,37,38,49,50,51,52,53,72,73,74,77,78,79,80,81,113,114]),(1,[1,2,36,37,38,49,50,51,52,53,72,73,74,77,78,79,80,81,113,114]),(2,[1,2,36,37,38,49,50,51,52,53,72,73,74,77,78,79,80,81,113,114]),(3,[1,2,4,36,37,38,49,50,51,52,53,72,73,74,77,78,79,80,81,113,114]),(4,[1,2,4,5,36,37,38,49,50,51,52,53,72,73,74,77,78,79,80,81,113,114]),(5,[1,2,4,5,23,36,37,38,49,50,51,52,53,72,73,74,77,78,79,80,81,113,114]),(6,[1,2,4,5,24,113,114]),(7,[1,2,4,5,113,114]),(8,[1,2,4,5,39,49,50,51,52,53,72,73,74,77,78,79,80,81,113,114]),(9,[1,2,4,5,49,50,51,52,53,72,73,74,77,78,79,80,81,113,114]),(10,[1,2,4,5,44,49,50,51,52,53,72,73,74,77,78,79,80,81,113,114]),(11,[1,2,4,5,54,72,73,74,77,78,79,80,81,113,114]),(12,[1,2,4,5,72,73,74,77,78,79,80,81,113,114]),(13,[1,2,4,5,62,72,73,74,77,78,79,80,81,113,114]),(14,[1,2,4,5,72,73,74,77,78,79,80,81,113,114]),(15,[1,2,4,5,82,113,114]),(16,[1,2,4,5,113,114]),(17,[1,2,4,5,113,114]),(18,[1,2,5,94,113,114]),(19,[2,3]),(20,[1,2,5,99,113,114]),(21,[1,2,5,113,114]),(22,[1,2,5,6,113,114]),(23,[1,2,5,6,113,114,115]),(24,[1,2,5,6,113,114]),(25,[1,2,5,6,113,114]),(26,[2,3])] }
abbrev Qkh:Type:=Int→Int→Int→Int→Int→Int→Int→List Int→Int→Int→Int→Int→Int→Qkv→Int→Int→Int→Int→Int→Int→Int→Int→Int→Int→Int→List Int→Qkv→Qpc→Option Qki
def Qrh (a:Qse) (b:(Qkv × Unit) × Unit) (L1:Qkh):Option Qki:=
 bif !((Int.tmod (wJ (a.2.2.1+1)) 2)==0) then
  some (((e12 (u2 a (wJ (a.2.2.1+1))) b.1.1),[],()),())
 else
 bif (g3 a) != 0 then
  Option.bind (Qk9 (e12 (u2 a (wJ (a.2.2.1+1))) b.1.1) 4 (g3 a)) fun c=>
  L1 0 a.1 a.2.1 (wJ (a.2.2.1+1)) (g3 a) (g4 a) (g5 a) (g6 a) (g7 a) (g8 a) (g9 a) (g10 a) (g11 a) b.1.1 0 0 0 0 0 0 0 0 0 0 0 [] [] [c.1.1]
 else
  L1 0 a.1 a.2.1 (wJ (a.2.2.1+1)) (g3 a) (g4 a) (g5 a) (g6 a) (g7 a) (g8 a) (g9 a) (g10 a) (g11 a) b.1.1 0 0 0 0 0 0 0 0 0 0 0 [] [] []
def Qyj (a:(Qse × Unit) × Unit) (c:Qse) (L2:Qkh):Option Qki:=
 Option.bind (Qk9 (u11 (u10 (u9 a.1.1 1) (wJ (a.1.1.2.2.1+3))) (wJ ((g11 a.1.1)+1))) 1 1) fun b=>
 bif !((Int.tmod (wJ (c.2.2.1+1)) 2)==0) then
  some (((u11 (u10 (u9 a.1.1 1) (wJ (a.1.1.2.2.1+3))) (wJ ((g11 a.1.1)+1))),[b.1.1],()),())
 else
 bif (g3 a.1.1) != 0 then
  Option.bind (Qk9 (u11 (u10 (u9 a.1.1 1) (wJ (a.1.1.2.2.1+3))) (wJ ((g11 a.1.1)+1))) 4 (g3 a.1.1)) fun d=>
  L2 0 a.1.1.1 a.1.1.2.1 a.1.1.2.2.1 (g3 a.1.1) (g4 a.1.1) (g5 a.1.1) (g6 a.1.1) (g7 a.1.1) (g8 a.1.1) 1 (wJ (a.1.1.2.2.1+3)) (wJ ((g11 a.1.1)+1)) (h12 a.1.1) 0 0 0 0 0 0 0 0 0 0 0 [] [] [b.1.1,d.1.1]
 else
  L2 0 a.1.1.1 a.1.1.2.1 a.1.1.2.2.1 (g3 a.1.1) (g4 a.1.1) (g5 a.1.1) (g6 a.1.1) (g7 a.1.1) (g8 a.1.1) 1 (wJ (a.1.1.2.2.1+3)) (wJ ((g11 a.1.1)+1)) (h12 a.1.1) 0 0 0 0 0 0 0 0 0 0 0 [] [] [b.1.1]
def Qri (a:(Qse × Unit) × Unit) (c:Qse) (L2:Qkh):Option Qki:=
 Option.bind (Qk9 (u10 (u9 a.1.1 1) (wJ (a.1.1.2.2.1+3))) 1 1) fun b=>
 bif !((Int.tmod (wJ (c.2.2.1+1)) 2)==0) then
  some (((u10 (u9 a.1.1 1) (wJ (a.1.1.2.2.1+3))),[b.1.1],()),())
 else
 bif (g3 a.1.1) != 0 then
  Option.bind (Qk9 (u10 (u9 a.1.1 1) (wJ (a.1.1.2.2.1+3))) 4 (g3 a.1.1)) fun d=>
  L2 0 a.1.1.1 a.1.1.2.1 a.1.1.2.2.1 (g3 a.1.1) (g4 a.1.1) (g5 a.1.1) (g6 a.1.1) (g7 a.1.1) (g8 a.1.1) 1 (wJ (a.1.1.2.2.1+3)) (g11 a.1.1) (h12 a.1.1) 0 0 0 0 0 0 0 0 0 0 0 [] [] [b.1.1,d.1.1]
 else
  L2 0 a.1.1.1 a.1.1.2.1 a.1.1.2.2.1 (g3 a.1.1) (g4 a.1.1) (g5 a.1.1) (g6 a.1.1) (g7 a.1.1) (g8 a.1.1) 1 (wJ (a.1.1.2.2.1+3)) (g11 a.1.1) (h12 a.1.1) 0 0 0 0 0 0 0 0 0 0 0 [] [] [b.1.1]
def Z6x (b:Qse) (a:(Qse × Unit) × Unit) (L2:Qkh):Option Qki:=
 bif !((Int.tmod (wJ (b.2.2.1+1)) 2)==0) then
  some ((a.1.1,[],()),())
 else
 bif (g3 a.1.1) != 0 then
  Option.bind (Qk9 a.1.1 4 (g3 a.1.1)) fun c=>
  L2 0 a.1.1.1 a.1.1.2.1 a.1.1.2.2.1 (g3 a.1.1) (g4 a.1.1) (g5 a.1.1) (g6 a.1.1) (g7 a.1.1) (g8 a.1.1) (g9 a.1.1) (g10 a.1.1) (g11 a.1.1) (h12 a.1.1) 0 0 0 0 0 0 0 0 0 0 0 [] [] [c.1.1]
 else
  L2 0 a.1.1.1 a.1.1.2.1 a.1.1.2.2.1 (g3 a.1.1) (g4 a.1.1) (g5 a.1.1) (g6 a.1.1) (g7 a.1.1) (g8 a.1.1) (g9 a.1.1) (g10 a.1.1) (g11 a.1.1) (h12 a.1.1) 0 0 0 0 0 0 0 0 0 0 0 [] [] []
def Qyn (a:(Qse × Unit) × Unit) (b:Qse) (L2:Qkh):Option Qki:=
 bif (g9 a.1.1)==0 then
  bif (g11 a.1.1)==0 then
   bif (g5 a.1.1) != 0 then
    bif (g5 a.1.1) != a.1.1.1 then
     Option.bind (Qk9 (u10 (u9 a.1.1 (g5 a.1.1)) (wJ (a.1.1.2.2.1+3))) 1 (g5 a.1.1)) fun c=>
     bif !((Int.tmod (wJ (b.2.2.1+1)) 2)==0) then
      some (((u10 (u9 a.1.1 (g5 a.1.1)) (wJ (a.1.1.2.2.1+3))),[c.1.1],()),())
     else
     bif (g3 a.1.1) != 0 then
      Option.bind (Qk9 (u10 (u9 a.1.1 (g5 a.1.1)) (wJ (a.1.1.2.2.1+3))) 4 (g3 a.1.1)) fun d=>
      L2 0 a.1.1.1 a.1.1.2.1 a.1.1.2.2.1 (g3 a.1.1) (g4 a.1.1) (g5 a.1.1) (g6 a.1.1) (g7 a.1.1) (g8 a.1.1) (g5 a.1.1) (wJ (a.1.1.2.2.1+3)) (g11 a.1.1) (h12 a.1.1) 0 0 0 0 0 0 0 0 0 0 0 [] [] [c.1.1,d.1.1]
     else
      L2 0 a.1.1.1 a.1.1.2.1 a.1.1.2.2.1 (g3 a.1.1) (g4 a.1.1) (g5 a.1.1) (g6 a.1.1) (g7 a.1.1) (g8 a.1.1) (g5 a.1.1) (wJ (a.1.1.2.2.1+3)) (g11 a.1.1) (h12 a.1.1) 0 0 0 0 0 0 0 0 0 0 0 [] [] [c.1.1]
    else
     Qri a b L2
   else
    Qri a b L2
  else
   Qri a b L2
 else
  Z6x b a L2
def Qre (a:Qse) (b:(Qkv × Unit) × Unit) (L1:Qkh):Option Qki:=
 Option.bind (Qk9 (e12 (u11 (u10 (u9 (u2 a (wJ (a.2.2.1+1))) 1) (wJ ((wJ (a.2.2.1+1))+3))) (wJ ((g11 a)+1))) b.1.1) 1 1) fun c=>
 bif !((Int.tmod (wJ (a.2.2.1+1)) 2)==0) then
  some (((e12 (u11 (u10 (u9 (u2 a (wJ (a.2.2.1+1))) 1) (wJ ((wJ (a.2.2.1+1))+3))) (wJ ((g11 a)+1))) b.1.1),[c.1.1],()),())
 else
 bif (g3 a) != 0 then
  Option.bind (Qk9 (e12 (u11 (u10 (u9 (u2 a (wJ (a.2.2.1+1))) 1) (wJ ((wJ (a.2.2.1+1))+3))) (wJ ((g11 a)+1))) b.1.1) 4 (g3 a)) fun d=>
  L1 0 a.1 a.2.1 (wJ (a.2.2.1+1)) (g3 a) (g4 a) (g5 a) (g6 a) (g7 a) (g8 a) 1 (wJ ((wJ (a.2.2.1+1))+3)) (wJ ((g11 a)+1)) b.1.1 0 0 0 0 0 0 0 0 0 0 0 [] [] [c.1.1,d.1.1]
 else
  L1 0 a.1 a.2.1 (wJ (a.2.2.1+1)) (g3 a) (g4 a) (g5 a) (g6 a) (g7 a) (g8 a) 1 (wJ ((wJ (a.2.2.1+1))+3)) (wJ ((g11 a)+1)) b.1.1 0 0 0 0 0 0 0 0 0 0 0 [] [] [c.1.1]
def Qrg (a:Qse) (b:(Qkv × Unit) × Unit) (L1:Qkh):Option Qki:=
 Option.bind (Qk9 (e12 (u10 (u9 (u2 a (wJ (a.2.2.1+1))) 1) (wJ ((wJ (a.2.2.1+1))+3))) b.1.1) 1 1) fun c=>
 bif !((Int.tmod (wJ (a.2.2.1+1)) 2)==0) then
  some (((e12 (u10 (u9 (u2 a (wJ (a.2.2.1+1))) 1) (wJ ((wJ (a.2.2.1+1))+3))) b.1.1),[c.1.1],()),())
 else
 bif (g3 a) != 0 then
  Option.bind (Qk9 (e12 (u10 (u9 (u2 a (wJ (a.2.2.1+1))) 1) (wJ ((wJ (a.2.2.1+1))+3))) b.1.1) 4 (g3 a)) fun d=>
  L1 0 a.1 a.2.1 (wJ (a.2.2.1+1)) (g3 a) (g4 a) (g5 a) (g6 a) (g7 a) (g8 a) 1 (wJ ((wJ (a.2.2.1+1))+3)) (g11 a) b.1.1 0 0 0 0 0 0 0 0 0 0 0 [] [] [c.1.1,d.1.1]
 else
  L1 0 a.1 a.2.1 (wJ (a.2.2.1+1)) (g3 a) (g4 a) (g5 a) (g6 a) (g7 a) (g8 a) 1 (wJ ((wJ (a.2.2.1+1))+3)) (g11 a) b.1.1 0 0 0 0 0 0 0 0 0 0 0 [] [] [c.1.1]
def Qv0 (a:Qse) (b:(Qkv × Unit) × Unit) (L1:Qkh):Option Qki:=
 bif (g9 a)==0 then
  bif (g11 a)==0 then
   bif (g5 a) != 0 then
    bif (g5 a) != a.1 then
     Option.bind (Qk9 (e12 (u10 (u9 (u2 a (wJ (a.2.2.1+1))) (g5 a)) (wJ ((wJ (a.2.2.1+1))+3))) b.1.1) 1 (g5 a)) fun c=>
     bif !((Int.tmod (wJ (a.2.2.1+1)) 2)==0) then
      some (((e12 (u10 (u9 (u2 a (wJ (a.2.2.1+1))) (g5 a)) (wJ ((wJ (a.2.2.1+1))+3))) b.1.1),[c.1.1],()),())
     else
     bif (g3 a) != 0 then
      Option.bind (Qk9 (e12 (u10 (u9 (u2 a (wJ (a.2.2.1+1))) (g5 a)) (wJ ((wJ (a.2.2.1+1))+3))) b.1.1) 4 (g3 a)) fun d=>
      L1 0 a.1 a.2.1 (wJ (a.2.2.1+1)) (g3 a) (g4 a) (g5 a) (g6 a) (g7 a) (g8 a) (g5 a) (wJ ((wJ (a.2.2.1+1))+3)) (g11 a) b.1.1 0 0 0 0 0 0 0 0 0 0 0 [] [] [c.1.1,d.1.1]
     else
      L1 0 a.1 a.2.1 (wJ (a.2.2.1+1)) (g3 a) (g4 a) (g5 a) (g6 a) (g7 a) (g8 a) (g5 a) (wJ ((wJ (a.2.2.1+1))+3)) (g11 a) b.1.1 0 0 0 0 0 0 0 0 0 0 0 [] [] [c.1.1]
    else
     Qrg a b L1
   else
    Qrg a b L1
  else
   Qrg a b L1
 else
  Qrh a b L1
def Qum (a:Qse) (b:(Qkv × Unit) × Unit) (L1:Qkh):Option Qki:=
 bif (g3 a)==0 then
  bif (g9 a) != 0 then
   bif decide (wJ (a.2.2.1+1) ≥ (g10 a)) then
    bif (wJ ((g11 a)+1))==0 then
     bif (g5 a) != 0 then
      bif (g5 a) != a.1 then
       Option.bind (Qk9 (e12 (u11 (u10 (u9 (u2 a (wJ (a.2.2.1+1))) (g5 a)) (wJ ((wJ (a.2.2.1+1))+3))) (wJ ((g11 a)+1))) b.1.1) 1 (g5 a)) fun c=>
       bif !((Int.tmod (wJ (a.2.2.1+1)) 2)==0) then
        some (((e12 (u11 (u10 (u9 (u2 a (wJ (a.2.2.1+1))) (g5 a)) (wJ ((wJ (a.2.2.1+1))+3))) (wJ ((g11 a)+1))) b.1.1),[c.1.1],()),())
       else
       bif (g3 a) != 0 then
        Option.bind (Qk9 (e12 (u11 (u10 (u9 (u2 a (wJ (a.2.2.1+1))) (g5 a)) (wJ ((wJ (a.2.2.1+1))+3))) (wJ ((g11 a)+1))) b.1.1) 4 (g3 a)) fun d=>
        L1 0 a.1 a.2.1 (wJ (a.2.2.1+1)) (g3 a) (g4 a) (g5 a) (g6 a) (g7 a) (g8 a) (g5 a) (wJ ((wJ (a.2.2.1+1))+3)) (wJ ((g11 a)+1)) b.1.1 0 0 0 0 0 0 0 0 0 0 0 [] [] [c.1.1,d.1.1]
       else
        L1 0 a.1 a.2.1 (wJ (a.2.2.1+1)) (g3 a) (g4 a) (g5 a) (g6 a) (g7 a) (g8 a) (g5 a) (wJ ((wJ (a.2.2.1+1))+3)) (wJ ((g11 a)+1)) b.1.1 0 0 0 0 0 0 0 0 0 0 0 [] [] [c.1.1]
      else
       Qre a b L1
     else
      Qre a b L1
    else
     Qre a b L1
   else
    Qv0 a b L1
  else
   Qv0 a b L1
 else
  Qrh a b L1
def Qp4 (L1:Qkh) (h i j k l m n:Int) (b:List Int) (c d e f g:Int) (a:Qkv) (r s t u v w x y z A B:Int) (C:List Int) (D:Qkv) (o:Qpc):Option Qki:=
 bif decide (h<(a.length:Int)) then
  Option.bind (Qlu (i,j,k,l,m,n,b,c,d,e,f,g,a)) fun p=>
  bif p.1.1 then
   bif ix h (a.length:Int) then
    bif ix h (a.length:Int) then
     Option.bind (Qon (i,j,k,l,m,n,b,c,d,e,f,g,a) 5 ((List.getD a h.toNat (0,0,0)).1)) fun q=>
     bif Nat.ble (o.length+1) 1073741824 then
      L1 (wJ (h+1)) i j k l m n b c d e f g a r s t u v w x y z A B C D (o++[q.1.1])
     else none
    else none
   else none
  else
   some (((i,j,k,l,m,n,b,c,d,e,f,g,a),o,()),())
 else
  some (((i,j,k,l,m,n,b,c,d,e,f,g,a),o,()),())
def Qp0 (L2:Qkh) (n b c d e f g:Int) (h:List Int) (i j k l m:Int) (a:Qkv) (r s t u v w x y z A B:Int) (C:List Int) (D:Qkv) (o:Qpc):Option Qki:=
 bif decide (n<(a.length:Int)) then
  Option.bind (Qlu (b,c,d,e,f,g,h,i,j,k,l,m,a)) fun p=>
  bif p.1.1 then
   bif ix n (a.length:Int) then
    Option.bind (Qon (b,c,d,e,f,g,h,i,j,k,l,m,a) 5 ((List.getD a n.toNat (0,0,0)).1)) fun q=>
    bif Nat.ble (o.length+1) 1073741824 then
     L2 (wJ (n+1)) b c d e f g h i j k l m a r s t u v w x y z A B C D (o++[q.1.1])
    else none
   else none
  else
   some (((b,c,d,e,f,g,h,i,j,k,l,m,a),o,()),())
 else
  some (((b,c,d,e,f,g,h,i,j,k,l,m,a),o,()),())
def Qpp (L1 L2:Qkh) (b:Qse):Option Qki:=
 Option.bind (Z3o (h12 b) (wJ (b.2.2.1+1))) fun c=>
 bif b.1==1 then
  bif (Int.tmod (wJ (b.2.2.1+1)) 2)==0 then
   bif !((Int.tmod (wJ (b.2.2.1+1)) 2)==0) then
    some (((e12 (u8 (u7 (u2 b (wJ (b.2.2.1+1))) (wJ ((g7 b)+1))) (wJ (b.2.2.1+1))) c.1.1),[],()),())
   else
   bif (g3 b) != 0 then
    Option.bind (Qk9 (e12 (u8 (u7 (u2 b (wJ (b.2.2.1+1))) (wJ ((g7 b)+1))) (wJ (b.2.2.1+1))) c.1.1) 4 (g3 b)) fun e=>
    L1 0 b.1 b.2.1 (wJ (b.2.2.1+1)) (g3 b) (g4 b) (g5 b) (g6 b) (wJ ((g7 b)+1)) (wJ (b.2.2.1+1)) (g9 b) (g10 b) (g11 b) c.1.1 0 0 0 0 0 0 0 0 0 0 0 [] [] [e.1.1]
   else
    L1 0 b.1 b.2.1 (wJ (b.2.2.1+1)) (g3 b) (g4 b) (g5 b) (g6 b) (wJ ((g7 b)+1)) (wJ (b.2.2.1+1)) (g9 b) (g10 b) (g11 b) c.1.1 0 0 0 0 0 0 0 0 0 0 0 [] [] []
  else
   Qrh b c L1
 else
 bif (g3 b) != 0 then
  Option.bind (Qlu (e12 (u2 b (wJ (b.2.2.1+1))) c.1.1)) fun f=>
  bif !f.1.1 then
   Option.bind (Qlo (e12 (u2 b (wJ (b.2.2.1+1))) c.1.1) 0) fun a=>
   bif (g3 a.1.1)==0 then
    bif (g9 a.1.1) != 0 then
     bif decide (a.1.1.2.2.1 ≥ (g10 a.1.1)) then
      bif (wJ ((g11 a.1.1)+1))==0 then
       bif (g5 a.1.1) != 0 then
        bif (g5 a.1.1) != a.1.1.1 then
         Option.bind (Qk9 (u11 (u10 (u9 a.1.1 (g5 a.1.1)) (wJ (a.1.1.2.2.1+3))) (wJ ((g11 a.1.1)+1))) 1 (g5 a.1.1)) fun d=>
         bif !((Int.tmod (wJ (b.2.2.1+1)) 2)==0) then
          some (((u11 (u10 (u9 a.1.1 (g5 a.1.1)) (wJ (a.1.1.2.2.1+3))) (wJ ((g11 a.1.1)+1))),[d.1.1],()),())
         else
         bif (g3 a.1.1) != 0 then
          Option.bind (Qk9 (u11 (u10 (u9 a.1.1 (g5 a.1.1)) (wJ (a.1.1.2.2.1+3))) (wJ ((g11 a.1.1)+1))) 4 (g3 a.1.1)) fun g=>
          L2 0 a.1.1.1 a.1.1.2.1 a.1.1.2.2.1 (g3 a.1.1) (g4 a.1.1) (g5 a.1.1) (g6 a.1.1) (g7 a.1.1) (g8 a.1.1) (g5 a.1.1) (wJ (a.1.1.2.2.1+3)) (wJ ((g11 a.1.1)+1)) (h12 a.1.1) 0 0 0 0 0 0 0 0 0 0 0 [] [] [d.1.1,g.1.1]
         else
          L2 0 a.1.1.1 a.1.1.2.1 a.1.1.2.2.1 (g3 a.1.1) (g4 a.1.1) (g5 a.1.1) (g6 a.1.1) (g7 a.1.1) (g8 a.1.1) (g5 a.1.1) (wJ (a.1.1.2.2.1+3)) (wJ ((g11 a.1.1)+1)) (h12 a.1.1) 0 0 0 0 0 0 0 0 0 0 0 [] [] [d.1.1]
        else
         Qyj a b L2
       else
        Qyj a b L2
      else
       Qyj a b L2
     else
      Qyn a b L2
    else
     Qyn a b L2
   else
    Z6x b a L2
  else
   Qum b c L1
 else
  Qum b c L1
def Qme (n:Nat):Nat→Qkh:=iter (fun _ _ _ _ _ _ _ _ _ _ _ _ _ _ _ _ _ _ _ _ _ _ _ _ _ _ _ _=>none) fun L=>Qp4 L
def Qmd (n:Nat):Nat→Qkh:=iter (fun _ _ _ _ _ _ _ _ _ _ _ _ _ _ _ _ _ _ _ _ _ _ _ _ _ _ _ _=>none) fun L=>Qp0 L
def Quj (n m:Nat) (w y z A B C D:Int) (a:List Int) (b c d e f:Int) (g:Qkv) (h i j k l o p q r s t:Int) (u:List Int) (v:Qkv) (x:Qpc):Option Qki:=
 Qjr Z8o tab (fiB [.val t30] Qyo) n [.val t30] [⟨t30,(nF 13),none⟩,⟨t48,[true],none⟩] Tryz.f60 [1,1,1,1,1,1,1,1,0,1,0] [] [1,2,5,6] m
 ⟨[(1,V1 (.ptr (1,0) 0)),(2,V1 (.ptr (2,0) 0)),(5,V1 (.ref (888888,5))),(6,Vp t2 w)],[((1,0),Ob.box 31 [LV.pure t2 y,LV.pure t2 z,LV.pure t2 A,LV.pure t2 B,LV.pure t2 C,LV.pure t2 D,LV.pure t28 a,LV.pure t2 b,LV.pure t2 c,LV.pure t2 d,LV.pure t2 e,LV.pure t2 f,LV.ref (1,13)]),((1,13),Ob.row 53 t52 g),((2,0),Ob.box 31 [LV.pure t2 h,LV.pure t2 i,LV.pure t2 j,LV.pure t2 k,LV.pure t2 l,LV.pure t2 o,LV.ref (2,7),LV.pure t2 p,LV.pure t2 q,LV.pure t2 r,LV.pure t2 s,LV.pure t2 t,LV.ref (2,13)]),((2,7),Ob.row 3 t2 u),((2,13),Ob.row 53 t52 v),((888888,5),Ob.row 46 t45 x)]⟩
def Qui (n m:Nat) (a b c d e f g:Int) (h:List Int) (i j k l o:Int) (p:Qkv) (q r s t u v w x y z A:Int) (B:List Int) (C:Qkv) (D:Qpc):Option Qki:=
 Qjr Z8o tab (fiB [.val t30] Qyo) n [.val t30] [⟨t30,(nF 13),none⟩,⟨t48,[true],none⟩] Tryz.f60 [1,1,1,1,1,1,1,1,0,1,0] [] [1,2,5,6] m
 ⟨[(1,V1 (.ptr (1,0) 0)),(2,V1 (.ptr (2,0) 0)),(5,V1 (.ref (888888,5))),(6,Vp t2 a)],[((1,0),Ob.box 31 [LV.pure t2 b,LV.pure t2 c,LV.pure t2 d,LV.pure t2 e,LV.pure t2 f,LV.pure t2 g,LV.pure t28 h,LV.pure t2 i,LV.pure t2 j,LV.pure t2 k,LV.pure t2 l,LV.pure t2 o,LV.pure t29 p]),((2,0),Ob.box 31 [LV.pure t2 q,LV.pure t2 r,LV.pure t2 s,LV.pure t2 t,LV.pure t2 u,LV.pure t2 v,LV.ref (2,7),LV.pure t2 w,LV.pure t2 x,LV.pure t2 y,LV.pure t2 z,LV.pure t2 A,LV.ref (2,13)]),((2,7),Ob.row 3 t2 B),((2,13),Ob.row 53 t52 C),((888888,5),Ob.row 46 t45 D)]⟩
theorem Z41 (n:Nat):∀ m,Quj n m=Qme n m
 | 0=>rfl
 | m+1=>by rw [show Quj n (m+1)=Qp4 (Quj n m) from by kernel_rfl,Z41 n m];rfl
theorem Z4j (n:Nat):∀ m,Qui n m=Qmd n m
 | 0=>rfl
 | m+1=>by rw [show Qui n (m+1)=Qp0 (Qui n m) from by kernel_rfl,Z4j n m];rfl
def Z81 (n:Nat) (a:Qse):Option Qki:=Qpp (Qme n n) (Qmd n n) a
def Qv8 (a:Qse):Option Qki:=Z81 1099511627776 a
def Qzz:Ent:=⟨[.val t30],[⟨t30,(nF 13),none⟩,⟨t48,[true],none⟩],fun x=>Qv8 x.1⟩
theorem Z2u:GD 60 Qzz:=fnl Qyo (fun n x=>Z81 n x.1) (Qk1 Qlh (Qk1 Zeh (Qk1 Z1n (Qk1 Z53 (Qk1 Z2r Qk2))))) Tryz.func60 fun n x=>Eq.trans (b:=Qpp (Quj n n) (Qui n n) x.1) (by kernel_rfl) (by rw [Z41 n n,Z4j n n];rfl)
abbrev Qs5:Type:=(Bool × Unit) × Unit
def Zm3:Ctx:=[]
def Zaa:Fi:=fo [[0,1],[0,1,5],[0,1,5,9],[0,1,5],[0,1,5,17],[4],[4]]
abbrev Z29:Type:=List Int→Int→Int→Option Qs5
def Qr7 (L1:Z29) (b:List Int) (c a:Int):Option Qs5:=
 bif decide (a<(b.length:Int)) then
  bif decide (0≤a)&&decide (a<(b.length:Int)) then
   bif (List.getD b a.toNat 0)==c then
    some ((true,()),())
   else
    L1 b c (wJ (a+1))
  else none
 else
  some ((false,()),())
def Zbz (L1:Z29) (b:List Int) (a:Int):Option Qs5:=
 L1 b a 0
def Qtu (n:Nat):Nat→Z29:=iter (fun _ _ _=>none) fun L=>Qr7 L
def Qx3 (n m:Nat) (a:List Int) (b c:Int):Option Qs5:=
 Qjr Zm3 tab (fiB [.val t28,.val t2] Zaa) n [.val t28,.val t2] [⟨t4,[false],none⟩] Tryz.f135 [1,0,1,0] [] [0,1,5] m
 ⟨[(0,Vp t28 a),(1,Vp t2 b),(5,Vp t2 c)],[]⟩
theorem Z8i (n:Nat):∀ m,Qx3 n m=Qtu n m
 | 0=>rfl
 | m+1=>by rw [show Qx3 n (m+1)=Qr7 (Qx3 n m) from by kernel_rfl,Z8i n m];rfl
def Zbv (n:Nat) (b:List Int) (a:Int):Option Qs5:=Zbz (Qtu n n) b a
def Qt2 (b:List Int) (a:Int):Option Qs5:=Zbv 1099511627776 b a
def Zc1:Ent:=⟨[.val t28,.val t2],[⟨t4,[false],none⟩],fun x=>Qt2 x.1 x.2.1⟩
theorem Z6w:GD 135 Zc1:=fnl Zaa (fun n x=>Zbv n x.1 x.2.1) Qk2 Tryz.func135 fun n x=>Eq.trans (b:=Zbz (Qx3 n n) x.1 x.2.1) (by kernel_rfl) (by rw [Z8i n n];rfl)
abbrev Qog:Type:=(Bool × Unit) × Unit
def Zft:Ctx:=[(135,Zc1)]
def Z3h:Fi:=fr [[0,8,9,10,13,0,16,30,0,34,37,0,44],[0,17,30,0,34,37,0,44],[2],[0,3,30,0,34,37,0,44],[0,3,21,30,0,34,37,0,44],[0,3,30,0,34,37,0,44],[0,3,30,0,34,37,0,45],[2],[2]]
abbrev Qwf:Type:=List Int→Int→Option Qog
def Qo0 (L1:Qwf) (b:List Int) (a:Int):Option Qog:=
 bif decide (a<(b.length:Int)) then
  bif decide (0≤a)&&decide (a<(b.length:Int)) then
   bif decide (List.getD b a.toNat 0<1) then
    some ((false,()),())
   else
   bif decide (0≤a)&&decide (a<(b.length:Int)) then
    bif decide (List.getD b a.toNat 0>8) then
     some ((false,()),())
    else
    bif decide (0≤a)&&decide (a≤(b.length:Int)) then
     bif decide (0≤a)&&decide (a<(b.length:Int)) then
      Option.bind (Qt2 (List.drop 0 (List.take a.toNat b)) (List.getD b a.toNat 0)) fun c=>
      bif c.1.1 then
       some ((false,()),())
      else
       L1 b (wJ (a+1))
     else none
    else none
   else none
  else none
 else
  some ((true,()),())
def Qt6 (L1:Qwf) (a:List Int):Option Qog:=
 bif decide ((a.length:Int)<1) then
  some ((false,()),())
 else
 bif decide ((a.length:Int)>10) then
  some ((false,()),())
 else
 bif decide (0<(a.length:Int)) then
  bif (List.getD a 0 0) != 1 then
   some ((false,()),())
  else
   L1 a 0
 else none
def Qnr (n:Nat):Nat→Qwf:=iter (fun _ _=>none) fun L=>Qo0 L
def Qs8 (n m:Nat) (a:List Int) (b:Int):Option Qog:=
 Qjr Zft tab (fiB [.val t28] Z3h) n [.val t28] [⟨t4,[false],none⟩] Tryz.f105 [1,1,0,1,0] [] [0,3] m
 ⟨[(0,Vp t28 a),(3,Vp t2 b)],[]⟩
theorem Z1w (n:Nat):∀ m,Qs8 n m=Qnr n m
 | 0=>rfl
 | m+1=>by rw [show Qs8 n (m+1)=Qo0 (Qs8 n m) from by kernel_rfl,Z1w n m];rfl
def Z4u (n:Nat) (a:List Int):Option Qog:=Qt6 (Qnr n n) a
def Qpw (a:List Int):Option Qog:=Z4u 1099511627776 a
def Zfs:Ent:=⟨[.val t28],[⟨t4,[false],none⟩],fun x=>Qpw x.1⟩
theorem Z0a:GD 105 Zfs:=fnl Z3h (fun n x=>Z4u n x.1) (Qk1 Z6w Qk2) Tryz.func105 fun n x=>Eq.trans (b:=Qt6 (Qs8 n n) x.1) (by kernel_rfl) (by rw [Z1w n n];rfl)
def Qo7 (a:List Int) (b:Int):Option (((List Int) × Bool × Unit) × Unit):=
 bif Nat.ble (0+a.length) 1073741824 then
  bif Nat.ble (([]++a).length+1) 1073741824 then
   Option.bind (Qpw (([]++a)++[b])) fun c=>
   bif !c.1.1 then
    some (([],false,()),())
   else
    some ((([]++a)++[b],true,()),())
  else none
 else none
def Z4v:Ent:=⟨[.val t28,.val t2],[⟨t28,[true],none⟩,⟨t4,[false],none⟩],fun x=>Qo7 x.1 x.2.1⟩
theorem Quw:GD 85 Z4v:=fnk 1 (fo [[0,1],[6],[6,15],[4,5],[4,5]]) (Qk1 Z0a Qk2) Tryz.func85
abbrev Qmh:Type:=((List Int) × Unit) × (Z4n × Unit)
def Zbk:Ctx:=[(26,Qop),(85,Z4v)]
def Qz5:Fi:=fr [[0],[0,3],[0,3,4],[0,3,4,11],[0,3,4],[0,3,0,6],[0,3,4,5,22],[0,3,4],[0,2]]
abbrev Qtn:Type:=Int→List Int→Int→List Int→Option Qmh
def Qm3 (L1:Qtn) (b:Int) (e:List Int) (f:Int) (c:List Int):Option Qmh:=
 bif decide (b>0) then
  Option.bind (Qk8 (e,f) 7) fun a=>
  Option.bind (Qo7 c (wJ (2+a.1.1))) fun d=>
  bif d.1.2.1 then
   L1 (wJ (b - 1)) a.2.1.1 a.2.1.2 d.1.1
  else
   L1 (wJ (b - 1)) a.2.1.1 a.2.1.2 c
 else
  some ((c,()),((e,f),()))
def Qql (L1:Qtn) (b:Z4n):Option Qmh:=
 Option.bind (Qk8 b 4) fun a=>
 L1 a.1.1 a.2.1.1 a.2.1.2 [1]
def Qm9 (n:Nat):Nat→Qtn:=iter (fun _ _ _ _=>none) fun L=>Qm3 L
def Qpy (n m:Nat) (a:Int) (b:List Int) (c:Int) (d:List Int):Option Qmh:=
 Qjr Zbk tab (fiB [.box 75 t74 [false,false]] Qz5) n [.box 75 t74 [false,false]] [⟨t28,[true],none⟩] Tryz.f43 [1,1,0,1,0] [] [0,3,4] m
 ⟨[(0,V1 (.ptr (0,0) 0)),(3,V1 (.ref (888888,3))),(4,Vp t2 a)],[((0,0),Ob.box 75 [LV.pure t25 b,LV.pure t2 c]),((888888,3),Ob.row 3 t2 d)]⟩
theorem Qxz (n:Nat):∀ m,Qpy n m=Qm9 n m
 | 0=>rfl
 | m+1=>by rw [show Qpy n (m+1)=Qm3 (Qpy n m) from by kernel_rfl,Qxz n m];rfl
def Qzp (n:Nat) (a:Z4n):Option Qmh:=Qql (Qm9 n n) a
def Qkn (a:Z4n):Option Qmh:=Qzp 1099511627776 a
def Z0r:Ent:=⟨[.box 75 t74 [false,false]],[⟨t28,[true],none⟩],fun x=>Qkn x.1⟩
theorem Qxb:GD 43 Z0r:=fnl Qz5 (fun n x=>Qzp n x.1) (Qk1 Ql6 (Qk1 Quw Qk2)) Tryz.func43 fun n x=>Eq.trans (b:=Qql (Qpy n n) x.1) (by kernel_rfl) (by rw [Qxz n n];rfl)
def Qmc (b:Z4n):Option (Zwm × (Z4n × Unit)):=
 Option.bind (Qk8 b 5) fun a=>
 bif decide (0≤a.1.1)&&decide (a.1.1<5) then
  bif decide (0≤a.1.1)&&decide (a.1.1<5) then
   some ((List.getD [zB,(⟨#[97]⟩:ByteArray),(⟨#[98,99]⟩:ByteArray),(⟨#[104,101,108,108,111]⟩:ByteArray),(⟨#[116,119,101,108,118,101,32,98,121,116,101,115]⟩:ByteArray)] a.1.1.toNat zB,()),(a.2.1,()))
  else none
 else none
def Z0e:Ent:=⟨[.box 75 t74 [false,false]],[⟨t9,[false],none⟩],fun x=>Qmc x.1⟩
theorem Qxe:GD 44 Z0e:=fnk 1 (fo [[0],[0,2]]) (Qk1 Ql6 Qk2) Tryz.func44
def Qkx (I:Z4n) (a:Int):Option ((Qvh × Unit) × (Z4n × Unit)):=
 Option.bind (Qk8 I 8) fun f=>
 bif (wJ (1+f.1.1))==a then
  Option.bind (Qk8 f.2.1 9) fun d=>
  Option.bind (Qk8 d.2.1 3) fun e=>
  bif (wJ (1+d.1.1))==2 then
   Option.bind (Qk8 e.2.1 20) fun C=>
   Option.bind (Qk8 C.2.1 25) fun D=>
   Option.bind (Qkn D.2.1) fun E=>
   Option.bind (Qk8 E.2.1 9) fun F=>
   some (((wJ (1+d.1.1),wJ (1+(Int.tmod a 8)),a,wJ (1+e.1.1),C.1.1,D.1.1,E.1.1,F.1.1,0,zB),()),(F.2.1,()))
  else
  bif (wJ (1+d.1.1))==5 then
   Option.bind (Qk8 e.2.1 20) fun G=>
   Option.bind (Qk8 G.2.1 25) fun H=>
   Option.bind (Qkn H.2.1) fun k=>
   Option.bind (Qk8 k.2.1 12) fun l=>
   some (((wJ (1+d.1.1),wJ (1+(Int.tmod a 8)),a,wJ (1+e.1.1),G.1.1,H.1.1,k.1.1,0,l.1.1,zB),()),(l.2.1,()))
  else
  bif (wJ (1+d.1.1))==7 then
   Option.bind (Qk8 e.2.1 12) fun m=>
   Option.bind (Qmc m.2.1) fun n=>
   some (((wJ (1+d.1.1),wJ (1+(Int.tmod a 8)),a,wJ (1+e.1.1),0,0,[],wJ (1+m.1.1),0,n.1.1),()),(n.2.1,()))
  else
  bif (wJ (1+d.1.1))==8 then
   bif (wJ (1+d.1.1))==8 then
    Option.bind (Qk8 e.2.1 9) fun g=>
    Option.bind (Qk8 g.2.1 6) fun o=>
    some (((wJ (1+d.1.1),wJ (1+(Int.tmod a 8)),a,wJ (1+e.1.1),0,0,[],wJ (1+g.1.1),wJ ((wJ (1+g.1.1))+o.1.1),zB),()),(o.2.1,()))
   else
    some (((wJ (1+d.1.1),wJ (1+(Int.tmod a 8)),a,wJ (1+e.1.1),0,0,[],0,0,zB),()),(e.2.1,()))
  else
  bif (wJ (1+d.1.1))==9 then
   Option.bind (Qk8 e.2.1 9) fun h=>
   Option.bind (Qk8 h.2.1 6) fun p=>
   some (((wJ (1+d.1.1),wJ (1+(Int.tmod a 8)),a,wJ (1+e.1.1),0,0,[],wJ (1+h.1.1),wJ ((wJ (1+h.1.1))+p.1.1),zB),()),(p.2.1,()))
  else
   some (((wJ (1+d.1.1),wJ (1+(Int.tmod a 8)),a,wJ (1+e.1.1),0,0,[],0,0,zB),()),(e.2.1,()))
 else
  Option.bind (Qk8 f.2.1 9) fun b=>
  Option.bind (Qk8 b.2.1 3) fun c=>
  bif (wJ (1+b.1.1))==2 then
   Option.bind (Qk8 c.2.1 20) fun q=>
   Option.bind (Qk8 q.2.1 25) fun r=>
   Option.bind (Qkn r.2.1) fun s=>
   Option.bind (Qk8 s.2.1 9) fun t=>
   some (((wJ (1+b.1.1),wJ (1+f.1.1),a,wJ (1+c.1.1),q.1.1,r.1.1,s.1.1,t.1.1,0,zB),()),(t.2.1,()))
  else
  bif (wJ (1+b.1.1))==5 then
   Option.bind (Qk8 c.2.1 20) fun u=>
   Option.bind (Qk8 u.2.1 25) fun v=>
   Option.bind (Qkn v.2.1) fun w=>
   Option.bind (Qk8 w.2.1 12) fun x=>
   some (((wJ (1+b.1.1),wJ (1+f.1.1),a,wJ (1+c.1.1),u.1.1,v.1.1,w.1.1,0,x.1.1,zB),()),(x.2.1,()))
  else
  bif (wJ (1+b.1.1))==7 then
   Option.bind (Qk8 c.2.1 12) fun y=>
   Option.bind (Qmc y.2.1) fun z=>
   some (((wJ (1+b.1.1),wJ (1+f.1.1),a,wJ (1+c.1.1),0,0,[],wJ (1+y.1.1),0,z.1.1),()),(z.2.1,()))
  else
  bif (wJ (1+b.1.1))==8 then
   bif (wJ (1+b.1.1))==8 then
    Option.bind (Qk8 c.2.1 9) fun i=>
    Option.bind (Qk8 i.2.1 6) fun A=>
    some (((wJ (1+b.1.1),wJ (1+f.1.1),a,wJ (1+c.1.1),0,0,[],wJ (1+i.1.1),wJ ((wJ (1+i.1.1))+A.1.1),zB),()),(A.2.1,()))
   else
    some (((wJ (1+b.1.1),wJ (1+f.1.1),a,wJ (1+c.1.1),0,0,[],0,0,zB),()),(c.2.1,()))
  else
  bif (wJ (1+b.1.1))==9 then
   Option.bind (Qk8 c.2.1 9) fun j=>
   Option.bind (Qk8 j.2.1 6) fun B=>
   some (((wJ (1+b.1.1),wJ (1+f.1.1),a,wJ (1+c.1.1),0,0,[],wJ (1+j.1.1),wJ ((wJ (1+j.1.1))+B.1.1),zB),()),(B.2.1,()))
  else
   some (((wJ (1+b.1.1),wJ (1+f.1.1),a,wJ (1+c.1.1),0,0,[],0,0,zB),()),(c.2.1,()))
def Qvk:Ent:=⟨[.box 75 t74 [false,false],.val t2],[⟨t45,(nF 6++[true,false,false,false]),none⟩],fun x=>Qkx x.1 x.2.1⟩
theorem Qy0:GD 17 Qvk:=fnk 1 (fo [[0,1,4],[0,1,4,5],[0,1,4,5,12],[0,1,4,5],[0,4,6],[0,4,6,26],[0,4,6,26,27],[0,4,6],[0,4,6,26,41],[0,4,6],[0,4,6,26,55],[0,4,6],[0,4,6,26,64],[0,4,6,64],[0,4,6],[0,4,6],[0,4]]) (Qk1 Ql6 (Qk1 Qxb (Qk1 Qxe Qk2))) Tryz.func17
abbrev Qr6:Type:=(Zdv × Bool × Unit) × Unit
def Zka:Ctx:=[]
def Z83:Fi:=fo [[0,1,4],[0,1,4,6],[0,1,4,6,10],[0,1,4,6],[0,1,4,6,19],[4,5],[4,5]]
abbrev Z0t:Type:=Qkv→Int→Int→Int→Int→Int→Option Qr6
def Qq2 (L1:Z0t) (a:Qkv) (c b d e f:Int):Option Qr6:=
 bif decide (b<(a.length:Int)) then
  bif ix b (a.length:Int) then
   bif ((List.getD a b.toNat (0,0,0)).1)==c then
    bif ix b (a.length:Int) then
     some (((List.getD a b.toNat (0,0,0)),true,()),())
    else none
   else
    L1 a c (wJ (b+1)) d e f
  else none
 else
  some (((0,0,0),false,()),())
def Zai (L1:Z0t) (b:Qkv) (a:Int):Option Qr6:=
 L1 b a 0 0 0 0
def Qsl (n:Nat):Nat→Z0t:=iter (fun _ _ _ _ _ _=>none) fun L=>Qq2 L
def Qvu (n m:Nat) (a:Qkv) (b c d e f:Int):Option Qr6:=
 Qjr Zka tab (fiB [.val t29,.val t2] Z83) n [.val t29,.val t2] [⟨t52,[false,false,false],none⟩,⟨t4,[false],none⟩] Tryz.f70 [1,0,1,0] [] [0,1,4,6] m
 ⟨[(0,Vp t29 a),(1,Vp t2 b),(4,V1 (.ptr (4,0) 0)),(6,Vp t2 c)],[((4,0),Ob.box 53 [LV.pure t2 d,LV.pure t2 e,LV.pure t2 f])]⟩
theorem Z5x (n:Nat):∀ m,Qvu n m=Qsl n m
 | 0=>rfl
 | m+1=>by rw [show Qvu n (m+1)=Qq2 (Qvu n m) from by kernel_rfl,Z5x n m];rfl
def Zae (n:Nat) (b:Qkv) (a:Int):Option Qr6:=Zai (Qsl n n) b a
def Qpk (b:Qkv) (a:Int):Option Qr6:=Zae 1099511627776 b a
def Zkq:Ent:=⟨[.val t29,.val t2],[⟨t52,[false,false,false],none⟩,⟨t4,[false],none⟩],fun x=>Qpk x.1 x.2.1⟩
theorem Qxs:GD 70 Zkq:=fnl Z83 (fun n x=>Zae n x.1 x.2.1) Qk2 Tryz.func70 fun n x=>Eq.trans (b:=Zai (Qvu n n) x.1 x.2.1) (by kernel_rfl) (by rw [Z5x n n];rfl)
def Qy5 (d:Qkv) (b c:Int):Option ((Bool × Unit) × Unit):=
 Option.bind (Qpk d b) fun a=>
 bif a.1.2.1 then
  some ((decide (a.1.1.2.1>c),()),())
 else
  some ((false,()),())
def Zbu:Ent:=⟨[.val t29,.val t2,.val t2],[⟨t4,[false],none⟩],fun x=>Qy5 x.1 x.2.1 x.2.2.1⟩
theorem Z66:GD 134 Zbu:=fnk 1 (fr [[0,1,2,17,0,20],[2,7,8,17,0,20],[6]]) (Qk1 Qxs Qk2) Tryz.func134
abbrev Qr5:Type:=(Qkv × Unit) × Unit
def Zk1:Ctx:=[]
def Z7t:Fi:={ keep:=[],vty:=[(5,29)],vals:=[],live:=[(0,[0,1]),(1,[0,1,5]),(2,[0,1,5,6]),(3,[0,1,5,6,10]),(4,[0,1,5,6]),(5,[0,1,5,6,19]),(6,[0,1,5,6]),(7,[4])] }
abbrev Qzw:Type:=Qkv→Int→Int→Qkv→Option Qr5
def Qpt (L1:Qzw) (a:Qkv) (d b:Int) (c:Qkv):Option Qr5:=
 bif decide (b<(a.length:Int)) then
  bif ix b (a.length:Int) then
   bif ((List.getD a b.toNat (0,0,0)).1) != d then
    bif ix b (a.length:Int) then
     bif Nat.ble (c.length+1) 1073741824 then
      L1 a d (wJ (b+1)) (c++[(List.getD a b.toNat (0,0,0))])
     else none
    else none
   else
    L1 a d (wJ (b+1)) c
  else none
 else
  some ((c,()),())
def Zac (L1:Qzw) (b:Qkv) (a:Int):Option Qr5:=
 L1 b a 0 []
def Qsv (n:Nat):Nat→Qzw:=iter (fun _ _ _ _=>none) fun L=>Qpt L
def Qvt (n m:Nat) (a:Qkv) (b c:Int) (d:Qkv):Option Qr5:=
 Qjr Zk1 tab (fiB [.val t29,.val t2] Z7t) n [.val t29,.val t2] [⟨t29,[true],none⟩] Tryz.f139 [1,1,0,1,0] [] [0,1,5,6] m
 ⟨[(0,Vp t29 a),(1,Vp t2 b),(5,V1 (.ref (888888,5))),(6,Vp t2 c)],[((888888,5),Ob.row 53 t52 d)]⟩
theorem Z6t (n:Nat):∀ m,Qvt n m=Qsv n m
 | 0=>rfl
 | m+1=>by rw [show Qvt n (m+1)=Qpt (Qvt n m) from by kernel_rfl,Z6t n m];rfl
def Z9v (n:Nat) (b:Qkv) (a:Int):Option Qr5:=Zac (Qsv n n) b a
def Qw7 (b:Qkv) (a:Int):Option Qr5:=Z9v 1099511627776 b a
def Z9a:Ent:=⟨[.val t29,.val t2],[⟨t29,[true],none⟩],fun x=>Qw7 x.1 x.2.1⟩
theorem Z4a:GD 139 Z9a:=fnl Z7t (fun n x=>Z9v n x.1 x.2.1) Qk2 Tryz.func139 fun n x=>Eq.trans (b:=Zac (Qvt n n) x.1 x.2.1) (by kernel_rfl) (by rw [Z6t n n];rfl)
abbrev Qr3:Type:=(Qkv × Bool × Unit) × Unit
def Zk3:Ctx:=[(136,Qji),(134,Zbu),(139,Z9a)]
def Z87:Fi:={ keep:=[],vty:=[],vals:=[],live:=[(0,[0,3]),(1,[0,3,13]),(2,[4,5]),(3,[3,6]),(4,[3,6,7]),(5,[3,6,7,22]),(6,[3,6,7]),(7,[3,6,7,32]),(8,[4,5]),(9,[4,5])],melt:=[(8,1000006)] }
abbrev Z06:Type:=Int→Int→Int→Int→Qkv→Option Qr3
def Qqa (L1:Z06) (b c d e:Int) (a:Qkv):Option Qr3:=
 bif decide (b<(a.length:Int)) then
  bif ix b (a.length:Int) then
   bif ix b (a.length:Int) then
    bif decide ((List.getD a b.toNat (0,0,0)).1>c) then
     bif decide (0≤b)&&decide (b≤(((List.map some a).length:Nat):Int)) then
      bif Nat.ble (0+((b - 0).toNat)) ((List.map some a).length) then
       Option.bind (Qd (List.take ((b - 0).toNat) (List.drop 0 (List.map some a)))) fun z8=>
       bif Nat.ble (0+z8.length) 1073741824 then
        bif Nat.ble (([]++z8).length+1) 1073741824 then
         bif (decide (0≤b)&&decide (b≤((a.length:Nat):Int)))&&decide (((a.length:Nat):Int)≤(((List.map some a).length:Nat):Int)) then
          bif Nat.ble ((0+b.toNat)+((((a.length:Nat):Int) - b).toNat)) ((List.map some a).length) then
           Option.bind (Qd (List.take ((((a.length:Nat):Int) - b).toNat) (List.drop (0+b.toNat) (List.map some a)))) fun z9=>
           bif Nat.ble (((([]++z8)++[(c,d,e)]).length)+z9.length) 1073741824 then
            some (((([]++z8)++[(c,d,e)])++z9,true,()),())
           else none
          else none
         else none
        else none
       else none
      else none
     else none
    else
     L1 (wJ (b+1)) c d e a
   else none
  else none
 else
 bif Nat.ble (a.length+1) 1073741824 then
  some ((a++[(c,d,e)],true,()),())
 else none
def Qwv (L1:Z06) (b:Qkv) (a:Zdv):Option Qr3:=
 Option.bind (Qy5 b a.1 a.2.1) fun c=>
 bif c.1.1 then
  some ((b,false,()),())
 else
  Option.bind (Qw7 b a.1) fun d=>
  L1 0 a.1 a.2.1 a.2.2 d.1.1
def Qpz (n:Nat):Nat→Z06:=iter (fun _ _ _ _ _=>none) fun L=>Qqa L
def Qvv (n m:Nat) (a b c d:Int) (e:Qkv):Option Qr3:=
 Qjr Zk3 tab (fiB [.val t29,.val t52] Z87) n [.val t29,.val t52] [⟨t29,[false],none⟩,⟨t4,[false],none⟩] Tryz.f136 [1,1,1,0,1,0] [] [3,6,7] m
 ⟨[(3,V1 (.ptr (3,0) 0)),(6,V1 (.ref (888888,6))),(7,Vp t2 a)],[((3,0),Ob.box 53 [LV.pure t2 b,LV.pure t2 c,LV.pure t2 d]),((888888,6),Ob.row 53 t52 e)]⟩
theorem Z5u (n:Nat):∀ m,Qvv n m=Qpz n m
 | 0=>rfl
 | m+1=>by rw [show Qvv n (m+1)=Qqa (Qvv n m) from by kernel_rfl,Z5u n m];rfl
def Z9b (n:Nat) (b:Qkv) (a:Zdv):Option Qr3:=Qwv (Qpz n n) b a
def Qtz (b:Qkv) (a:Zdv):Option Qr3:=Z9b 1099511627776 b a
def Zk7:Ent:=⟨[.val t29,.val t52],[⟨t29,[false],none⟩,⟨t4,[false],none⟩],fun x=>Qtz x.1 x.2.1⟩
theorem Zfl:GD 136 Zk7:=fnl Z87 (fun n x=>Z9b n x.1 x.2.1) (Qk1 (Qk0 Tryz.func136 (by kernel_rfl) (by kernel_rfl)) (Qk1 Z66 (Qk1 Z4a Qk2))) Tryz.func136 fun n x=>Eq.trans (b:=Qwv (Qvv n n) x.1 x.2.1) (by kernel_rfl) (by rw [Z5u n n];rfl)
def Qye (a:List Int):Option ((Int × Unit) × Unit):=
 bif decide ((a.length:Int)<2) then
  some ((0,()),())
 else
 bif ix (wJ ((a.length:Int) - 2)) (a.length:Int) then
  some ((List.getD a ((wJ ((a.length:Int) - 2)).toNat) 0,()),())
 else none
def Zi6:Ent:=⟨[.val t28],[⟨t2,[false],none⟩],fun x=>Qye x.1⟩
theorem Zef:GD 171 Zi6:=fnk 1 (fo [[0],[0,5],[2],[2]]) Qk2 Tryz.func171
def Qrb (b:List Int):Option ((Int × Unit) × Unit):=
 Option.bind (Qye b) fun a=>
 bif a.1.1==0 then
  some ((1,()),())
 else
  some ((a.1.1,()),())
def Zh9:Ent:=⟨[.val t28],[⟨t2,[false],none⟩],fun x=>Qrb x.1⟩
theorem Z1b:GD 138 Zh9:=fnk 1 (fo [[0],[3],[3,7],[2],[2]]) (Qk1 Zef Qk2) Tryz.func138
def Qqx (a:Qse) (b:Qvh):Option ((Qse × Qpc × Unit) × Unit):=
 Option.bind (Qk9 (u11 (u9 a 0) (wJ ((g11 a)+1))) 6 b.2.1) fun c=>
 some (((u11 (u9 a 0) (wJ ((g11 a)+1))),[c.1.1],()),())
def Qqq (a:Qse) (b:Qvh):Option ((Qse × Qpc × Unit) × Unit):=
 bif (g9 a)==0 then
  Option.bind (Qk9 a 6 b.2.1) fun d=>
  some ((a,[d.1.1],()),())
 else
 bif (g9 a) != b.2.1 then
  Option.bind (Qk9 a 6 b.2.1) fun e=>
  some ((a,[e.1.1],()),())
 else
 bif (g3 a) != 0 then
  Option.bind (Qk9 a 6 b.2.1) fun f=>
  some ((a,[f.1.1],()),())
 else
  Option.bind (Qo7 (g6 b) a.1) fun c=>
  bif !c.1.2.1 then
   Qqx a b
  else
  bif decide ((g5 b)>20) then
   Qqx a b
  else
   Option.bind (Qrb (g6 b)) fun g=>
   some (((u11 (u9 (u8 (u7 (u6 (u5 (u4 (u3 a b.2.1) (g3 b)) g.1.1) c.1.1) (g4 b)) (wJ (a.2.2.1 - (g5 b)))) 0) 0),[],()),())
def Qmx (a:Qse) (b:Qvh):Option ((Qse × Qpc × Unit) × Unit):=
 bif (g3 a) != 0 then
  bif b.2.1==(g3 a) then
   some ((a,[],()),())
  else
   Qqq a b
 else
  Qqq a b
def Zc8:Ent:=⟨[.val t30,.val t45],[⟨t30,(nF 13),none⟩,⟨t48,[true],none⟩],fun x=>Qmx x.1 x.2.1⟩
theorem Z8z:GD 137 Zc8:=fnk 1 (fr [[2,3,4,12,0,16,23,0,27,30,0,32,52,0,54],[2,3,4,17,23,0,27,30,0,32,52,0,54],[4,5],[2,3,4,33,52,0,54],[4,5],[2,3,4,6,7,52,0,54],[2,3,4,6,7,52,0,54],[2,3,4,6,55],[2,3,4],[4,5],[2,3,4],[2,4],[4,5]]) (Qk1 Qlh (Qk1 Quw (Qk1 Z1b Qk2))) Tryz.func137
end
end Go.PE
