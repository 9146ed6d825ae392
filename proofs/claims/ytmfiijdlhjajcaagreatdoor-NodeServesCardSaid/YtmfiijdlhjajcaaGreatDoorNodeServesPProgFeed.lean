/-
  Plain lemmas on the functions.
  Conditions: none.
-/
import Derived.Test.YtmfiijdlhjajcaaGreatDoorNodeServesPProgKids
set_option linter.unusedVariables false
set_option linter.unusedSimpArgs false
set_option maxRecDepth 20000
namespace Go.PE
theorem Zr3 {f:Qo0} (h:FSm f):Qqs f=some ((f,()),()):=by
 unfold Qqs
 rw [Qrz _ (by have:=h.ring;omega)]
 dsimp only [Option.bind_some]
 rw [Qrz _ (by have:=h.win;show f.2.2.2.1.length≤_;omega)]
 dsimp only [Option.bind_some]
 rw [Z5n _ (by have:=h.log;show f.2.2.2.2.1.length≤_;omega)]
 rfl
theorem Zrg {f:Qo0} (h:FSm f):Zda f=some ((f,()),()):=by
 unfold Zda
 rw [Qrz _ (by have:=h.ring;omega)]
 dsimp only [Option.bind_some]
 rw [Qrz _ (by have:=h.win;show f.2.2.2.1.length≤_;omega)]
 dsimp only [Option.bind_some]
 rw [Z5n _ (by have:=h.log;show f.2.2.2.2.1.length≤_;omega)]
 rfl
theorem Zrx (l:List Evt) (n:Int) (t:ByteArray) (h:l.length≤1000000000):Z9b l n t=some ((l++[Z77 (n,t)],()),()):=by
 unfold Z9b
 rw [Z5n l (by omega)]
 dsimp only [Option.bind_some]
 rw [cbp (by omega)];rfl
theorem Zlr (l:List Evt) (a b c:Int) (h:l.length≤1000000000):Zca l a b c=some ((l++[Zf1 a b c],()),()):=by
 unfold Zca
 rw [Z5n l (by omega)]
 dsimp only [Option.bind_some]
 rw [cbp (by omega)];rfl
theorem Zs0 (l:List Qn4) (i:Qn4) (h6:l.length≤6):Z9h l i=some ((Zak l i,()),()):=by
 have key:(∀ x,l.getLast?=some x→¬ i.1≤x.1)→Z63 ((l,()),()) i=some ((Zak l i,()),()):=by
  intro hx
  have e:Zak l i=(l++[i]).drop (l.length+1 - 6):=by
   unfold Zak
   split
   ·rename_i x h;rw [if_neg (hx x h)]
   ·rename_i h;rw [List.getLast?_eq_none_iff] at h;subst h;rfl
  have hl:(l++[i]).length=l.length+1:=by rw [List.length_append,List.length_singleton]
  unfold Z63
  dsimp only
  rw [cbp (by omega),hl,Qq3 (by omega) (by omega)]
  have e0:(if 0>(((l.length+1:Nat):Int) - 6) then 0 else (((l.length+1:Nat):Int) - 6))=((l.length+1 - 6:Nat):Int):=by split<;>omega
  rw [e0,ct (by rw [Bool.and_eq_true,Bool.and_eq_true,decide_eq_true_eq,decide_eq_true_eq,decide_eq_true_eq];omega),Qk9,Qk9,List.take_of_length_le (l:=l++[i]) (by omega),Qrz _ (by rw [List.length_drop];omega),e]
  rfl
 unfold Z9h
 rw [Qrz l (by omega)]
 dsimp only [Option.bind_some]
 cases hl:l.getLast? with
 | none=>
  rw [List.getLast?_eq_none_iff] at hl
  subst hl
  rw [cdn (by simp)]
  exact key (fun x h=>by cases h)
 | some x=>
  have hp:0<l.length:=by
   cases l with
   | nil=>cases hl
   | cons a b=>simp
  rw [cdp (by omega),Qq3 (by omega) (by omega),ct (bt (by omega) (by omega))]
  have e2:((l.length:Int) - 1).toNat=l.length - 1:=by omega
  have e3:List.getD l (l.length - 1) (0,ebA)=x:=by
   rw [Qkm (by omega)]
   rw [List.getLast?_eq_getElem?,List.getElem?_eq_getElem (by omega)] at hl
   exact Option.some.inj hl
  rw [e2,e3]
  by_cases h1:i.1≤x.1
  ·rw [cdp h1]
   unfold Zak;rw [hl];simp only [h1,if_true]
  ·rw [cdn h1];exact key (fun y hy=>by rw [hl] at hy;cases hy;exact h1)
theorem Zrs {l:List Qn4} (h:Zb9 Z99 l) (hl:l.length≤1000000) (n:Int):Zfs l n=some ((match Zn1 l n with | some x=>(x.2,true,()) | none=>(ebA,false,())),()):=by
 unfold Zfs
 rw [Zp2 l n _ Z99 hl h (fun x _=>by unfold Z8o;rw [Zt9];rfl)]
 dsimp only [Option.bind_some]
 rcases Z5c (key:=Z99) (v:=n) h with ⟨a,b⟩ | ⟨p,a,b⟩
 ·rw [show Zn1 l n=none from a,decide_eq_false (fun e=>by obtain ⟨e1,e2⟩:=e;have:=b e1;omega)];rfl
 ·rw [show Zn1 l n=some _ from a,decide_eq_true ⟨p,b⟩]
  dsimp only
  rw [nt,cond_false,ct (idx (by omega)),Qk9,Qkm p]
theorem Zni (l:List Qn4) (h:l.length≤1000000):Zbl l=some ((Zmy l,()),()):=by
 unfold Zbl
 cases l with
 | nil=>rfl
 | cons x r=>rw [List.length_cons] at h ⊢;rw [Z0t (by omega),cdp (by omega)];rfl
theorem Zr6 (v:Int):Z6b [] v=some (([],(0,ebA),false,()),()):=by
 unfold Z6b
 rw [Qrz [] (by simp),Zni [] (by simp)]
 dsimp only [Option.bind_some]
 rw [Zd0]
 split<;>rfl
theorem Zq2 (x:Qn4) (r:List Qn4) (v:Int) (h:r.length≤100000):Z6b (x::r) v=if x.1=v then some ((r,x,true,()),()) else some ((x::r,(0,ebA),false,()),()):=by
 unfold Z6b
 rw [Qrz _ (by rw [List.length_cons];omega),Zni _ (by rw [List.length_cons];omega)]
 dsimp only [Option.bind_some]
 rw [Zd0]
 by_cases hx:x.1=v
 ·rw [if_pos (show Zmy (x::r)=v from hx),if_pos hx,Z0t (by rw [List.length_cons];omega),ct (bt (by rw [List.length_cons];omega) (Int.le_refl _)),cdp (by rw [List.length_cons];omega),Int.toNat_natCast,List.take_length]
  rfl
 ·rw [if_neg (show ¬ Zmy (x::r)=v from hx),if_neg hx]
theorem Zry {w:List Qn4} (h:Zb9 Z99 w) (hl:w.length≤1000) (next:Int) (x:Qn4) (h1:0≤next∧next≤1000000000) (h2:0≤x.1∧x.1≤1000000000):∃ b,Zj4 w next x=some ((Zos w next x,b,()),()):=by
 unfold Zj4 Zos
 rw [Qrz w (by omega)]
 dsimp only [Option.bind_some]
 rw [Zp2 w x.1 _ Z99 (by omega) h (fun y _=>by unfold Zbc;rw [Zt9];rfl),Qq3 (by omega) (by omega)]
 dsimp only [Option.bind_some]
 rcases Z5c (key:=Z99) (v:=x.1) h with ⟨a,b⟩ | ⟨p,a,b⟩
 ·rw [decide_eq_false (fun e=>by obtain ⟨e1,e2⟩:=e;have:=b e1;omega),cond_false]
  by_cases a1:x.1<next
  ·rw [cdp a1,if_pos (.inl a1)];exact ⟨_,rfl⟩
  rw [cdn a1]
  by_cases a2:8≤x.1 - next
  ·rw [cdp a2,if_pos (.inr (.inl a2))];exact ⟨_,rfl⟩
  rw [cdn a2,if_neg (by rw [show Zn1 w x.1=none from a];simp [a1,a2])]
  rw [show Qwp w ((Qxn Z99 x.1 w:Nat):Int) [x]=Qeg w ((Qxn Z99 x.1 w:Nat):Int) [x] from rfl]
  unfold Qeg
  have hp:=Zg6 Z99 x.1 w
  rw [ct (by simp only [Bool.and_eq_true,decide_eq_true_eq,Q2,List.length_singleton];omega)]
  dsimp only [Option.bind_some]
  have hn:=Qwf.1 a
  exact ⟨true,by rw [Qk9,Zmd h hn,List.append_assoc];rfl⟩
 ·rw [decide_eq_true ⟨p,b⟩,cond_true,if_pos (.inr (.inr (by rw [show Zn1 w x.1=some _ from a];rfl)))]
  exact ⟨_,rfl⟩
theorem Zdv (L) (top:Int) (j1 j2 j3 j4:Int) (j5 j6:List Qn4) (j7:List Evt) (next:Int) (ring w:List Qn4) (log:List Evt) (a b:Int) (o:List Qn4) (h1:0≤next∧next≤1000000000) (h2:ring.length≤6) (h3:w.length≤10000) (h4:log.length≤100000000) (h5:o.length≤100000000) :
  Qyu L next top w a b ring log j1 j2 j3 j4 j5 j6 j7 o=match w with
   | []=>some (((next,top,ring,[],log,if o=[] then (a,b) else (0,0)),o,()),())
   | x::r=>if x.1=next then L (next+1) top r a b (Zak ring x) (log++[Z77 x]) j1 j2 j3 j4 j5 j6 j7 (o++[x]) else some (((next,top,ring,x::r,log,if o=[] then (a,b) else (0,0)),o,()),()):=by
 have fin:∀ w:List Qn4,(bif decide ((o.length:Int)>0) then Option.bind Qs0 fun r17=>some (((next,top,ring,w,log,r17.1.1),o,()),()) else some (((next,top,ring,w,log,a,b),o,()),()))=(some (((next,top,ring,w,log,if o=[] then (a,b) else (0,0)),o,()),()):Option (((Qo0) × (List Qn4) × Unit) × Unit)):=by
  intro w
  cases o with
  | nil=>rfl
  | cons y z=>rw [cdp (by rw [List.length_cons];omega),if_neg (by simp)];rfl
 unfold Qyu
 cases w with
 | nil=>rw [Zr6];exact fin []
 | cons x r=>
  rw [List.length_cons] at h3
  rw [Zq2 x r next (by omega)]
  by_cases hx:x.1=next
  ·rw [if_pos hx]
   dsimp only [Option.bind_some]
   rw [if_pos hx,nt,cond_false,Zrx _ _ _ (by omega)]
   dsimp only [Option.bind_some]
   rw [Zs0 _ _ h2]
   dsimp only [Option.bind_some]
   rw [cbp (by omega),Qq3 (by omega) (by omega)]
  ·rw [if_neg hx]
   dsimp only [Option.bind_some]
   rw [if_neg hx,nf,cond_true]
   exact fin (x::r)
theorem Ziy (n:Nat) (top:Int) (j1 j2 j3 j4:Int) (j5 j6:List Qn4) (j7:List Evt):∀ (w:List Qn4) (m:Nat) (next:Int) (ring:List Qn4) (log:List Evt) (a b:Int) (o:List Qn4),o≠[] →
  w.length<m→0≤next∧next+w.length≤1000000000→ring.length≤6→w.length≤10000→log.length+w.length≤100000000→o.length+w.length≤100000000 →
  ∃ q,q≠[]∧Qs6 n m next top w a b ring log j1 j2 j3 j4 j5 j6 j7 o=some ((Qxe top next ring w log 0 0,q,()),())
 | w,0,next,ring,log,a,b,o,_,h,_,_,_,_,_=>by omega
 | [],m+1,next,ring,log,a,b,o,ho,h,h1,h2,h3,h4,h5=>by
  refine ⟨o,ho,?_⟩
  rw [List.length_nil] at *
  have e:Qs6 n (m+1) next top [] a b ring log j1 j2 j3 j4 j5 j6 j7 o=_:=Zdv (Qs6 n m) top j1 j2 j3 j4 j5 j6 j7 next ring [] log a b o (by omega) h2 (by simp) (by omega) (by omega)
  rw [e]
  simp only [ho,if_false];rfl
 | x::r,m+1,next,ring,log,a,b,o,ho,h,h1,h2,h3,h4,h5=>by
  rw [List.length_cons] at h h1 h3 h4 h5
  have e:Qs6 n (m+1) next top (x::r) a b ring log j1 j2 j3 j4 j5 j6 j7 o=_:=Zdv (Qs6 n m) top j1 j2 j3 j4 j5 j6 j7 next ring (x::r) log a b o (by omega) h2 (by rw [List.length_cons];omega) (by omega) (by omega)
  rw [e]
  unfold Qxe
  simp only
  by_cases hx:x.1=next
  ·rw [if_pos hx,if_pos hx]
   exact Ziy n top j1 j2 j3 j4 j5 j6 j7 r m (next+1) (Zak ring x) (log++[Z77 x]) a b (o++[x]) (by simp) (by omega) (by omega) (Zj7 h2 x) (by omega) (by rw [List.length_append,List.length_singleton];omega) (by rw [List.length_append,List.length_singleton];omega)
  ·rw [if_neg hx,if_neg hx];exact ⟨o,ho,by simp only [ho,if_false]⟩
theorem Zna (f:Qo0) (h:FSm f):∃ q:List Qn4,Z1v f=some ((Qxl f,q,()),())∧(q=[]→Qxl f=f)∧(∀ x r,f.2.2.2.1=x::r→x.1=f.1→q≠[]):=by
 obtain ⟨n,t,r,w,l,a,b⟩:=f
 obtain ⟨h1,h2,h3,h4⟩:=h
 simp only at h1 h2 h3 h4
 have key:∀ m,10000<m→∃ q:List Qn4,Z2y 1099511627776 m n t r w l a b 0 0 0 0 [] [] [] []=some ((Qxl (n,t,r,w,l,a,b),q,()),())∧(q=[]→Qxl (n,t,r,w,l,a,b)=(n,t,r,w,l,a,b))∧(∀ x r',w=x::r'→x.1=n→q≠[]):=by
  intro m hm
  obtain ⟨m,rfl⟩:∃ m',m=m'+1:=⟨m - 1,by omega⟩
  have e:Z2y 1099511627776 (m+1) n t r w l a b 0 0 0 0 [] [] [] []=Qyu (Qs6 1099511627776 m) n t w a b r l 0 0 0 0 [] [] [] []:=rfl
  rw [e,Zdv _ t 0 0 0 0 [] [] [] n r w l a b [] (by omega) h2 (by omega) (by omega) (by simp)]
  cases w with
  | nil=>exact ⟨[],rfl,fun _=>rfl,fun x r' e=>by cases e⟩
  | cons x r'=>
   rw [List.length_cons] at h3
   dsimp only
   show ∃ q:List Qn4,(if x.1=n then _ else _)=some ((Qxe t n r (x::r') l a b,q,()),())∧(q=[]→Qxe t n r (x::r') l a b=_)∧_
   unfold Qxe
   by_cases hx:x.1=n
   ·rw [if_pos hx,if_pos hx]
    obtain ⟨q,hq,hq2⟩:=Ziy 1099511627776 t 0 0 0 0 [] [] [] r' m (n+1) (Zak r x) (l++[Z77 x]) a b ([]++[x]) (by simp) (by omega) (by omega) (Zj7 h2 x) (by omega) (by rw [List.length_append,List.length_singleton];omega) (by simp;omega)
    exact ⟨q,hq2,fun e=>absurd e hq,fun _ _ _ _=>hq⟩
   ·rw [if_neg hx,if_neg hx]
    exact ⟨[],rfl,fun _=>rfl,fun y s e e2=>by cases e;exact absurd e2 hx⟩
 exact key 1099511627776 (by decide)
theorem Zrd (g:Qo0) (h:FSm g) {R:Type} (K:Qo0→Option R):(Option.bind (Zc1 g) fun r=>K r.1.1)=K (Qxl g):=by
 obtain ⟨q,e,_⟩:=Zna g h
 unfold Zc1
 rw [Zrg h]
 dsimp only [Option.bind_some]
 rw [e];rfl
end Go.PE
