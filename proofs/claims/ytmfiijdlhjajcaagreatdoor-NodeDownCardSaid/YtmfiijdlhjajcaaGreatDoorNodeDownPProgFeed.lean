/-
  Plain lemmas on the functions.
  Conditions: none.
-/
import Derived.Test.YtmfiijdlhjajcaaGreatDoorNodeDownPProgKids
set_option linter.unusedVariables false
set_option linter.unusedSimpArgs false
set_option maxRecDepth 20000
namespace Go.PE
theorem Zpn {f:Qni} (h:FSm f):Qq5 f=some ((f,()),()):=by
 unfold Qq5
 rw [Qr7 _ (by have:=h.ring;omega)]
 dsimp only [Option.bind_some]
 rw [Qr7 _ (by have:=h.win;show f.2.2.2.1.length≤_;omega)]
 dsimp only [Option.bind_some]
 rw [Z3d _ (by have:=h.log;show f.2.2.2.2.1.length≤_;omega)]
 rfl
theorem Zpu {f:Qni} (h:FSm f):Zb8 f=some ((f,()),()):=by
 unfold Zb8
 rw [Qr7 _ (by have:=h.ring;omega)]
 dsimp only [Option.bind_some]
 rw [Qr7 _ (by have:=h.win;show f.2.2.2.1.length≤_;omega)]
 dsimp only [Option.bind_some]
 rw [Z3d _ (by have:=h.log;show f.2.2.2.2.1.length≤_;omega)]
 rfl
theorem Zq2 (l:List Evt) (n:Int) (t:ByteArray) (h:l.length≤1000000000):Z7n l n t=some ((l++[Z61 (n,t)],()),()):=by
 unfold Z7n
 rw [Z3d l (by omega)]
 dsimp only [Option.bind_some]
 rw [cbp (by omega)];rfl
theorem Zko (l:List Evt) (a b c:Int) (h:l.length≤1000000000):Zba l a b c=some ((l++[Zd7 a b c],()),()):=by
 unfold Zba
 rw [Z3d l (by omega)]
 dsimp only [Option.bind_some]
 rw [cbp (by omega)];rfl
theorem Zqp (l:List Qnb) (i:Qnb) (h6:l.length≤6):Z7w l i=some ((Z95 l i,()),()):=by
 have key:(∀ x,l.getLast?=some x→¬ i.1≤x.1)→Z4i ((l,()),()) i=some ((Z95 l i,()),()):=by
  intro hx
  have e:Z95 l i=(l++[i]).drop (l.length+1 - 6):=by
   unfold Z95
   split
   ·rename_i x h;rw [if_neg (hx x h)]
   ·rename_i h;rw [List.getLast?_eq_none_iff] at h;subst h;rfl
  have hl:(l++[i]).length=l.length+1:=by rw [List.length_append,List.length_singleton]
  unfold Z4i
  dsimp only
  rw [cbp (by omega),hl,Qqd (by omega) (by omega)]
  have e0:(if 0>(((l.length+1:Nat):Int) - 6) then 0 else (((l.length+1:Nat):Int) - 6))=((l.length+1 - 6:Nat):Int):=by split<;>omega
  rw [e0,ct (by rw [Bool.and_eq_true,Bool.and_eq_true,decide_eq_true_eq,decide_eq_true_eq,decide_eq_true_eq];omega),Qk9,Qk9,List.take_of_length_le (l:=l++[i]) (by omega),Qr7 _ (by rw [List.length_drop];omega),e]
  rfl
 unfold Z7w
 rw [Qr7 l (by omega)]
 dsimp only [Option.bind_some]
 cases hl:l.getLast? with
 | none=>
  rw [List.getLast?_eq_none_iff] at hl
  subst hl
  rw [cdn (by simp)]
  exact key (fun x h=>by cases h)
 | some x=>
  have hp:0<l.length:=by
   cases l with
   | nil=>cases hl
   | cons a b=>simp
  rw [cdp (by omega),Qqd (by omega) (by omega),ct (bt (by omega) (by omega))]
  have e2:((l.length:Int) - 1).toNat=l.length - 1:=by omega
  have e3:List.getD l (l.length - 1) (0,ebA)=x:=by
   rw [Qkl (by omega)]
   rw [List.getLast?_eq_getElem?,List.getElem?_eq_getElem (by omega)] at hl
   exact Option.some.inj hl
  rw [e2,e3]
  by_cases h1:i.1≤x.1
  ·rw [cdp h1]
   unfold Z95;rw [hl];simp only [h1,if_true]
  ·rw [cdn h1];exact key (fun y hy=>by rw [hl] at hy;cases hy;exact h1)
theorem Zqo {l:List Qnb} (h:Z8t Z85 l) (hl:l.length≤1000000) (n:Int):Ze2 l n=some ((match Zm3 l n with | some x=>(x.2,true,()) | none=>(ebA,false,())),()):=by
 unfold Ze2
 rw [Zo2 l n _ Z85 hl h (fun x _=>by unfold Z6n;rw [Zrn];rfl)]
 dsimp only [Option.bind_some]
 rcases Z3i (key:=Z85) (v:=n) h with ⟨a,b⟩ | ⟨p,a,b⟩
 ·rw [show Zm3 l n=none from a,decide_eq_false (fun e=>by obtain ⟨e1,e2⟩:=e;have:=b e1;omega)];rfl
 ·rw [show Zm3 l n=some _ from a,decide_eq_true ⟨p,b⟩]
  dsimp only
  rw [nt,cond_false,ct (idx (by omega)),Qk9,Qkl p]
theorem Zm0 (l:List Qnb) (h:l.length≤1000000):Za1 l=some ((Zlw l,()),()):=by
 unfold Za1
 cases l with
 | nil=>rfl
 | cons x r=>rw [List.length_cons] at h ⊢;rw [Z09 (by omega),cdp (by omega)];rfl
theorem Zpo (v:Int):Z4f [] v=some (([],(0,ebA),false,()),()):=by
 unfold Z4f
 rw [Qr7 [] (by simp),Zm0 [] (by simp)]
 dsimp only [Option.bind_some]
 rw [Z9x]
 split<;>rfl
theorem Zof (x:Qnb) (r:List Qnb) (v:Int) (h:r.length≤100000):Z4f (x::r) v=if x.1=v then some ((r,x,true,()),()) else some ((x::r,(0,ebA),false,()),()):=by
 unfold Z4f
 rw [Qr7 _ (by rw [List.length_cons];omega),Zm0 _ (by rw [List.length_cons];omega)]
 dsimp only [Option.bind_some]
 rw [Z9x]
 by_cases hx:x.1=v
 ·rw [if_pos (show Zlw (x::r)=v from hx),if_pos hx,Z09 (by rw [List.length_cons];omega),ct (bt (by rw [List.length_cons];omega) (Int.le_refl _)),cdp (by rw [List.length_cons];omega),Int.toNat_natCast,List.take_length]
  rfl
 ·rw [if_neg (show ¬ Zlw (x::r)=v from hx),if_neg hx]
theorem Zq5 {w:List Qnb} (h:Z8t Z85 w) (hl:w.length≤1000) (next:Int) (x:Qnb) (h1:0≤next∧next≤1000000000) (h2:0≤x.1∧x.1≤1000000000):∃ b,Zhm w next x=some ((Zn8 w next x,b,()),()):=by
 unfold Zhm Zn8
 rw [Qr7 w (by omega)]
 dsimp only [Option.bind_some]
 rw [Zo2 w x.1 _ Z85 (by omega) h (fun y _=>by unfold Z98;rw [Zrn];rfl),Qqd (by omega) (by omega)]
 dsimp only [Option.bind_some]
 rcases Z3i (key:=Z85) (v:=x.1) h with ⟨a,b⟩ | ⟨p,a,b⟩
 ·rw [decide_eq_false (fun e=>by obtain ⟨e1,e2⟩:=e;have:=b e1;omega),cond_false]
  by_cases a1:x.1<next
  ·rw [cdp a1,if_pos (.inl a1)];exact ⟨_,rfl⟩
  rw [cdn a1]
  by_cases a2:8≤x.1 - next
  ·rw [cdp a2,if_pos (.inr (.inl a2))];exact ⟨_,rfl⟩
  rw [cdn a2,if_neg (by rw [show Zm3 w x.1=none from a];simp [a1,a2])]
  rw [show Qvj w ((Qwh Z85 x.1 w:Nat):Int) [x]=Qeg w ((Qwh Z85 x.1 w:Nat):Int) [x] from rfl]
  unfold Qeg
  have hp:=Zet Z85 x.1 w
  rw [ct (by simp only [Bool.and_eq_true,decide_eq_true_eq,Q2,List.length_singleton];omega)]
  dsimp only [Option.bind_some]
  have hn:=Qzt.1 a
  exact ⟨true,by rw [Qk9,Zkw h hn,List.append_assoc];rfl⟩
 ·rw [decide_eq_true ⟨p,b⟩,cond_true,if_pos (.inr (.inr (by rw [show Zm3 w x.1=some _ from a];rfl)))]
  exact ⟨_,rfl⟩
theorem Zbx (L) (top:Int) (j1 j2 j3 j4:Int) (j5 j6:List Qnb) (j7:List Evt) (next:Int) (ring w:List Qnb) (log:List Evt) (a b:Int) (o:List Qnb) (h1:0≤next∧next≤1000000000) (h2:ring.length≤6) (h3:w.length≤10000) (h4:log.length≤100000000) (h5:o.length≤100000000) :
  Qy5 L next top w a b ring log j1 j2 j3 j4 j5 j6 j7 o=match w with
   | []=>some (((next,top,ring,[],log,if o=[] then (a,b) else (0,0)),o,()),())
   | x::r=>if x.1=next then L (next+1) top r a b (Z95 ring x) (log++[Z61 x]) j1 j2 j3 j4 j5 j6 j7 (o++[x]) else some (((next,top,ring,x::r,log,if o=[] then (a,b) else (0,0)),o,()),()):=by
 have fin:∀ w:List Qnb,(bif decide ((o.length:Int)>0) then Option.bind Qr5 fun r17=>some (((next,top,ring,w,log,r17.1.1),o,()),()) else some (((next,top,ring,w,log,a,b),o,()),()))=(some (((next,top,ring,w,log,if o=[] then (a,b) else (0,0)),o,()),()):Option (((Qni) × (List Qnb) × Unit) × Unit)):=by
  intro w
  cases o with
  | nil=>rfl
  | cons y z=>rw [cdp (by rw [List.length_cons];omega),if_neg (by simp)];rfl
 unfold Qy5
 cases w with
 | nil=>rw [Zpo];exact fin []
 | cons x r=>
  rw [List.length_cons] at h3
  rw [Zof x r next (by omega)]
  by_cases hx:x.1=next
  ·rw [if_pos hx]
   dsimp only [Option.bind_some]
   rw [if_pos hx,nt,cond_false,Zq2 _ _ _ (by omega)]
   dsimp only [Option.bind_some]
   rw [Zqp _ _ h2]
   dsimp only [Option.bind_some]
   rw [cbp (by omega),Qqd (by omega) (by omega)]
  ·rw [if_neg hx]
   dsimp only [Option.bind_some]
   rw [if_neg hx,nf,cond_true]
   exact fin (x::r)
theorem Zgt (n:Nat) (top:Int) (j1 j2 j3 j4:Int) (j5 j6:List Qnb) (j7:List Evt):∀ (w:List Qnb) (m:Nat) (next:Int) (ring:List Qnb) (log:List Evt) (a b:Int) (o:List Qnb),o≠[] →
  w.length<m→0≤next∧next+w.length≤1000000000→ring.length≤6→w.length≤10000→log.length+w.length≤100000000→o.length+w.length≤100000000 →
  ∃ q,q≠[]∧Qra n m next top w a b ring log j1 j2 j3 j4 j5 j6 j7 o=some ((Qvp top next ring w log 0 0,q,()),())
 | w,0,next,ring,log,a,b,o,_,h,_,_,_,_,_=>by omega
 | [],m+1,next,ring,log,a,b,o,ho,h,h1,h2,h3,h4,h5=>by
  refine ⟨o,ho,?_⟩
  rw [List.length_nil] at *
  have e:Qra n (m+1) next top [] a b ring log j1 j2 j3 j4 j5 j6 j7 o=_:=Zbx (Qra n m) top j1 j2 j3 j4 j5 j6 j7 next ring [] log a b o (by omega) h2 (by simp) (by omega) (by omega)
  rw [e]
  simp only [ho,if_false];rfl
 | x::r,m+1,next,ring,log,a,b,o,ho,h,h1,h2,h3,h4,h5=>by
  rw [List.length_cons] at h h1 h3 h4 h5
  have e:Qra n (m+1) next top (x::r) a b ring log j1 j2 j3 j4 j5 j6 j7 o=_:=Zbx (Qra n m) top j1 j2 j3 j4 j5 j6 j7 next ring (x::r) log a b o (by omega) h2 (by rw [List.length_cons];omega) (by omega) (by omega)
  rw [e]
  unfold Qvp
  simp only
  by_cases hx:x.1=next
  ·rw [if_pos hx,if_pos hx]
   exact Zgt n top j1 j2 j3 j4 j5 j6 j7 r m (next+1) (Z95 ring x) (log++[Z61 x]) a b (o++[x]) (by simp) (by omega) (by omega) (Zi6 h2 x) (by omega) (by rw [List.length_append,List.length_singleton];omega) (by rw [List.length_append,List.length_singleton];omega)
  ·rw [if_neg hx,if_neg hx];exact ⟨o,ho,by simp only [ho,if_false]⟩
theorem Zln (f:Qni) (h:FSm f):∃ q:List Qnb,Z0h f=some ((Qvw f,q,()),())∧(q=[]→Qvw f=f)∧(∀ x r,f.2.2.2.1=x::r→x.1=f.1→q≠[]):=by
 obtain ⟨n,t,r,w,l,a,b⟩:=f
 obtain ⟨h1,h2,h3,h4⟩:=h
 simp only at h1 h2 h3 h4
 have key:∀ m,10000<m→∃ q:List Qnb,Z1m 1099511627776 m n t r w l a b 0 0 0 0 [] [] [] []=some ((Qvw (n,t,r,w,l,a,b),q,()),())∧(q=[]→Qvw (n,t,r,w,l,a,b)=(n,t,r,w,l,a,b))∧(∀ x r',w=x::r'→x.1=n→q≠[]):=by
  intro m hm
  obtain ⟨m,rfl⟩:∃ m',m=m'+1:=⟨m - 1,by omega⟩
  have e:Z1m 1099511627776 (m+1) n t r w l a b 0 0 0 0 [] [] [] []=Qy5 (Qra 1099511627776 m) n t w a b r l 0 0 0 0 [] [] [] []:=rfl
  rw [e,Zbx _ t 0 0 0 0 [] [] [] n r w l a b [] (by omega) h2 (by omega) (by omega) (by simp)]
  cases w with
  | nil=>exact ⟨[],rfl,fun _=>rfl,fun x r' e=>by cases e⟩
  | cons x r'=>
   rw [List.length_cons] at h3
   dsimp only
   show ∃ q:List Qnb,(if x.1=n then _ else _)=some ((Qvp t n r (x::r') l a b,q,()),())∧(q=[]→Qvp t n r (x::r') l a b=_)∧_
   unfold Qvp
   by_cases hx:x.1=n
   ·rw [if_pos hx,if_pos hx]
    obtain ⟨q,hq,hq2⟩:=Zgt 1099511627776 t 0 0 0 0 [] [] [] r' m (n+1) (Z95 r x) (l++[Z61 x]) a b ([]++[x]) (by simp) (by omega) (by omega) (Zi6 h2 x) (by omega) (by rw [List.length_append,List.length_singleton];omega) (by simp;omega)
    exact ⟨q,hq2,fun e=>absurd e hq,fun _ _ _ _=>hq⟩
   ·rw [if_neg hx,if_neg hx]
    exact ⟨[],rfl,fun _=>rfl,fun y s e e2=>by cases e;exact absurd e2 hx⟩
 exact key 1099511627776 (by decide)
theorem Zpx (g:Qni) (h:FSm g) {R:Type} (K:Qni→Option R):(Option.bind (Za3 g) fun r=>K r.1.1)=K (Qvw g):=by
 obtain ⟨q,e,_⟩:=Zln g h
 unfold Za3
 rw [Zpu h]
 dsimp only [Option.bind_some]
 rw [e];rfl
end Go.PE
