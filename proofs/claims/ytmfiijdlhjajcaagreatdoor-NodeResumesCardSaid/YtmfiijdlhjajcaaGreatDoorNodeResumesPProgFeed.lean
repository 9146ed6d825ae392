/-
  Plain lemmas on the functions.
  Conditions: none.
-/
import Derived.Test.YtmfiijdlhjajcaaGreatDoorNodeResumesPProgKids
set_option linter.unusedVariables false
set_option linter.unusedSimpArgs false
set_option maxRecDepth 20000
namespace Go.PE
theorem Zpl {f:Qnq} (h:FSm f):Qqh f=some ((f,()),()):=by
 unfold Qqh
 rw [Qre _ (by have:=h.ring;omega)]
 dsimp only [Option.bind_some]
 rw [Qre _ (by have:=h.win;show f.2.2.2.1.length≤_;omega)]
 dsimp only [Option.bind_some]
 rw [Z3r _ (by have:=h.log;show f.2.2.2.2.1.length≤_;omega)]
 rfl
theorem Zq8 {f:Qnq} (h:FSm f):Zav f=some ((f,()),()):=by
 unfold Zav
 rw [Qre _ (by have:=h.ring;omega)]
 dsimp only [Option.bind_some]
 rw [Qre _ (by have:=h.win;show f.2.2.2.1.length≤_;omega)]
 dsimp only [Option.bind_some]
 rw [Z3r _ (by have:=h.log;show f.2.2.2.2.1.length≤_;omega)]
 rfl
theorem Zqq (l:List Evt) (n:Int) (t:ByteArray) (h:l.length≤1000000000):Z8l l n t=some ((l++[Z6a (n,t)],()),()):=by
 unfold Z8l
 rw [Z3r l (by omega)]
 dsimp only [Option.bind_some]
 rw [cbp (by omega)];rfl
theorem Zlo (l:List Evt) (a b c:Int) (h:l.length≤1000000000):Zaw l a b c=some ((l++[Zdy a b c],()),()):=by
 unfold Zaw
 rw [Z3r l (by omega)]
 dsimp only [Option.bind_some]
 rw [cbp (by omega)];rfl
theorem Zr2 (l:List Qnf) (i:Qnf) (h6:l.length≤6):Z8g l i=some ((Z9r l i,()),()):=by
 have key:(∀ x,l.getLast?=some x→¬ i.1≤x.1)→Z5m ((l,()),()) i=some ((Z9r l i,()),()):=by
  intro hx
  have e:Z9r l i=(l++[i]).drop (l.length+1 - 6):=by
   unfold Z9r
   split
   ·rename_i x h;rw [if_neg (hx x h)]
   ·rename_i h;rw [List.getLast?_eq_none_iff] at h;subst h;rfl
  have hl:(l++[i]).length=l.length+1:=by rw [List.length_append,List.length_singleton]
  unfold Z5m
  dsimp only
  rw [cbp (by omega),hl,Qpx (by omega) (by omega)]
  have e0:(if 0>(((l.length+1:Nat):Int) - 6) then 0 else (((l.length+1:Nat):Int) - 6))=((l.length+1 - 6:Nat):Int):=by split<;>omega
  rw [e0,ct (by rw [Bool.and_eq_true,Bool.and_eq_true,decide_eq_true_eq,decide_eq_true_eq,decide_eq_true_eq];omega),Qka,Qka,List.take_of_length_le (l:=l++[i]) (by omega),Qre _ (by rw [List.length_drop];omega),e]
  rfl
 unfold Z8g
 rw [Qre l (by omega)]
 dsimp only [Option.bind_some]
 cases hl:l.getLast? with
 | none=>
  rw [List.getLast?_eq_none_iff] at hl
  subst hl
  rw [cdn (by simp)]
  exact key (fun x h=>by cases h)
 | some x=>
  have hp:0<l.length:=by
   cases l with
   | nil=>cases hl
   | cons a b=>simp
  rw [cdp (by omega),Qpx (by omega) (by omega),ct (bt (by omega) (by omega))]
  have e2:((l.length:Int) - 1).toNat=l.length - 1:=by omega
  have e3:List.getD l (l.length - 1) (0,ebA)=x:=by
   rw [Qkw (by omega)]
   rw [List.getLast?_eq_getElem?,List.getElem?_eq_getElem (by omega)] at hl
   exact Option.some.inj hl
  rw [e2,e3]
  by_cases h1:i.1≤x.1
  ·rw [cdp h1]
   unfold Z9r;rw [hl];simp only [h1,if_true]
  ·rw [cdn h1];exact key (fun y hy=>by rw [hl] at hy;cases hy;exact h1)
theorem Zqm {l:List Qnf} (h:Zan Z92 l) (hl:l.length≤1000000) (n:Int):Zex l n=some ((match Zmi l n with | some x=>(x.2,true,()) | none=>(ebA,false,())),()):=by
 unfold Zex
 rw [Zop l n _ Z92 hl h (fun x _=>by unfold Z89;rw [Zrp];rfl)]
 dsimp only [Option.bind_some]
 rcases Z3n (key:=Z92) (v:=n) h with ⟨a,b⟩ | ⟨p,a,b⟩
 ·rw [show Zmi l n=none from a,decide_eq_false (fun e=>by obtain ⟨e1,e2⟩:=e;have:=b e1;omega)];rfl
 ·rw [show Zmi l n=some _ from a,decide_eq_true ⟨p,b⟩]
  dsimp only
  rw [nt,cond_false,ct (idx (by omega)),Qka,Qkw p]
theorem Zmc (l:List Qnf) (h:l.length≤1000000):Zbm l=some ((Zmf l,()),()):=by
 unfold Zbm
 cases l with
 | nil=>rfl
 | cons x r=>rw [List.length_cons] at h ⊢;rw [Z1m (by omega),cdp (by omega)];rfl
theorem Zpp (v:Int):Z5g [] v=some (([],(0,ebA),false,()),()):=by
 unfold Z5g
 rw [Qre [] (by simp),Zmc [] (by simp)]
 dsimp only [Option.bind_some]
 rw [Zao]
 split<;>rfl
theorem Zp4 (x:Qnf) (r:List Qnf) (v:Int) (h:r.length≤100000):Z5g (x::r) v=if x.1=v then some ((r,x,true,()),()) else some ((x::r,(0,ebA),false,()),()):=by
 unfold Z5g
 rw [Qre _ (by rw [List.length_cons];omega),Zmc _ (by rw [List.length_cons];omega)]
 dsimp only [Option.bind_some]
 rw [Zao]
 by_cases hx:x.1=v
 ·rw [if_pos (show Zmf (x::r)=v from hx),if_pos hx,Z1m (by rw [List.length_cons];omega),ct (bt (by rw [List.length_cons];omega) (Int.le_refl _)),cdp (by rw [List.length_cons];omega),Int.toNat_natCast,List.take_length]
  rfl
 ·rw [if_neg (show ¬ Zmf (x::r)=v from hx),if_neg hx]
theorem Zqs {w:List Qnf} (h:Zan Z92 w) (hl:w.length≤1000) (next:Int) (x:Qnf) (h1:0≤next∧next≤1000000000) (h2:0≤x.1∧x.1≤1000000000):∃ b,Zih w next x=some ((Znu w next x,b,()),()):=by
 unfold Zih Znu
 rw [Qre w (by omega)]
 dsimp only [Option.bind_some]
 rw [Zop w x.1 _ Z92 (by omega) h (fun y _=>by unfold Za5;rw [Zrp];rfl),Qpx (by omega) (by omega)]
 dsimp only [Option.bind_some]
 rcases Z3n (key:=Z92) (v:=x.1) h with ⟨a,b⟩ | ⟨p,a,b⟩
 ·rw [decide_eq_false (fun e=>by obtain ⟨e1,e2⟩:=e;have:=b e1;omega),cond_false]
  by_cases a1:x.1<next
  ·rw [cdp a1,if_pos (.inl a1)];exact ⟨_,rfl⟩
  rw [cdn a1]
  by_cases a2:8≤x.1 - next
  ·rw [cdp a2,if_pos (.inr (.inl a2))];exact ⟨_,rfl⟩
  rw [cdn a2,if_neg (by rw [show Zmi w x.1=none from a];simp [a1,a2])]
  rw [show Qvt w ((Qwt Z92 x.1 w:Nat):Int) [x]=Qeg w ((Qwt Z92 x.1 w:Nat):Int) [x] from rfl]
  unfold Qeg
  have hp:=Zf5 Z92 x.1 w
  rw [ct (by simp only [Bool.and_eq_true,decide_eq_true_eq,Q2,List.length_singleton];omega)]
  dsimp only [Option.bind_some]
  have hn:=Z04.1 a
  exact ⟨true,by rw [Qka,Zkt h hn,List.append_assoc];rfl⟩
 ·rw [decide_eq_true ⟨p,b⟩,cond_true,if_pos (.inr (.inr (by rw [show Zmi w x.1=some _ from a];rfl)))]
  exact ⟨_,rfl⟩
theorem Zd9 (L) (top:Int) (j1 j2 j3 j4:Int) (j5 j6:List Qnf) (j7:List Evt) (next:Int) (ring w:List Qnf) (log:List Evt) (a b:Int) (o:List Qnf) (h1:0≤next∧next≤1000000000) (h2:ring.length≤6) (h3:w.length≤10000) (h4:log.length≤100000000) (h5:o.length≤100000000) :
  Qy8 L next top w a b ring log j1 j2 j3 j4 j5 j6 j7 o=match w with
   | []=>some (((next,top,ring,[],log,if o=[] then (a,b) else (0,0)),o,()),())
   | x::r=>if x.1=next then L (next+1) top r a b (Z9r ring x) (log++[Z6a x]) j1 j2 j3 j4 j5 j6 j7 (o++[x]) else some (((next,top,ring,x::r,log,if o=[] then (a,b) else (0,0)),o,()),()):=by
 have fin:∀ w:List Qnf,(bif decide ((o.length:Int)>0) then Option.bind Qrd fun r17=>some (((next,top,ring,w,log,r17.1.1),o,()),()) else some (((next,top,ring,w,log,a,b),o,()),()))=(some (((next,top,ring,w,log,if o=[] then (a,b) else (0,0)),o,()),()):Option (((Qnq) × (List Qnf) × Unit) × Unit)):=by
  intro w
  cases o with
  | nil=>rfl
  | cons y z=>rw [cdp (by rw [List.length_cons];omega),if_neg (by simp)];rfl
 unfold Qy8
 cases w with
 | nil=>rw [Zpp];exact fin []
 | cons x r=>
  rw [List.length_cons] at h3
  rw [Zp4 x r next (by omega)]
  by_cases hx:x.1=next
  ·rw [if_pos hx]
   dsimp only [Option.bind_some]
   rw [if_pos hx,nt,cond_false,Zqq _ _ _ (by omega)]
   dsimp only [Option.bind_some]
   rw [Zr2 _ _ h2]
   dsimp only [Option.bind_some]
   rw [cbp (by omega),Qpx (by omega) (by omega)]
  ·rw [if_neg hx]
   dsimp only [Option.bind_some]
   rw [if_neg hx,nf,cond_true]
   exact fin (x::r)
theorem Zhm (n:Nat) (top:Int) (j1 j2 j3 j4:Int) (j5 j6:List Qnf) (j7:List Evt):∀ (w:List Qnf) (m:Nat) (next:Int) (ring:List Qnf) (log:List Evt) (a b:Int) (o:List Qnf),o≠[] →
  w.length<m→0≤next∧next+w.length≤1000000000→ring.length≤6→w.length≤10000→log.length+w.length≤100000000→o.length+w.length≤100000000 →
  ∃ q,q≠[]∧Qrk n m next top w a b ring log j1 j2 j3 j4 j5 j6 j7 o=some ((Qw6 top next ring w log 0 0,q,()),())
 | w,0,next,ring,log,a,b,o,_,h,_,_,_,_,_=>by omega
 | [],m+1,next,ring,log,a,b,o,ho,h,h1,h2,h3,h4,h5=>by
  refine ⟨o,ho,?_⟩
  rw [List.length_nil] at *
  have e:Qrk n (m+1) next top [] a b ring log j1 j2 j3 j4 j5 j6 j7 o=_:=Zd9 (Qrk n m) top j1 j2 j3 j4 j5 j6 j7 next ring [] log a b o (by omega) h2 (by simp) (by omega) (by omega)
  rw [e]
  simp only [ho,if_false];rfl
 | x::r,m+1,next,ring,log,a,b,o,ho,h,h1,h2,h3,h4,h5=>by
  rw [List.length_cons] at h h1 h3 h4 h5
  have e:Qrk n (m+1) next top (x::r) a b ring log j1 j2 j3 j4 j5 j6 j7 o=_:=Zd9 (Qrk n m) top j1 j2 j3 j4 j5 j6 j7 next ring (x::r) log a b o (by omega) h2 (by rw [List.length_cons];omega) (by omega) (by omega)
  rw [e]
  unfold Qw6
  simp only
  by_cases hx:x.1=next
  ·rw [if_pos hx,if_pos hx]
   exact Zhm n top j1 j2 j3 j4 j5 j6 j7 r m (next+1) (Z9r ring x) (log++[Z6a x]) a b (o++[x]) (by simp) (by omega) (by omega) (Zif h2 x) (by omega) (by rw [List.length_append,List.length_singleton];omega) (by rw [List.length_append,List.length_singleton];omega)
  ·rw [if_neg hx,if_neg hx];exact ⟨o,ho,by simp only [ho,if_false]⟩
theorem Zmh (f:Qnq) (h:FSm f):∃ q:List Qnf,Z0m f=some ((Qwl f,q,()),())∧(q=[]→Qwl f=f)∧(∀ x r,f.2.2.2.1=x::r→x.1=f.1→q≠[]):=by
 obtain ⟨n,t,r,w,l,a,b⟩:=f
 obtain ⟨h1,h2,h3,h4⟩:=h
 simp only at h1 h2 h3 h4
 have key:∀ m,10000<m→∃ q:List Qnf,Z1y 1099511627776 m n t r w l a b 0 0 0 0 [] [] [] []=some ((Qwl (n,t,r,w,l,a,b),q,()),())∧(q=[]→Qwl (n,t,r,w,l,a,b)=(n,t,r,w,l,a,b))∧(∀ x r',w=x::r'→x.1=n→q≠[]):=by
  intro m hm
  obtain ⟨m,rfl⟩:∃ m',m=m'+1:=⟨m - 1,by omega⟩
  have e:Z1y 1099511627776 (m+1) n t r w l a b 0 0 0 0 [] [] [] []=Qy8 (Qrk 1099511627776 m) n t w a b r l 0 0 0 0 [] [] [] []:=rfl
  rw [e,Zd9 _ t 0 0 0 0 [] [] [] n r w l a b [] (by omega) h2 (by omega) (by omega) (by simp)]
  cases w with
  | nil=>exact ⟨[],rfl,fun _=>rfl,fun x r' e=>by cases e⟩
  | cons x r'=>
   rw [List.length_cons] at h3
   dsimp only
   show ∃ q:List Qnf,(if x.1=n then _ else _)=some ((Qw6 t n r (x::r') l a b,q,()),())∧(q=[]→Qw6 t n r (x::r') l a b=_)∧_
   unfold Qw6
   by_cases hx:x.1=n
   ·rw [if_pos hx,if_pos hx]
    obtain ⟨q,hq,hq2⟩:=Zhm 1099511627776 t 0 0 0 0 [] [] [] r' m (n+1) (Z9r r x) (l++[Z6a x]) a b ([]++[x]) (by simp) (by omega) (by omega) (Zif h2 x) (by omega) (by rw [List.length_append,List.length_singleton];omega) (by simp;omega)
    exact ⟨q,hq2,fun e=>absurd e hq,fun _ _ _ _=>hq⟩
   ·rw [if_neg hx,if_neg hx]
    exact ⟨[],rfl,fun _=>rfl,fun y s e e2=>by cases e;exact absurd e2 hx⟩
 exact key 1099511627776 (by decide)
theorem Zqc (g:Qnq) (h:FSm g) {R:Type} (K:Qnq→Option R):(Option.bind (Zbx g) fun r=>K r.1.1)=K (Qwl g):=by
 obtain ⟨q,e,_⟩:=Zmh g h
 unfold Zbx
 rw [Zq8 h]
 dsimp only [Option.bind_some]
 rw [e];rfl
end Go.PE
