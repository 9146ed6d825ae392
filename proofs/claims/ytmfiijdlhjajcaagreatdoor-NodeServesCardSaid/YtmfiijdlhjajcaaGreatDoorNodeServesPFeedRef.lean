/-
  Plain lemmas on the functions.
  Conditions: none.
-/
import Derived.Test.YtmfiijdlhjajcaaGreatDoorNodeServesPFeedSpec
set_option linter.unusedVariables false
set_option linter.unusedSimpArgs false
set_option maxRecDepth 20000
namespace Go.PE
theorem idx {n:Int} {i:Nat} (h:(i:Int)<n):(decide (0≤(i:Int))&&decide ((i:Int)<n))=true:=by
 rw [Bool.and_eq_true,decide_eq_true_eq,decide_eq_true_eq];omega
theorem bt {p q:Prop} {i:Decidable p} {j:Decidable q} (h1:p) (h2:q):(decide p&&decide q)=true:=by rw [decide_eq_true h1,decide_eq_true h2];rfl
theorem cp {α:Type} {p:Prop} {i:Decidable p} {a b:α}:(bif decide p then a else b)=if p then a else b:=by
 by_cases h:p
 ·rw [decide_eq_true h,if_pos h];rfl
 ·rw [decide_eq_false h,if_neg h];rfl
abbrev ebA:ByteArray:=⟨#[]⟩
theorem Zj7 {l:List Qn4} (h:l.length≤6) (i:Qn4):(Zak l i).length≤6:=by
 unfold Zak
 split
 ·split
  ·exact h
  ·rw [List.length_drop,List.length_append,List.length_singleton];omega
 ·simp
theorem Zev (n:Nat) (l:List Qn4) (v:Int) (h6:l.length≤1000000000):∀ (k m i:Nat),i+k=l.length→k<m →
  Qqj n m l v (i:Int)=some ((match Zn1 (l.drop i) v with | some x=>(x.2,true,()) | none=>(ebA,false,())),())
 | k,0,i,_,h=>by omega
 | 0,m+1,i,hk,h=>by
  show Qou (Qqj n m) l v (i:Int)=_
  unfold Qou
  rw [cdn (by omega),List.drop_eq_nil_of_le (by omega)];rfl
 | k+1,m+1,i,hk,h=>by
  show Qou (Qqj n m) l v (i:Int)=_
  have hi:i<l.length:=by omega
  unfold Qou
  rw [cdp (by omega),ct (idx (by omega)),ct (idx (by omega)),Qk9,Qkm hi,Qqh (by omega),ceq,List.drop_eq_getElem_cons hi]
  show _=some ((match (if Z99 l[i]=v then some l[i] else Zn1 (l.drop (i+1)) v) with | some x=>(x.2,true,()) | none=>(ebA,false,())),())
  by_cases hv:l[i].1=v
  ·rw [if_pos hv,if_pos hv]
  ·rw [if_neg hv,if_neg hv,Zev n l v h6 k m (i+1) (by omega) (by omega)]
theorem Zok (l:List Qn4) (v:Int) (h6:l.length≤1000000000):Z1a l v=some ((match Zn1 l v with | some x=>(x.2,true,()) | none=>(ebA,false,())),()):=by
 have:=Zev 1099511627776 l v h6 l.length 1099511627776 0 (by omega) (by omega)
 rw [List.drop_zero] at this
 exact this
theorem Zho (l:List Qn4) (i:Qn4) (h6:l.length≤6):Qq2 l i=some ((Zak l i,()),()):=by
 have key:(∀ x,l.getLast?=some x→¬ i.1≤x.1)→Qqg l i=some ((Zak l i,()),()):=by
  intro hx
  have e:Zak l i=(l++[i]).drop (l.length+1 - 6):=by
   unfold Zak
   split
   ·rename_i x h;rw [if_neg (hx x h)]
   ·rename_i h;rw [List.getLast?_eq_none_iff] at h;subst h;rfl
  have hl:(l++[i]).length=l.length+1:=by rw [List.length_append,List.length_singleton]
  unfold Qqg
  rw [List.nil_append,cbp (by omega),hl]
  by_cases h7:l.length=6
  ·rw [cdp (by omega),ct (bt (by omega) (by omega)),e,h7]
   have:(((6+1:Nat):Int)).toNat=7:=rfl
   rw [this,List.take_of_length_le (by omega)]
  ·rw [cdn (by omega),e,show l.length+1 - 6=0 by omega,List.drop_zero]
 unfold Qq2
 rw [cbp (by omega)]
 cases hl:l.getLast? with
 | none=>
  rw [List.getLast?_eq_none_iff] at hl
  subst hl
  rw [cdn (by simp)]
  exact key (fun x h=>by cases h)
 | some x=>
  have hp:0<l.length:=by
   cases l with
   | nil=>cases hl
   | cons a b=>simp
  rw [cdp (by omega),Qq3 (by omega) (by omega),ct (bt (by omega) (by omega))]
  have e2:((l.length:Int) - 1).toNat=l.length - 1:=by omega
  have e3:List.getD l (l.length - 1) (0,ebA)=x:=by
   rw [Qkm (by omega)]
   rw [List.getLast?_eq_getElem?,List.getElem?_eq_getElem (by omega)] at hl
   exact Option.some.inj hl
  rw [e2,e3]
  by_cases h1:i.1≤x.1
  ·rw [cdp h1,List.nil_append]
   unfold Zak;rw [hl];simp only [h1,if_true]
  ·rw [cdn h1];exact key (fun y hy=>by rw [hl] at hy;cases hy;exact h1)
theorem Zm0 (l:List Evt) (n:Int) (t:ByteArray) (h:l.length≤1000000000):Qsz l n t=some ((l++[Z77 (n,t)],()),()):=by
 unfold Qsz
 rw [cbp (by omega),List.nil_append,cbp (by omega)];rfl
theorem Zfz (l:List Evt) (a b c:Int) (h:l.length≤1000000000):Qp4 l a b c=some ((l++[Zf1 a b c],()),()):=by
 unfold Qp4
 rw [cbp (by omega),List.nil_append,cbp (by omega)];rfl
theorem Zhf (v:Int):Qnx [] v=some (([],(0,ebA),false,()),()):=rfl
theorem Zfl (x:Qn4) (r:List Qn4) (v:Int) (h:r.length≤1000000000):Qnx (x::r) v=if x.1=v then some ((r,x,true,()),()) else some ((x::r,(0,ebA),false,()),()):=by
 unfold Qnx
 rw [Z0t (by rw [List.length_cons];omega),cdp (by rw [List.length_cons];omega),Zd0]
 by_cases hx:x.1=v
 ·rw [if_pos (show (List.getD (x::r) 0 (0,ebA)).1=v from hx),if_pos hx,ct (bt (by rw [List.length_cons];omega) (Int.le_refl _)),cbp (by simp;omega),cdp (by rw [List.length_cons];omega),Int.toNat_natCast,List.take_length]
  rfl
 ·rw [if_neg (show ¬ (List.getD (x::r) 0 (0,ebA)).1=v from hx),if_neg hx]
theorem Zcx (L) (top:Int) (j1 j2 j3 j4:Int) (j5 j6:List Qn4) (j7:List Evt) (next:Int) (ring w:List Qn4) (log:List Evt) (a b:Int) (o:List Qn4) (h1:0≤next∧next≤1000000000) (h2:ring.length≤6) (h3:w.length≤1000000) (h4:log.length≤100000000) (h5:o.length≤100000000) :
  Qpz L next top ring w a b log j1 j2 j3 j4 j5 j6 j7 o=match w with
   | []=>some (((next,top,ring,[],log,a,b),o,()),())
   | x::r=>if x.1=next then L (next+1) top (Zak ring x) r 0 0 (log++[Z77 x]) j1 j2 j3 j4 j5 j6 j7 (o++[x]) else some (((next,top,ring,x::r,log,a,b),o,()),()):=by
 unfold Qpz
 cases w with
 | nil=>rw [Zhf];rfl
 | cons x r=>
  rw [List.length_cons] at h3
  rw [Zfl x r next (by omega)]
  by_cases hx:x.1=next
  ·rw [if_pos hx]
   dsimp only [Option.bind_some]
   rw [if_pos hx,nt,cond_false,Zm0 _ _ _ (by omega)]
   dsimp only [Option.bind_some]
   rw [Zho _ _ h2]
   dsimp only [Option.bind_some]
   rw [cbp (by omega),Qq3 (by omega) (by omega)]
  ·rw [if_neg hx]
   dsimp only [Option.bind_some]
   rw [if_neg hx,nf,cond_true]
theorem Zdd (n:Nat) (top:Int) (j1 j2 j3 j4:Int) (j5 j6:List Qn4) (j7:List Evt):∀ (w:List Qn4) (m:Nat) (next:Int) (ring:List Qn4) (log:List Evt) (a b:Int) (o:List Qn4),
  w.length<m→0≤next∧next+w.length≤1000000000→ring.length≤6→w.length≤1000000→log.length+w.length≤100000000→o.length+w.length≤100000000 →
  ∃ q,Qmv n m next top ring w a b log j1 j2 j3 j4 j5 j6 j7 o=some ((Qxe top next ring w log a b,q,()),())
 | w,0,next,ring,log,a,b,o,h,_,_,_,_,_=>by omega
 | [],m+1,next,ring,log,a,b,o,h,h1,h2,h3,h4,h5=>by
  refine ⟨o,?_⟩
  show Qpz (Qmv n m) next top ring [] a b log j1 j2 j3 j4 j5 j6 j7 o=_
  rw [List.length_nil] at *
  rw [Zcx _ top j1 j2 j3 j4 j5 j6 j7 next ring [] log a b o (by omega) h2 (by simp) (by omega) (by omega)];rfl
 | x::r,m+1,next,ring,log,a,b,o,h,h1,h2,h3,h4,h5=>by
  rw [List.length_cons] at h h1 h3 h4 h5
  have e:Qmv n (m+1) next top ring (x::r) a b log j1 j2 j3 j4 j5 j6 j7 o=_:=Zcx (Qmv n m) top j1 j2 j3 j4 j5 j6 j7 next ring (x::r) log a b o (by omega) h2 (by rw [List.length_cons];omega) (by omega) (by omega)
  rw [e]
  unfold Qxe
  simp only
  by_cases hx:x.1=next
  ·rw [if_pos hx,if_pos hx]
   exact Zdd n top j1 j2 j3 j4 j5 j6 j7 r m (next+1) (Zak ring x) (log++[Z77 x]) 0 0 (o++[x]) (by omega) (by omega) (Zj7 h2 x) (by omega) (by rw [List.length_append,List.length_singleton];omega) (by rw [List.length_append,List.length_singleton];omega)
  ·rw [if_neg hx,if_neg hx];exact ⟨o,rfl⟩
structure FSm (f:Qo0):Prop where
 next:0≤f.1∧f.1≤1000001
 ring:f.2.2.1.length≤6
 win:f.2.2.2.1.length≤1000
 log:f.2.2.2.2.1.length≤10000000
theorem Zk1.sm {f:Qo0} (h:Zk1 f):FSm f:=by
 have hl:=Zfr (a:=f.1) (b:=f.1+8) h.win (fun i hi=>by have:=h.win1 i hi;simp only [Z99];omega)
 have hn:=h.next
 have:=h.log
 exact ⟨by omega,h.ringl,by omega,by omega⟩
theorem FOk.sm {f:Qo0} (h:FOk f):FSm f:=by
 have hl:=Zfr (a:=f.1) (b:=f.1+8) h.win (fun i hi=>by have:=h.win1 i hi;simp only [Z99];omega)
 have hn:=h.next
 have:=h.log
 exact ⟨by omega,h.ringl,by omega,by omega⟩
theorem Zmi (f:Qo0) (h:FSm f):∃ q,Qlg f=some ((Qxl f,q,()),()):=by
 obtain ⟨n,t,r,w,l,a,b⟩:=f
 obtain ⟨h1,h2,h3,h4⟩:=h
 simp only at h1 h2 h3 h4
 have key:∀ m,10000<m→∃ q,Qsn 1099511627776 m n t r w l a b 0 0 0 0 [] [] [] []=some ((Qxl (n,t,r,w,l,a,b),q,()),()):=by
  intro m hm
  obtain ⟨m,rfl⟩:∃ m',m=m'+1:=⟨m - 1,by omega⟩
  have e:Qsn 1099511627776 (m+1) n t r w l a b 0 0 0 0 [] [] [] []=Qmv 1099511627776 (m+1) n t r w a b l 0 0 0 0 [] [] [] []:=rfl
  rw [e]
  exact Zdd 1099511627776 t 0 0 0 0 [] [] [] w (m+1) n r l a b [] (by omega) (by omega) h2 (by omega) (by omega) (by simp;omega)
 exact key 1099511627776 (by decide)
end Go.PE
