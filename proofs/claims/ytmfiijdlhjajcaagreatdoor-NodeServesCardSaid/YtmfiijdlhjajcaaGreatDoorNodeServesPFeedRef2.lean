/-
  Plain lemmas on the functions.
  Conditions: none.
-/
import Derived.Test.YtmfiijdlhjajcaaGreatDoorNodeServesPFeedRef
set_option linter.unusedVariables false
set_option linter.unusedSimpArgs false
set_option maxRecDepth 20000
namespace Go.PE
theorem Zf6 (l:List Qn4) (h:l.length≤1000000):Qn3 l=some ((Zmy l,()),()):=by
 unfold Qn3
 cases l with
 | nil=>rfl
 | cons x r=>rw [List.length_cons] at h ⊢;rw [Z0t (by omega),cdp (by omega)];rfl
theorem Zg4 (g:Qo0) (h:FSm g) {R:Type} (K:Qo0→Option R):(Option.bind (Qlg g) fun r=>K r.1.1)=K (Qxl g):=by
 obtain ⟨q,e⟩:=Zmi g h
 rw [e];rfl
theorem Zbp (L) (hi why:Int) (n t:Int) (r w:List Qn4) (l:List Evt) (a b:Int) (j1 j2 j3 j4:Int) (j5 j6:List Qn4) (j7:List Evt) (o:Qrf)
  (h1:0≤n∧n≤1000001) (hh:hi≤1000000) (h2:r.length≤6) (h3:w.length≤1000) (h4:l.length≤5000000) (h5:o.length≤100000000) (hw:∀ i∈w,0≤i.1∧i.1≤1000000) :
  (hi<n→Qne L hi why n t r w l a b j1 j2 j3 j4 j5 j6 j7 o=some (((n,t,r,w,l,a,b),o,()),())) ∧
  (n≤hi→∃ o',o'.length≤o.length+1∧Qne L hi why n t r w l a b j1 j2 j3 j4 j5 j6 j7 o=L hi why (Qp7 hi why (n,t,r,w,l,a,b)).1 (Qp7 hi why (n,t,r,w,l,a,b)).2.1 (Qp7 hi why (n,t,r,w,l,a,b)).2.2.1 (Qp7 hi why (n,t,r,w,l,a,b)).2.2.2.1 (Qp7 hi why (n,t,r,w,l,a,b)).2.2.2.2.1 (Qp7 hi why (n,t,r,w,l,a,b)).2.2.2.2.2.1 (Qp7 hi why (n,t,r,w,l,a,b)).2.2.2.2.2.2 j1 j2 j3 j4 j5 j6 j7 o'):=by
 have hsm:∀ (n':Int) (l':List Evt),0≤n'∧n'≤1000001→l'.length≤5000001→FSm (n',t,r,w,l',0,0):=fun n' l' q1 q2=>⟨q1,h2,h3,by simp only;omega⟩
 have hla:∀ x:Evt,(l++[x]).length≤5000001:=fun x=>by rw [List.length_append,List.length_singleton];omega
 have hJ2:n≤hi→∃ o',o'.length≤o.length+1∧Qn9 hi n l why o t r w L j1 j2 j3 j4 j5 j6 j7=L hi why (hi+1) t r w (l++[Zf1 n hi why]) 0 0 j1 j2 j3 j4 j5 j6 j7 o':=by
  intro hn
  refine ⟨o++[(n,hi)],by rw [List.length_append,List.length_singleton];omega,?_⟩
  unfold Qn9
  rw [cdp hn,Zfz _ _ _ _ (by omega)]
  dsimp only [Option.bind_some]
  rw [cbp (by omega),Qq3 (by omega) (by omega),cdn (by omega)]
 refine ⟨fun hn=>?_,fun hn=>?_⟩
 ·unfold Qne
  rw [cdn (by omega)]
 ·unfold Qne
  rw [cdp hn]
  cases w with
  | nil=>
   rw [cdn (by simp)]
   obtain ⟨o',q1,q2⟩:=hJ2 hn
   refine ⟨o',q1,q2.trans ?_⟩
   have e:Qp7 hi why (n,t,r,[],l,a,b)=(hi+1,t,r,[],l++[Zf1 n hi why],0,0):=by
    unfold Qp7;simp only;rw [if_pos hn];simp only;rw [if_neg (by omega)]
   rw [e]
  | cons x q=>
   have hx:=hw x (List.mem_cons_self ..)
   rw [cdp (by rw [List.length_cons];omega),Zf6 _ (by omega)]
   dsimp only [Option.bind_some]
   show ∃ o':List (Int × Int),o'.length≤o.length+1∧(bif decide (x.1≤hi) then _ else _)=_
   by_cases hxh:x.1≤hi
   ·rw [cdp hxh]
    show ∃ o':List (Int × Int),o'.length≤o.length+1∧(bif decide (IntKind.wrap .i64 (x.1 - 1) ≥ n) then _ else _)=_
    rw [Qq3 (x:=x.1 - 1) (by omega) (by omega)]
    by_cases h7:n≤x.1 - 1
    ·rw [cdp h7]
     show ∃ o':List (Int × Int),o'.length≤o.length+1∧(Option.bind (Qp4 l n (IntKind.wrap .i64 (x.1 - 1)) why) _)=_
     rw [Qq3 (x:=x.1 - 1) (by omega) (by omega),Zfz _ _ _ _ (by omega)]
     dsimp only [Option.bind_some]
     rw [cbp (by omega)]
     show ∃ o':List (Int × Int),o'.length≤o.length+1∧(bif decide (IntKind.wrap .i64 ((IntKind.wrap .i64 (x.1 - 1))+1)≤hi) then Option.bind (Qlg (IntKind.wrap .i64 ((IntKind.wrap .i64 (x.1 - 1))+1),t,r,x::q,l++[Zf1 n (x.1 - 1) why],0,0)) _ else _)=_
     rw [Qq3 (x:=x.1 - 1) (by omega) (by omega),Qq3 (x:=x.1 - 1+1) (by omega) (by omega),cdp (by omega)]
     refine ⟨o++[(n,IntKind.wrap .i64 (x.1 - 1))],by rw [List.length_append,List.length_singleton];omega,?_⟩
     have e:Qp7 hi why (n,t,r,x::q,l,a,b)=Qxl (x.1 - 1+1,t,r,x::q,l++[Zf1 n (x.1 - 1) why],0,0):=by
      unfold Qp7;simp only;rw [if_pos hxh,if_pos h7];simp only;rw [if_pos (by omega)]
     rw [e]
     exact Zg4 (x.1 - 1+1,t,r,x::q,l++[Zf1 n (x.1 - 1) why],0,0) (hsm _ _ (by omega) (hla _)) (fun g=>L hi why g.1 g.2.1 g.2.2.1 g.2.2.2.1 g.2.2.2.2.1 g.2.2.2.2.2.1 g.2.2.2.2.2.2 j1 j2 j3 j4 j5 j6 j7 (o++[(n,IntKind.wrap .i64 (x.1 - 1))]))
    ·rw [cdn h7]
     refine ⟨o,by omega,?_⟩
     unfold Qrk
     rw [cdp hn]
     have e:Qp7 hi why (n,t,r,x::q,l,a,b)=Qxl (n,t,r,x::q,l,0,0):=by
      unfold Qp7;simp only;rw [if_pos hxh,if_neg h7];simp only;rw [if_pos hn]
     rw [e]
     exact Zg4 (n,t,r,x::q,l,0,0) (hsm _ _ (by omega) (by omega)) (fun g=>L hi why g.1 g.2.1 g.2.2.1 g.2.2.2.1 g.2.2.2.2.1 g.2.2.2.2.2.1 g.2.2.2.2.2.2 j1 j2 j3 j4 j5 j6 j7 o)
   ·rw [cdn hxh]
    obtain ⟨o',q1,q2⟩:=hJ2 hn
    refine ⟨o',q1,q2.trans ?_⟩
    have e:Qp7 hi why (n,t,r,x::q,l,a,b)=(hi+1,t,r,x::q,l++[Zf1 n hi why],0,0):=by
     unfold Qp7;simp only;rw [if_neg hxh,if_pos hn];simp only;rw [if_neg (by omega)]
    rw [e]
theorem Zk1.wnn {f:Qo0} (h:Zk1 f):∀ i∈f.2.2.2.1,0≤i.1∧i.1≤1000000:=fun i hi=>by have:=h.win1 i hi;have:=h.next;omega
theorem Zmr (hi why:Int):∀ (k:Nat) (f:Qo0),hi<f.1→Qtv hi why k f=f
 | 0,f,h=>rfl
 | k+1,f,h=>by unfold Qtv;rw [if_neg (by omega)]
theorem Zas (n0:Nat) (hi why:Int) (hh:hi≤1000000) (j1 j2 j3 j4:Int) (j5 j6:List Qn4) (j7:List Evt):∀ (k m:Nat) (f:Qo0) (o:Qrf),Zk1 f→(f.2.2.2.1.length<k∨hi<f.1)→k<m→o.length+k≤100000000 →
  ∃ q,Qnd n0 m hi why f.1 f.2.1 f.2.2.1 f.2.2.2.1 f.2.2.2.2.1 f.2.2.2.2.2.1 f.2.2.2.2.2.2 j1 j2 j3 j4 j5 j6 j7 o=some ((Qtv hi why k f,q,()),())
 | k,0,f,o,_,_,h,_=>by omega
 | 0,m+1,f,o,hf,hk,h,ho=>by
  have hs:=hf.sm
  have hn:hi<f.1:=hk.elim (fun h=>absurd h (by omega)) id
  obtain ⟨n,t,r,w,l,a,b⟩:=f
  have:=(Zbp (Qnd n0 m) hi why n t r w l a b j1 j2 j3 j4 j5 j6 j7 o hs.next hh hs.ring hs.win (by have:=hf.log;have:=hf.next;simp only at *;omega) (by omega) hf.wnn).1 hn
  exact ⟨o,this⟩
 | k+1,m+1,f,o,hf,hk,h,ho=>by
  have hs:=hf.sm
  obtain ⟨n,t,r,w,l,a,b⟩:=f
  have st:=Zbp (Qnd n0 m) hi why n t r w l a b j1 j2 j3 j4 j5 j6 j7 o hs.next hh hs.ring hs.win (by have:=hf.log;have:=hf.next;simp only at *;omega) (by omega) hf.wnn
  by_cases hn:n≤hi
  ·obtain ⟨o',ho',e⟩:=st.2 hn
   obtain ⟨a1,a2,a3⟩:=Zjg (why:=why) hf hn hh
   have:=Zas n0 hi why hh j1 j2 j3 j4 j5 j6 j7 k m (Qp7 hi why (n,t,r,w,l,a,b)) o' a1 (by
    rcases a3 with a3 | a3
    ·exact .inr a3
    ·rcases hk with hk | hk
     ·exact .inl (by omega)
     ·exact absurd hn (by simp only at hk;omega)) (by omega) (by omega)
   obtain ⟨q,hq⟩:=this
   refine ⟨q,Eq.trans e (hq.trans ?_)⟩
   rw [show Qtv hi why (k+1) (n,t,r,w,l,a,b)=Qtv hi why k (Qp7 hi why (n,t,r,w,l,a,b)) from if_pos hn]
  ·refine ⟨o,Eq.trans (st.1 (by omega)) ?_⟩
   rw [show Qtv hi why (k+1) (n,t,r,w,l,a,b)=(n,t,r,w,l,a,b) from if_neg hn]
theorem Zeo {f:Qo0} (h:Zk1 f) (hi why:Int):∃ q,Quc f hi why=some ((Qwu f hi why,q,()),()):=by
 show ∃ q,Qsv (Qp6 1099511627776 1099511627776) f hi why=_
 unfold Qsv Qwu
 have hn:=h.next
 rw [cdn (by omega)]
 by_cases hh:1000000<hi
 ·rw [cdp hh,if_pos (.inr hh)];exact ⟨_,rfl⟩
 ·rw [cdn hh,if_neg (by omega)]
  have key:∀ m,100000<m→∃ q,Qp6 1099511627776 m hi why (decide (hi>1000000)) f.1 f.2.1 f.2.2.1 (g3 f) (g4 f) (g5 f) (h6 f) 0 0 0 0 [] [] [] []=some ((Qtv hi why (f.2.2.2.1.length+1) f,q,()),()):=by
   intro m hm
   obtain ⟨m,rfl⟩:∃ m',m=m'+1:=⟨m - 1,by omega⟩
   have e:Qp6 1099511627776 (m+1) hi why (decide (hi>1000000)) f.1 f.2.1 f.2.2.1 (g3 f) (g4 f) (g5 f) (h6 f) 0 0 0 0 [] [] [] []=Qnd 1099511627776 (m+1) hi why f.1 f.2.1 f.2.2.1 f.2.2.2.1 f.2.2.2.2.1 f.2.2.2.2.2.1 f.2.2.2.2.2.2 0 0 0 0 [] [] [] []:=rfl
   rw [e]
   have:=h.sm.win
   exact Zas 1099511627776 hi why (by omega) 0 0 0 0 [] [] [] (f.2.2.2.1.length+1) (m+1) f [] h (.inl (by omega)) (by omega) (by simp;omega)
  exact key 1099511627776 (by decide)
theorem Zt8 (a b:Int):(if a>b then a else b)=max b a:=by split<;>omega
theorem Z3q (f:Qo0) (top:Int):Qnt f top=some ((Ql8 f top,()),()):=by
 unfold Qnt Ql8
 by_cases h1:0<f.1
 ·rw [cdp h1]
  by_cases h2:top≤1000000
  ·rw [cdp h2,Zt8,if_pos ⟨h1,h2⟩]
  ·rw [cdn h2,if_neg (by omega)]
 ·rw [cdn h1,if_neg (by omega)]
theorem Zk4 (f:Qo0) (next:Int) (h:-1000000000000≤next∧next≤1000000000000):Qu8 f next=some ((Z6u f next,()),()):=by
 unfold Qu8 Z6u
 by_cases h1:0<f.1
 ·rw [cdp h1,if_pos h1,Qq3 (by omega) (by omega),Z3q];rfl
 ·rw [cdn h1,if_neg h1]
  by_cases h2:1≤next
  ·rw [cdp h2]
   by_cases h3:next≤1000000
   ·rw [cdp h3,if_pos ⟨h2,h3⟩]
   ·rw [cdn h3,if_neg (by omega)]
  ·rw [cdn h2,if_neg (by omega)]
theorem Z8i (n:Nat) (l:List Qn4) (x:Qn4) (hl:l.length≤1000):∀ (k m i:Nat) (acc:List Qn4),i+k=l.length→k<m→acc.length≤2000+i →
  Qkv n m l true (i:Int) x.1 x.2 acc=some ((acc++l.drop i,true,()),())
 | k,0,i,acc,_,h,_=>by omega
 | 0,m+1,i,acc,hk,h,ha=>by
  show Qkq (Qkv n m) l true (i:Int) x.1 x.2 acc=_
  unfold Qkq
  rw [cdn (by omega),List.drop_eq_nil_of_le (by omega),List.append_nil];rfl
 | k+1,m+1,i,acc,hk,h,ha=>by
  show Qkq (Qkv n m) l true (i:Int) x.1 x.2 acc=_
  have hi:i<l.length:=by omega
  unfold Qkq
  rw [cdp (by omega),nt,cond_false]
  unfold Qqz
  rw [ct (idx (by omega)),cbp (by omega),Qqh (by omega),Qk9,Qkm hi,Z8i n l x hl k m (i+1) _ (by omega) (by omega) (by rw [List.length_append,List.length_singleton];omega),List.drop_eq_getElem_cons hi,List.append_assoc];rfl
theorem Z8a (n:Nat) (l:List Qn4) (x:Qn4) (hl:l.length≤1000):∀ (k m i:Nat) (acc:List Qn4),i+k=l.length→k<m→acc.length≤i→(∀ y∈l,y.1≠x.1) →
  Qkv n m l false (i:Int) x.1 x.2 acc=some ((acc++Zjy Z99 x (l.drop i),true,()),())
 | k,0,i,acc,_,h,_,_=>by omega
 | 0,m+1,i,acc,hk,h,ha,hx=>by
  show Qkq (Qkv n m) l false (i:Int) x.1 x.2 acc=_
  unfold Qkq
  rw [cdn (by omega),List.drop_eq_nil_of_le (by omega),nf,cond_true,cbp (by omega)];rfl
 | k+1,m+1,i,acc,hk,h,ha,hx=>by
  show Qkq (Qkv n m) l false (i:Int) x.1 x.2 acc=_
  have hi:i<l.length:=by omega
  unfold Qkq
  rw [cdp (by omega),nf,cond_true,ct (idx (by omega)),Qk9,Qkm hi,List.drop_eq_getElem_cons hi]
  by_cases hc:x.1<l[i].1
  ·rw [cdp hc,cbp (by omega),ct (idx (by omega)),cbp (by rw [List.length_append,List.length_singleton];omega),Qqh (by omega),Z8i n l x hl k m (i+1) _ (by omega) (by omega) (by rw [List.length_append,List.length_append,List.length_singleton,List.length_singleton];omega)]
   rw [show Zjy Z99 x (l[i]::l.drop (i+1))=x::l[i]::l.drop (i+1) from if_pos hc,List.append_assoc,List.append_assoc];rfl
  ·rw [cdn hc]
   unfold Qqz
   rw [ct (idx (by omega)),cbp (by omega),Qqh (by omega),Qk9,Qkm hi,Z8a n l x hl k m (i+1) _ (by omega) (by omega) (by rw [List.length_append,List.length_singleton];omega) hx]
   rw [show Zjy Z99 x (l[i]::l.drop (i+1))=l[i]::Zjy Z99 x (l.drop (i+1)) from if_neg hc,List.append_assoc];rfl
theorem Zj8 (l:List Qn4) (next:Int) (x:Qn4) (hl:l.length≤1000) (h1:0≤next∧next≤1000000000) (h2:0≤x.1∧x.1≤1000000000):∃ b,Qwt l next x=some ((Zos l next x,b,()),()):=by
 show ∃ b,Qrm (Qkv 1099511627776 1099511627776) l next x=_
 unfold Qrm Zos
 rw [Zok _ _ (by omega),Qq3 (by omega) (by omega)]
 dsimp only [Option.bind_some]
 by_cases a1:x.1<next
 ·rw [cdp a1,if_pos (.inl a1)];exact ⟨_,rfl⟩
 rw [cdn a1]
 by_cases a2:8≤x.1 - next
 ·rw [cdp a2,if_pos (.inr (.inl a2))];exact ⟨_,rfl⟩
 rw [cdn a2]
 cases hg:Zn1 l x.1 with
 | some y=>rw [cond_true,if_pos (.inr (.inr rfl))];exact ⟨_,rfl⟩
 | none=>
  rw [cond_false,if_neg (by simp [a1,a2])]
  have:=Z8a 1099511627776 l x hl l.length 1099511627776 0 [] (by omega) (by omega) (by simp) (Qwf.1 hg)
  rw [List.drop_zero,List.nil_append] at this
  exact ⟨true,this⟩
theorem Zli {f:Qo0} (h:FOk f) (i:Qn4) (hi:i.2.size≤1000000):Qug f i=some ((Z70 f i,()),()):=by
 unfold Qug Z70
 have hn:=h.next
 by_cases a1:f.1=0
 ·rw [Z2n a1,if_pos (.inl a1)]
 rw [Z0t a1]
 by_cases a2:i.1<1
 ·rw [cdp a2,if_pos (.inr (.inl a2))]
 rw [cdn a2]
 by_cases a3:1000000<i.1
 ·rw [cdp a3,if_pos (.inr (.inr (.inl a3)))]
 rw [cdn a3]
 by_cases a4:12<i.2.size
 ·rw [cdp (by omega),if_pos (.inr (.inr (.inr a4)))]
 rw [cdn (by omega),if_neg (by omega),Z3q]
 dsimp only [Option.bind_some]
 have hk:=Qv8 h i.1
 have e:=(Z3c f i.1).1
 obtain ⟨b,hb⟩:=Zj8 (Ql8 f i.1).2.2.2.1 (Ql8 f i.1).1 i hk.sm.win (by omega) (by omega)
 rw [show (g3 (Ql8 f i.1))=(Ql8 f i.1).2.2.2.1 from rfl,hb]
 dsimp only [Option.bind_some]
 have hp:=Zmh (next:=(Ql8 f i.1).1) (x:=i) hk.win (fun j hj=>by have:=hk.win1 j hj;omega) (by omega)
 exact Zg4 ((Ql8 f i.1).1,(Ql8 f i.1).2.1,(Ql8 f i.1).2.2.1,Zos (Ql8 f i.1).2.2.2.1 (Ql8 f i.1).1 i,(Ql8 f i.1).2.2.2.2) (Zk1.sm ⟨by simp only;omega,hk.top,hk.ring,hk.ring1,hk.ringl,hp.1,hp.2,hk.log,hk.tries,hk.due⟩) (fun g=>some ((g,()),()))
theorem Zo9 (a b:Int):Qla (a,b)=some ((decide (1≤a∧a≤b∧b≤1000000),()),()):=by
 unfold Qla
 simp only [cp]
 by_cases h1:1≤a<;>by_cases h2:a≤b<;>by_cases h3:b≤1000000<;>simp [h1,h2,h3]
theorem Zll {f:Qo0} (h:FOk f) (lo hi:Int):Qud f lo hi=some ((Z6y f lo hi,()),()):=by
 unfold Qud Z6y
 have hn:=h.next
 by_cases a1:f.1=0
 ·rw [Z2n a1,if_pos (.inl a1)]
 rw [Z0t a1,Zo9]
 dsimp only [Option.bind_some]
 by_cases a2:1≤lo∧lo≤hi∧hi≤1000000
 ·rw [decide_eq_true a2,nt,cond_false,if_neg (by omega),Z3q]
  dsimp only [Option.bind_some]
  by_cases b1:(Ql8 f hi).1<lo
  ·rw [cdp b1,if_pos (.inl b1)]
  rw [cdn b1]
  by_cases b2:hi<(Ql8 f hi).1
  ·rw [cdp b2,if_pos (.inr b2)]
  rw [cdn b2,if_neg (by omega)]
  have hk:=Qv8 h hi
  have e:=(Z3c f hi).1
  obtain ⟨q,hq⟩:=Zeo (hk.to' (by omega)) hi 1
  rw [hq]
  dsimp only [Option.bind_some]
  exact Zg4 _ (Z52 (hk.to' (by omega)) hi 1).1.sm (fun g=>some ((g,()),()))
 ·rw [decide_eq_false a2,nf,cond_true,if_pos (by omega)]
theorem Zkd {f:Qo0} (h:FOk f):Qu6 f=some ((match Zix f with | some s=>(s,true,()) | none=>((0,0),false,())),()):=by
 unfold Qu6 Zix
 have hn:=h.next
 have hs:=h.sm
 obtain ⟨n,t,r,w,l,a,b⟩:=f
 simp only at hn ⊢
 cases w with
 | nil=>
  dsimp only
  rw [cdn (by simp)]
  by_cases a1:n=0
  ·rw [Z2n a1,if_pos (.inl a1)]
  rw [Z0t a1]
  by_cases a2:t<n
  ·rw [cdp a2,if_pos (.inr a2)]
  ·rw [cdn a2,if_neg (by omega)]
 | cons x q=>
  have hx:=h.win1 x (List.mem_cons_self ..)
  have hw:=hs.win
  simp only at hx hw
  dsimp only
  rw [cdp (by show (0:Int)<((q.length+1:Nat):Int);omega),Zf6 _ (by show (x::q).length≤_;omega)]
  dsimp only [Option.bind_some]
  show (bif n==0 then _ else bif decide (IntKind.wrap .i64 (x.1 - 1)<n) then _ else some (((n,IntKind.wrap .i64 (x.1 - 1)),true,()),()))=_
  rw [Qq3 (by omega) (by omega)]
  by_cases a1:n=0
  ·rw [Z2n a1,if_pos (.inl a1)]
  rw [Z0t a1]
  by_cases a2:x.1 - 1<n
  ·rw [cdp a2,if_pos (.inr a2)]
  ·rw [cdn a2,if_neg (fun e=>e.elim a1 a2)]
theorem Zo5 (a b now:Int):Qys (a,b) now=some ((decide (a=0∨b≤now),()),()):=by
 unfold Qys
 by_cases h:a=0
 ·rw [Z2n h,decide_eq_true (.inl h)]
 ·rw [Z0t h]
  congr 3
  exact decide_eq_decide.2 ⟨.inr,fun x=>x.elim (fun e=>absurd e h) id⟩
theorem Zkp (a b now:Int) (h:0≤a∧a≤2) (hn:0≤now∧now≤1125899906842624):Qzq (a,b) now=some (((a+1,now+2*2 ^ a.toNat),()),()):=by
 have key:∀ n m,Qnv n (m+4) now 2 0 a b 0 0=some (((a+1,now+2*2 ^ a.toNat),()),()):=by
  intro n m
  have st:∀ (m:Nat) (g i:Int),0≤g∧g≤100→0≤i∧i≤10→Qnv n (m+1) now g i a b 0 0=if i<a then (if i<3 then Qnv n m now (g*2) (i+1) a b 0 0 else some (((a+1,now+g),()),())) else some (((a+1,now+g),()),()):=by
   intro m g i hg hi
   show Qsm (Qnv n m) now g i a b 0 0=_
   unfold Qsm
   rw [Qq3 (x:=g*2) (by omega) (by omega),Qq3 (x:=i+1) (by omega) (by omega),Qq3 (x:=a+1) (by omega) (by omega),Qq3 (x:=now+g) (by omega) (by omega),cp,cp]
  have h3:a=0∨a=1∨a=2:=by omega
  rcases h3 with rfl | rfl | rfl
  ·rw [st _ _ _ (by omega) (by omega),if_neg (by omega)];rfl
  ·rw [st _ _ _ (by omega) (by omega),if_pos (by omega),if_pos (by omega),st _ _ _ (by omega) (by omega),if_neg (by omega)];rfl
  ·rw [st _ _ _ (by omega) (by omega),if_pos (by omega),if_pos (by omega),st _ _ _ (by omega) (by omega),if_pos (by omega),if_pos (by omega),st _ _ _ (by omega) (by omega),if_neg (by omega)];rfl
 exact key 1099511627776 1099511627772
theorem Zms {f:Qo0} (h:FOk f) (now:Int) (hn:0≤now∧now≤1125899906842624):Qvl f now=some (((Zo2 f now).1,(match (Zo2 f now).2 with | some s=>(s,true,()) | none=>((0,0),false,()))),()):=by
 unfold Qvl Zo2
 rw [Zkd h]
 dsimp only [Option.bind_some]
 have hn1:=h.next
 have ht:=h.tries
 cases hw:Zix f with
 | none=>rfl
 | some s=>
  dsimp only
  rw [nt,cond_false,show h5 f=(f.2.2.2.2.2.1,f.2.2.2.2.2.2) from rfl,Zo5]
  dsimp only [Option.bind_some]
  by_cases a1:f.2.2.2.2.2.1=0∨f.2.2.2.2.2.2≤now
  ·rw [decide_eq_true a1,nt,cond_false,if_pos a1]
   have hf:f.1≠0:=by intro e;unfold Zix at hw;simp only [e,true_or,if_true] at hw;cases hw
   by_cases a2:3≤f.2.2.2.2.2.1
   ·rw [cdp a2,if_pos a2]
    obtain ⟨q,hq⟩:=Zeo (h.to' (by omega)) s.2 2
    rw [hq]
    dsimp only [Option.bind_some]
    exact Zg4 _ (Z52 (h.to' (by omega)) s.2 2).1.sm (fun g=>some ((g,(0,0),false,()),()))
   ·rw [cdn a2,if_neg a2,Zkp _ _ _ (by omega) hn]
    rfl
  ·rw [decide_eq_false a1,nf,cond_true,if_neg a1]
end Go.PE
