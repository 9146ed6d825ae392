/-
  Plain lemmas on the functions.
  Conditions: none.
-/
import Derived.Test.YtmfiijdlhjajcaaGreatDoorNodeResumesPFeedRef
set_option linter.unusedVariables false
set_option linter.unusedSimpArgs false
set_option maxRecDepth 20000
namespace Go.PE
theorem Zdr (l:List Qnf) (h:l.length≤1000000):Qmq l=some ((Zmf l,()),()):=by
 unfold Qmq
 cases l with
 | nil=>rfl
 | cons x r=>rw [List.length_cons] at h ⊢;rw [Z1m (by omega),cdp (by omega)];rfl
theorem Zgc (g:Qnq) (h:FSm g) {R:Type} (K:Qnq→Option R):(Option.bind (Ql8 g) fun r=>K r.1.1)=K (Qwl g):=by
 obtain ⟨q,e⟩:=Zkx g h
 rw [e];rfl
theorem Zax (L) (hi why:Int) (n t:Int) (r w:List Qnf) (l:List Evt) (a b:Int) (j1 j2 j3 j4:Int) (j5 j6:List Qnf) (j7:List Evt) (o:List (Int × Int))
  (h1:0≤n∧n≤1000001) (hh:hi≤1000000) (h2:r.length≤6) (h3:w.length≤1000) (h4:l.length≤5000000) (h5:o.length≤100000000) (hw:∀ i∈w,0≤i.1∧i.1≤1000000) :
  (hi<n→Qn1 L hi why n t r w l a b j1 j2 j3 j4 j5 j6 j7 o=some (((n,t,r,w,l,a,b),o,()),())) ∧
  (n≤hi→∃ o',o'.length≤o.length+1∧Qn1 L hi why n t r w l a b j1 j2 j3 j4 j5 j6 j7 o=L hi why (Qot hi why (n,t,r,w,l,a,b)).1 (Qot hi why (n,t,r,w,l,a,b)).2.1 (Qot hi why (n,t,r,w,l,a,b)).2.2.1 (Qot hi why (n,t,r,w,l,a,b)).2.2.2.1 (Qot hi why (n,t,r,w,l,a,b)).2.2.2.2.1 (Qot hi why (n,t,r,w,l,a,b)).2.2.2.2.2.1 (Qot hi why (n,t,r,w,l,a,b)).2.2.2.2.2.2 j1 j2 j3 j4 j5 j6 j7 o'):=by
 have hsm:∀ (n':Int) (l':List Evt),0≤n'∧n'≤1000001→l'.length≤5000001→FSm (n',t,r,w,l',0,0):=fun n' l' q1 q2=>⟨q1,h2,h3,by simp only;omega⟩
 have hla:∀ x:Evt,(l++[x]).length≤5000001:=fun x=>by rw [List.length_append,List.length_singleton];omega
 have hJ2:n≤hi→∃ o',o'.length≤o.length+1∧Qn0 hi n l why o t r w L j1 j2 j3 j4 j5 j6 j7=L hi why (hi+1) t r w (l++[Zdy n hi why]) 0 0 j1 j2 j3 j4 j5 j6 j7 o':=by
  intro hn
  refine ⟨o++[(n,hi)],by rw [List.length_append,List.length_singleton];omega,?_⟩
  unfold Qn0
  rw [cdp hn,Zgh _ _ _ _ (by omega)]
  dsimp only [Option.bind_some]
  rw [cbp (by omega),Qpx (by omega) (by omega),cdn (by omega)]
 refine ⟨fun hn=>?_,fun hn=>?_⟩
 ·unfold Qn1
  rw [cdn (by omega)]
 ·unfold Qn1
  rw [cdp hn]
  cases w with
  | nil=>
   rw [cdn (by simp)]
   obtain ⟨o',q1,q2⟩:=hJ2 hn
   refine ⟨o',q1,q2.trans ?_⟩
   have e:Qot hi why (n,t,r,[],l,a,b)=(hi+1,t,r,[],l++[Zdy n hi why],0,0):=by
    unfold Qot;simp only;rw [if_pos hn];simp only;rw [if_neg (by omega)]
   rw [e]
  | cons x q=>
   have hx:=hw x (List.mem_cons_self ..)
   rw [cdp (by rw [List.length_cons];omega),Zdr _ (by omega)]
   dsimp only [Option.bind_some]
   show ∃ o':List (Int × Int),o'.length≤o.length+1∧(bif decide (x.1≤hi) then _ else _)=_
   by_cases hxh:x.1≤hi
   ·rw [cdp hxh]
    show ∃ o':List (Int × Int),o'.length≤o.length+1∧(bif decide (IntKind.wrap .i64 (x.1 - 1) ≥ n) then _ else _)=_
    rw [Qpx (x:=x.1 - 1) (by omega) (by omega)]
    by_cases h7:n≤x.1 - 1
    ·rw [cdp h7]
     show ∃ o':List (Int × Int),o'.length≤o.length+1∧(Option.bind (Qon l n (IntKind.wrap .i64 (x.1 - 1)) why) _)=_
     rw [Qpx (x:=x.1 - 1) (by omega) (by omega),Zgh _ _ _ _ (by omega)]
     dsimp only [Option.bind_some]
     rw [cbp (by omega)]
     show ∃ o':List (Int × Int),o'.length≤o.length+1∧(bif decide (IntKind.wrap .i64 ((IntKind.wrap .i64 (x.1 - 1))+1)≤hi) then Option.bind (Ql8 (IntKind.wrap .i64 ((IntKind.wrap .i64 (x.1 - 1))+1),t,r,x::q,l++[Zdy n (x.1 - 1) why],0,0)) _ else _)=_
     rw [Qpx (x:=x.1 - 1) (by omega) (by omega),Qpx (x:=x.1 - 1+1) (by omega) (by omega),cdp (by omega)]
     refine ⟨o++[(n,IntKind.wrap .i64 (x.1 - 1))],by rw [List.length_append,List.length_singleton];omega,?_⟩
     have e:Qot hi why (n,t,r,x::q,l,a,b)=Qwl (x.1 - 1+1,t,r,x::q,l++[Zdy n (x.1 - 1) why],0,0):=by
      unfold Qot;simp only;rw [if_pos hxh,if_pos h7];simp only;rw [if_pos (by omega)]
     rw [e]
     exact Zgc (x.1 - 1+1,t,r,x::q,l++[Zdy n (x.1 - 1) why],0,0) (hsm _ _ (by omega) (hla _)) (fun g=>L hi why g.1 g.2.1 g.2.2.1 g.2.2.2.1 g.2.2.2.2.1 g.2.2.2.2.2.1 g.2.2.2.2.2.2 j1 j2 j3 j4 j5 j6 j7 (o++[(n,IntKind.wrap .i64 (x.1 - 1))]))
    ·rw [cdn h7]
     refine ⟨o,by omega,?_⟩
     unfold Qr3
     rw [cdp hn]
     have e:Qot hi why (n,t,r,x::q,l,a,b)=Qwl (n,t,r,x::q,l,0,0):=by
      unfold Qot;simp only;rw [if_pos hxh,if_neg h7];simp only;rw [if_pos hn]
     rw [e]
     exact Zgc (n,t,r,x::q,l,0,0) (hsm _ _ (by omega) (by omega)) (fun g=>L hi why g.1 g.2.1 g.2.2.1 g.2.2.2.1 g.2.2.2.2.1 g.2.2.2.2.2.1 g.2.2.2.2.2.2 j1 j2 j3 j4 j5 j6 j7 o)
   ·rw [cdn hxh]
    obtain ⟨o',q1,q2⟩:=hJ2 hn
    refine ⟨o',q1,q2.trans ?_⟩
    have e:Qot hi why (n,t,r,x::q,l,a,b)=(hi+1,t,r,x::q,l++[Zdy n hi why],0,0):=by
     unfold Qot;simp only;rw [if_neg hxh,if_pos hn];simp only;rw [if_neg (by omega)]
    rw [e]
theorem Zj3.wnn {f:Qnq} (h:Zj3 f):∀ i∈f.2.2.2.1,0≤i.1∧i.1≤1000000:=fun i hi=>by have:=h.win1 i hi;have:=h.next;omega
theorem Zl7 (hi why:Int):∀ (k:Nat) (f:Qnq),hi<f.1→Qtg hi why k f=f
 | 0,f,h=>rfl
 | k+1,f,h=>by unfold Qtg;rw [if_neg (by omega)]
theorem Z9q (n0:Nat) (hi why:Int) (hh:hi≤1000000) (j1 j2 j3 j4:Int) (j5 j6:List Qnf) (j7:List Evt):∀ (k m:Nat) (f:Qnq) (o:List (Int × Int)),Zj3 f→(f.2.2.2.1.length<k∨hi<f.1)→k<m→o.length+k≤100000000 →
  ∃ q,Qmz n0 m hi why f.1 f.2.1 f.2.2.1 f.2.2.2.1 f.2.2.2.2.1 f.2.2.2.2.2.1 f.2.2.2.2.2.2 j1 j2 j3 j4 j5 j6 j7 o=some ((Qtg hi why k f,q,()),())
 | k,0,f,o,_,_,h,_=>by omega
 | 0,m+1,f,o,hf,hk,h,ho=>by
  have hs:=hf.sm
  have hn:hi<f.1:=hk.elim (fun h=>absurd h (by omega)) id
  obtain ⟨n,t,r,w,l,a,b⟩:=f
  have:=(Zax (Qmz n0 m) hi why n t r w l a b j1 j2 j3 j4 j5 j6 j7 o hs.next hh hs.ring hs.win (by have:=hf.log;have:=hf.next;simp only at *;omega) (by omega) hf.wnn).1 hn
  exact ⟨o,this⟩
 | k+1,m+1,f,o,hf,hk,h,ho=>by
  have hs:=hf.sm
  obtain ⟨n,t,r,w,l,a,b⟩:=f
  have st:=Zax (Qmz n0 m) hi why n t r w l a b j1 j2 j3 j4 j5 j6 j7 o hs.next hh hs.ring hs.win (by have:=hf.log;have:=hf.next;simp only at *;omega) (by omega) hf.wnn
  by_cases hn:n≤hi
  ·obtain ⟨o',ho',e⟩:=st.2 hn
   obtain ⟨a1,a2,a3⟩:=Zi9 (why:=why) hf hn hh
   have:=Z9q n0 hi why hh j1 j2 j3 j4 j5 j6 j7 k m (Qot hi why (n,t,r,w,l,a,b)) o' a1 (by
    rcases a3 with a3 | a3
    ·exact .inr a3
    ·rcases hk with hk | hk
     ·exact .inl (by omega)
     ·exact absurd hn (by simp only at hk;omega)) (by omega) (by omega)
   obtain ⟨q,hq⟩:=this
   refine ⟨q,Eq.trans e (hq.trans ?_)⟩
   rw [show Qtg hi why (k+1) (n,t,r,w,l,a,b)=Qtg hi why k (Qot hi why (n,t,r,w,l,a,b)) from if_pos hn]
  ·refine ⟨o,Eq.trans (st.1 (by omega)) ?_⟩
   rw [show Qtg hi why (k+1) (n,t,r,w,l,a,b)=(n,t,r,w,l,a,b) from if_neg hn]
theorem Zdt {f:Qnq} (h:Zj3 f) (hi why:Int):∃ q,Qtp f hi why=some ((Qvy f hi why,q,()),()):=by
 show ∃ q,Qrz (Qoq 1099511627776 1099511627776) f hi why=_
 unfold Qrz Qvy
 have hn:=h.next
 rw [cdn (by omega)]
 by_cases hh:1000000<hi
 ·rw [cdp hh,if_pos (.inr hh)];exact ⟨_,rfl⟩
 ·rw [cdn hh,if_neg (by omega)]
  have key:∀ m,100000<m→∃ q,Qoq 1099511627776 m hi why (decide (hi>1000000)) f.1 f.2.1 f.2.2.1 (g3 f) (g4 f) (g5 f) (h6 f) 0 0 0 0 [] [] [] []=some ((Qtg hi why (f.2.2.2.1.length+1) f,q,()),()):=by
   intro m hm
   obtain ⟨m,rfl⟩:∃ m',m=m'+1:=⟨m - 1,by omega⟩
   have e:Qoq 1099511627776 (m+1) hi why (decide (hi>1000000)) f.1 f.2.1 f.2.2.1 (g3 f) (g4 f) (g5 f) (h6 f) 0 0 0 0 [] [] [] []=Qmz 1099511627776 (m+1) hi why f.1 f.2.1 f.2.2.1 f.2.2.2.1 f.2.2.2.2.1 f.2.2.2.2.2.1 f.2.2.2.2.2.2 0 0 0 0 [] [] [] []:=rfl
   rw [e]
   have:=h.sm.win
   exact Z9q 1099511627776 hi why (by omega) 0 0 0 0 [] [] [] (f.2.2.2.1.length+1) (m+1) f [] h (.inl (by omega)) (by omega) (by simp;omega)
  exact key 1099511627776 (by decide)
theorem Zrm (a b:Int):(if a>b then a else b)=max b a:=by split<;>omega
theorem Z29 (f:Qnq) (top:Int):Qnm f top=some ((Qkm f top,()),()):=by
 unfold Qnm Qkm
 by_cases h1:0<f.1
 ·rw [cdp h1]
  by_cases h2:top≤1000000
  ·rw [cdp h2,Zrm,if_pos ⟨h1,h2⟩]
  ·rw [cdn h2,if_neg (by omega)]
 ·rw [cdn h1,if_neg (by omega)]
theorem Zja (f:Qnq) (next:Int) (h:-1000000000000≤next∧next≤1000000000000):Qtl f next=some ((Qws f next,()),()):=by
 unfold Qtl Qws
 by_cases h1:0<f.1
 ·rw [cdp h1,if_pos h1,Qpx (by omega) (by omega),Z29];rfl
 ·rw [cdn h1,if_neg h1]
  by_cases h2:1≤next
  ·rw [cdp h2]
   by_cases h3:next≤1000000
   ·rw [cdp h3,if_pos ⟨h2,h3⟩]
   ·rw [cdn h3,if_neg (by omega)]
  ·rw [cdn h2,if_neg (by omega)]
theorem Z7y (n:Nat) (l:List Qnf) (x:Qnf) (hl:l.length≤1000):∀ (k m i:Nat) (acc:List Qnf),i+k=l.length→k<m→acc.length≤2000+i →
  Qkq n m l true (i:Int) x.1 x.2 acc=some ((acc++l.drop i,true,()),())
 | k,0,i,acc,_,h,_=>by omega
 | 0,m+1,i,acc,hk,h,ha=>by
  show Qkk (Qkq n m) l true (i:Int) x.1 x.2 acc=_
  unfold Qkk
  rw [cdn (by omega),List.drop_eq_nil_of_le (by omega),List.append_nil];rfl
 | k+1,m+1,i,acc,hk,h,ha=>by
  show Qkk (Qkq n m) l true (i:Int) x.1 x.2 acc=_
  have hi:i<l.length:=by omega
  unfold Qkk
  rw [cdp (by omega),nt,cond_false]
  unfold Qq6
  rw [ct (idx (by omega)),cbp (by omega),Qrh (by omega),Qka,Qkw hi,Z7y n l x hl k m (i+1) _ (by omega) (by omega) (by rw [List.length_append,List.length_singleton];omega),List.drop_eq_getElem_cons hi,List.append_assoc];rfl
theorem Z6p (n:Nat) (l:List Qnf) (x:Qnf) (hl:l.length≤1000):∀ (k m i:Nat) (acc:List Qnf),i+k=l.length→k<m→acc.length≤i→(∀ y∈l,y.1≠x.1) →
  Qkq n m l false (i:Int) x.1 x.2 acc=some ((acc++Zin Z92 x (l.drop i),true,()),())
 | k,0,i,acc,_,h,_,_=>by omega
 | 0,m+1,i,acc,hk,h,ha,hx=>by
  show Qkk (Qkq n m) l false (i:Int) x.1 x.2 acc=_
  unfold Qkk
  rw [cdn (by omega),List.drop_eq_nil_of_le (by omega),nf,cond_true,cbp (by omega)];rfl
 | k+1,m+1,i,acc,hk,h,ha,hx=>by
  show Qkk (Qkq n m) l false (i:Int) x.1 x.2 acc=_
  have hi:i<l.length:=by omega
  unfold Qkk
  rw [cdp (by omega),nf,cond_true,ct (idx (by omega)),Qka,Qkw hi,List.drop_eq_getElem_cons hi]
  by_cases hc:x.1<l[i].1
  ·rw [cdp hc,cbp (by omega),ct (idx (by omega)),cbp (by rw [List.length_append,List.length_singleton];omega),Qrh (by omega),Z7y n l x hl k m (i+1) _ (by omega) (by omega) (by rw [List.length_append,List.length_append,List.length_singleton,List.length_singleton];omega)]
   rw [show Zin Z92 x (l[i]::l.drop (i+1))=x::l[i]::l.drop (i+1) from if_pos hc,List.append_assoc,List.append_assoc];rfl
  ·rw [cdn hc]
   unfold Qq6
   rw [ct (idx (by omega)),cbp (by omega),Qrh (by omega),Qka,Qkw hi,Z6p n l x hl k m (i+1) _ (by omega) (by omega) (by rw [List.length_append,List.length_singleton];omega) hx]
   rw [show Zin Z92 x (l[i]::l.drop (i+1))=l[i]::Zin Z92 x (l.drop (i+1)) from if_neg hc,List.append_assoc];rfl
theorem Ziz (l:List Qnf) (next:Int) (x:Qnf) (hl:l.length≤1000) (h1:0≤next∧next≤1000000000) (h2:0≤x.1∧x.1≤1000000000):∃ b,Qw2 l next x=some ((Znu l next x,b,()),()):=by
 show ∃ b,Qqx (Qkq 1099511627776 1099511627776) l next x=_
 unfold Qqx Znu
 rw [Zn3 _ _ (by omega),Qpx (by omega) (by omega)]
 dsimp only [Option.bind_some]
 by_cases a1:x.1<next
 ·rw [cdp a1,if_pos (.inl a1)];exact ⟨_,rfl⟩
 rw [cdn a1]
 by_cases a2:8≤x.1 - next
 ·rw [cdp a2,if_pos (.inr (.inl a2))];exact ⟨_,rfl⟩
 rw [cdn a2]
 cases hg:Zmi l x.1 with
 | some y=>rw [cond_true,if_pos (.inr (.inr rfl))];exact ⟨_,rfl⟩
 | none=>
  rw [cond_false,if_neg (by simp [a1,a2])]
  have:=Z6p 1099511627776 l x hl l.length 1099511627776 0 [] (by omega) (by omega) (by simp) (Z04.1 hg)
  rw [List.drop_zero,List.nil_append] at this
  exact ⟨true,this⟩
theorem Zje {f:Qnq} (h:FOk f) (i:Qnf) (hi:i.2.size≤1000000):Qtt f i=some ((Z5t f i,()),()):=by
 unfold Qtt Z5t
 have hn:=h.next
 by_cases a1:f.1=0
 ·rw [Z1t a1,if_pos (.inl a1)]
 rw [Z1m a1]
 by_cases a2:i.1<1
 ·rw [cdp a2,if_pos (.inr (.inl a2))]
 rw [cdn a2]
 by_cases a3:1000000<i.1
 ·rw [cdp a3,if_pos (.inr (.inr (.inl a3)))]
 rw [cdn a3]
 by_cases a4:12<i.2.size
 ·rw [cdp (by omega),if_pos (.inr (.inr (.inr a4)))]
 rw [cdn (by omega),if_neg (by omega),Z29]
 dsimp only [Option.bind_some]
 have hk:=Quf h i.1
 have e:=(Qxv f i.1).1
 obtain ⟨b,hb⟩:=Ziz (Qkm f i.1).2.2.2.1 (Qkm f i.1).1 i hk.sm.win (by omega) (by omega)
 rw [show (g3 (Qkm f i.1))=(Qkm f i.1).2.2.2.1 from rfl,hb]
 dsimp only [Option.bind_some]
 have hp:=Zlf (next:=(Qkm f i.1).1) (x:=i) hk.win (fun j hj=>by have:=hk.win1 j hj;omega) (by omega)
 exact Zgc ((Qkm f i.1).1,(Qkm f i.1).2.1,(Qkm f i.1).2.2.1,Znu (Qkm f i.1).2.2.2.1 (Qkm f i.1).1 i,(Qkm f i.1).2.2.2.2) (Zj3.sm ⟨by simp only;omega,hk.top,hk.ring,hk.ring1,hk.ringl,hp.1,hp.2,hk.log,hk.tries,hk.due⟩) (fun g=>some ((g,()),()))
theorem Zmr (a b:Int):Ql1 (a,b)=some ((decide (1≤a∧a≤b∧b≤1000000),()),()):=by
 unfold Ql1
 simp only [cp]
 by_cases h1:1≤a<;>by_cases h2:a≤b<;>by_cases h3:b≤1000000<;>simp [h1,h2,h3]
theorem Zjx {f:Qnq} (h:FOk f) (lo hi:Int):Qtm f lo hi=some ((Z5w f lo hi,()),()):=by
 unfold Qtm Z5w
 have hn:=h.next
 by_cases a1:f.1=0
 ·rw [Z1t a1,if_pos (.inl a1)]
 rw [Z1m a1,Zmr]
 dsimp only [Option.bind_some]
 by_cases a2:1≤lo∧lo≤hi∧hi≤1000000
 ·rw [decide_eq_true a2,nt,cond_false,if_neg (by omega),Z29]
  dsimp only [Option.bind_some]
  by_cases b1:(Qkm f hi).1<lo
  ·rw [cdp b1,if_pos (.inl b1)]
  rw [cdn b1]
  by_cases b2:hi<(Qkm f hi).1
  ·rw [cdp b2,if_pos (.inr b2)]
  rw [cdn b2,if_neg (by omega)]
  have hk:=Quf h hi
  have e:=(Qxv f hi).1
  obtain ⟨q,hq⟩:=Zdt (hk.to' (by omega)) hi 1
  rw [hq]
  dsimp only [Option.bind_some]
  exact Zgc _ (Z42 (hk.to' (by omega)) hi 1).1.sm (fun g=>some ((g,()),()))
 ·rw [decide_eq_false a2,nf,cond_true,if_pos (by omega)]
theorem Zjq {f:Qnq} (h:FOk f):Qtr f=some ((match Zhk f with | some s=>(s,true,()) | none=>((0,0),false,())),()):=by
 unfold Qtr Zhk
 have hn:=h.next
 have hs:=h.sm
 obtain ⟨n,t,r,w,l,a,b⟩:=f
 simp only at hn ⊢
 cases w with
 | nil=>
  dsimp only
  rw [cdn (by simp)]
  by_cases a1:n=0
  ·rw [Z1t a1,if_pos (.inl a1)]
  rw [Z1m a1]
  by_cases a2:t<n
  ·rw [cdp a2,if_pos (.inr a2)]
  ·rw [cdn a2,if_neg (by omega)]
 | cons x q=>
  have hx:=h.win1 x (List.mem_cons_self ..)
  have hw:=hs.win
  simp only at hx hw
  dsimp only
  rw [cdp (by show (0:Int)<((q.length+1:Nat):Int);omega),Zdr _ (by show (x::q).length≤_;omega)]
  dsimp only [Option.bind_some]
  show (bif n==0 then _ else bif decide (IntKind.wrap .i64 (x.1 - 1)<n) then _ else some (((n,IntKind.wrap .i64 (x.1 - 1)),true,()),()))=_
  rw [Qpx (by omega) (by omega)]
  by_cases a1:n=0
  ·rw [Z1t a1,if_pos (.inl a1)]
  rw [Z1m a1]
  by_cases a2:x.1 - 1<n
  ·rw [cdp a2,if_pos (.inr a2)]
  ·rw [cdn a2,if_neg (fun e=>e.elim a1 a2)]
theorem Znh (a b now:Int):Qxw (a,b) now=some ((decide (a=0∨b≤now),()),()):=by
 unfold Qxw
 by_cases h:a=0
 ·rw [Z1t h,decide_eq_true (.inl h)]
 ·rw [Z1m h]
  congr 3
  exact decide_eq_decide.2 ⟨.inr,fun x=>x.elim (fun e=>absurd e h) id⟩
theorem Zk2 (a b now:Int) (h:0≤a∧a≤2) (hn:0≤now∧now≤1125899906842624):Qyo (a,b) now=some (((a+1,now+2*2 ^ a.toNat),()),()):=by
 have key:∀ n m,Qnl n (m+4) now 2 0 a b 0 0=some (((a+1,now+2*2 ^ a.toNat),()),()):=by
  intro n m
  have st:∀ (m:Nat) (g i:Int),0≤g∧g≤100→0≤i∧i≤10→Qnl n (m+1) now g i a b 0 0=if i<a then (if i<3 then Qnl n m now (g*2) (i+1) a b 0 0 else some (((a+1,now+g),()),())) else some (((a+1,now+g),()),()):=by
   intro m g i hg hi
   show Qs7 (Qnl n m) now g i a b 0 0=_
   unfold Qs7
   rw [Qpx (x:=g*2) (by omega) (by omega),Qpx (x:=i+1) (by omega) (by omega),Qpx (x:=a+1) (by omega) (by omega),Qpx (x:=now+g) (by omega) (by omega),cp,cp]
  have h3:a=0∨a=1∨a=2:=by omega
  rcases h3 with rfl | rfl | rfl
  ·rw [st _ _ _ (by omega) (by omega),if_neg (by omega)];rfl
  ·rw [st _ _ _ (by omega) (by omega),if_pos (by omega),if_pos (by omega),st _ _ _ (by omega) (by omega),if_neg (by omega)];rfl
  ·rw [st _ _ _ (by omega) (by omega),if_pos (by omega),if_pos (by omega),st _ _ _ (by omega) (by omega),if_pos (by omega),if_pos (by omega),st _ _ _ (by omega) (by omega),if_neg (by omega)];rfl
 exact key 1099511627776 1099511627772
theorem Zli {f:Qnq} (h:FOk f) (now:Int) (hn:0≤now∧now≤1125899906842624):Quw f now=some (((Zmw f now).1,(match (Zmw f now).2 with | some s=>(s,true,()) | none=>((0,0),false,()))),()):=by
 unfold Quw Zmw
 rw [Zjq h]
 dsimp only [Option.bind_some]
 have hn1:=h.next
 have ht:=h.tries
 cases hw:Zhk f with
 | none=>rfl
 | some s=>
  dsimp only
  rw [nt,cond_false,show h5 f=(f.2.2.2.2.2.1,f.2.2.2.2.2.2) from rfl,Znh]
  dsimp only [Option.bind_some]
  by_cases a1:f.2.2.2.2.2.1=0∨f.2.2.2.2.2.2≤now
  ·rw [decide_eq_true a1,nt,cond_false,if_pos a1]
   have hf:f.1≠0:=by intro e;unfold Zhk at hw;simp only [e,true_or,if_true] at hw;cases hw
   by_cases a2:3≤f.2.2.2.2.2.1
   ·rw [cdp a2,if_pos a2]
    obtain ⟨q,hq⟩:=Zdt (h.to' (by omega)) s.2 2
    rw [hq]
    dsimp only [Option.bind_some]
    exact Zgc _ (Z42 (h.to' (by omega)) s.2 2).1.sm (fun g=>some ((g,(0,0),false,()),()))
   ·rw [cdn a2,if_neg a2,Zk2 _ _ _ (by omega) hn]
    rfl
  ·rw [decide_eq_false a1,nf,cond_true,if_neg a1]
end Go.PE
