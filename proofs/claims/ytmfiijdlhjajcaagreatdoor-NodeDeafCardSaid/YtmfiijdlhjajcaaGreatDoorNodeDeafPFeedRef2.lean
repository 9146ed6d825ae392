/-
  Plain lemmas on the functions.
  Conditions: none.
-/
import Derived.Test.YtmfiijdlhjajcaaGreatDoorNodeDeafPFeedRef
set_option linter.unusedVariables false
set_option linter.unusedSimpArgs false
set_option maxRecDepth 20000
namespace Go.PE
theorem Zes (l:List Qtl) (h:l.length≤1000000):Qmk l=some ((Zt8 l,()),()):=by
 unfold Qmk
 cases l with
 | nil=>rfl
 | cons x r=>rw [List.length_cons] at h ⊢;rw [Zdd (by omega),cdp (by omega)];rfl
theorem Zsz (L) (hi why:Int) (b0:Bool) (a b:Int) (c d:List Qtl) (e:List Evt) (f g j1 j2 j3 j4:Int) (j5 j6:List Qtl) (j7:List Evt) (o:List (Int × Int)):Qug L hi why b0 a b c d e f g j1 j2 j3 j4 j5 j6 j7 o=Qm2 L hi why a b c d e f g j1 j2 j3 j4 j5 j6 j7 o:=rfl
theorem Ztr (g:Quh) (h:FSm g) {R:Type} (K:Quh→Option R):∃ q:List Qtl,(Option.bind (Qku g) fun r=>K r.1.1)=K (Z6w g):=by
 obtain ⟨q,e⟩:=Zgu g h
 exact ⟨q,by rw [e];rfl⟩
theorem Zi0 (g:Quh) (h:FSm g) {R:Type} (K:Quh→Option R):(Option.bind (Qku g) fun r=>K r.1.1)=K (Z6w g):=by
 obtain ⟨q,e⟩:=Zgu g h
 rw [e];rfl
theorem Zd9 (L) (hi why:Int) (n t:Int) (r w:List Qtl) (l:List Evt) (a b:Int) (j1 j2 j3 j4:Int) (j5 j6:List Qtl) (j7:List Evt) (o:List (Int × Int))
  (h1:0≤n∧n≤1000001) (hh:hi≤1000000) (h2:r.length≤6) (h3:w.length≤1000) (h4:l.length≤5000000) (h5:o.length≤100000000) (hw:∀ i∈w,0≤i.1∧i.1≤1000000) :
  (hi<n→Qm2 L hi why n t r w l a b j1 j2 j3 j4 j5 j6 j7 o=some (((n,t,r,w,l,a,b),o,()),())) ∧
  (n≤hi→∃ o',o'.length≤o.length+1∧Qm2 L hi why n t r w l a b j1 j2 j3 j4 j5 j6 j7 o=L hi why (Z0b hi why (n,t,r,w,l,a,b)).1 (Z0b hi why (n,t,r,w,l,a,b)).2.1 (Z0b hi why (n,t,r,w,l,a,b)).2.2.1 (Z0b hi why (n,t,r,w,l,a,b)).2.2.2.1 (Z0b hi why (n,t,r,w,l,a,b)).2.2.2.2.1 (Z0b hi why (n,t,r,w,l,a,b)).2.2.2.2.2.1 (Z0b hi why (n,t,r,w,l,a,b)).2.2.2.2.2.2 j1 j2 j3 j4 j5 j6 j7 o'):=by
 have hsm:∀ (n':Int) (l':List Evt),0≤n'∧n'≤1000001→l'.length≤5000001→FSm (n',t,r,w,l',0,0):=fun n' l' q1 q2=>⟨q1,h2,h3,by simp only;omega⟩
 have hla:∀ x:Evt,(l++[x]).length≤5000001:=fun x=>by rw [List.length_append,List.length_singleton];omega
 have hJ2:n≤hi→∃ o',o'.length≤o.length+1∧Qn2 hi n l why o t r w L j1 j2 j3 j4 j5 j6 j7=L hi why (hi+1) t r w (l++[Zrv n hi why]) 0 0 j1 j2 j3 j4 j5 j6 j7 o':=by
  intro hn
  refine ⟨o++[(n,hi)],by rw [List.length_append,List.length_singleton];omega,?_⟩
  unfold Qn2
  rw [cdp hn,Zgz _ _ _ _ (by omega)]
  dsimp only [Option.bind_some]
  rw [cbp (by omega),Qsk (by omega) (by omega),cdn (by omega)]
 refine ⟨fun hn=>?_,fun hn=>?_⟩
 ·unfold Qm2
  rw [cdn (by omega)]
 ·unfold Qm2
  rw [cdp hn]
  cases w with
  | nil=>
   rw [cdn (by simp)]
   obtain ⟨o',q1,q2⟩:=hJ2 hn
   refine ⟨o',q1,q2.trans ?_⟩
   have e:Z0b hi why (n,t,r,[],l,a,b)=(hi+1,t,r,[],l++[Zrv n hi why],0,0):=by
    unfold Z0b;simp only;rw [if_pos hn];simp only;rw [if_neg (by omega)]
   rw [e]
  | cons x q=>
   have hx:=hw x (List.mem_cons_self ..)
   rw [cdp (by rw [List.length_cons];omega),Zes _ (by omega)]
   dsimp only [Option.bind_some]
   show ∃ o':List (Int × Int),o'.length≤o.length+1∧(bif decide (x.1≤hi) then _ else _)=_
   by_cases hxh:x.1≤hi
   ·rw [cdp hxh]
    show ∃ o':List (Int × Int),o'.length≤o.length+1∧(bif decide (IntKind.wrap .i64 (x.1 - 1) ≥ n) then _ else _)=_
    rw [Qsk (x:=x.1 - 1) (by omega) (by omega)]
    by_cases h7:n≤x.1 - 1
    ·rw [cdp h7]
     show ∃ o':List (Int × Int),o'.length≤o.length+1∧(Option.bind (Qoo l n (IntKind.wrap .i64 (x.1 - 1)) why) _)=_
     rw [Qsk (x:=x.1 - 1) (by omega) (by omega),Zgz _ _ _ _ (by omega)]
     dsimp only [Option.bind_some]
     rw [cbp (by omega)]
     show ∃ o':List (Int × Int),o'.length≤o.length+1∧(bif decide (IntKind.wrap .i64 ((IntKind.wrap .i64 (x.1 - 1))+1)≤hi) then Option.bind (Qku (IntKind.wrap .i64 ((IntKind.wrap .i64 (x.1 - 1))+1),t,r,x::q,l++[Zrv n (x.1 - 1) why],0,0)) _ else _)=_
     rw [Qsk (x:=x.1 - 1) (by omega) (by omega),Qsk (x:=x.1 - 1+1) (by omega) (by omega),cdp (by omega)]
     refine ⟨o++[(n,IntKind.wrap .i64 (x.1 - 1))],by rw [List.length_append,List.length_singleton];omega,?_⟩
     have e:Z0b hi why (n,t,r,x::q,l,a,b)=Z6w (x.1 - 1+1,t,r,x::q,l++[Zrv n (x.1 - 1) why],0,0):=by
      unfold Z0b;simp only;rw [if_pos hxh,if_pos h7];simp only;rw [if_pos (by omega)]
     rw [e]
     exact Zi0 (x.1 - 1+1,t,r,x::q,l++[Zrv n (x.1 - 1) why],0,0) (hsm _ _ (by omega) (hla _)) (fun g=>L hi why g.1 g.2.1 g.2.2.1 g.2.2.2.1 g.2.2.2.2.1 g.2.2.2.2.2.1 g.2.2.2.2.2.2 j1 j2 j3 j4 j5 j6 j7 (o++[(n,IntKind.wrap .i64 (x.1 - 1))]))
    ·rw [cdn h7]
     refine ⟨o,by omega,?_⟩
     unfold Qr2
     rw [cdp hn]
     have e:Z0b hi why (n,t,r,x::q,l,a,b)=Z6w (n,t,r,x::q,l,0,0):=by
      unfold Z0b;simp only;rw [if_pos hxh,if_neg h7];simp only;rw [if_pos hn]
     rw [e]
     exact Zi0 (n,t,r,x::q,l,0,0) (hsm _ _ (by omega) (by omega)) (fun g=>L hi why g.1 g.2.1 g.2.2.1 g.2.2.2.1 g.2.2.2.2.1 g.2.2.2.2.2.1 g.2.2.2.2.2.2 j1 j2 j3 j4 j5 j6 j7 o)
   ·rw [cdn hxh]
    obtain ⟨o',q1,q2⟩:=hJ2 hn
    refine ⟨o',q1,q2.trans ?_⟩
    have e:Z0b hi why (n,t,r,x::q,l,a,b)=(hi+1,t,r,x::q,l++[Zrv n hi why],0,0):=by
     unfold Z0b;simp only;rw [if_neg hxh,if_pos hn];simp only;rw [if_neg (by omega)]
    rw [e]
theorem Zn7.wnn {f:Quh} (h:Zn7 f):∀ i∈f.2.2.2.1,0≤i.1∧i.1≤1000000:=fun i hi=>by have:=h.win1 i hi;have:=h.next;omega
theorem Zs6 (hi why:Int):∀ (k:Nat) (f:Quh),hi<f.1→Z50 hi why k f=f
 | 0,f,h=>rfl
 | k+1,f,h=>by unfold Z50;rw [if_neg (by omega)]
theorem Zak (n0:Nat) (hi why:Int) (hh:hi≤1000000) (j1 j2 j3 j4:Int) (j5 j6:List Qtl) (j7:List Evt):∀ (k m:Nat) (f:Quh) (o:List (Int × Int)),Zn7 f→(f.2.2.2.1.length<k∨hi<f.1)→k<m→o.length+k≤100000000 →
  ∃ q,Qn3 n0 m hi why f.1 f.2.1 f.2.2.1 f.2.2.2.1 f.2.2.2.2.1 f.2.2.2.2.2.1 f.2.2.2.2.2.2 j1 j2 j3 j4 j5 j6 j7 o=some ((Z50 hi why k f,q,()),())
 | k,0,f,o,_,_,h,_=>by omega
 | 0,m+1,f,o,hf,hk,h,ho=>by
  have hs:=hf.sm
  have hn:hi<f.1:=hk.elim (fun h=>absurd h (by omega)) id
  obtain ⟨n,t,r,w,l,a,b⟩:=f
  have:=(Zd9 (Qn3 n0 m) hi why n t r w l a b j1 j2 j3 j4 j5 j6 j7 o hs.next hh hs.ring hs.win (by have:=hf.log;have:=hf.next;simp only at *;omega) (by omega) hf.wnn).1 hn
  exact ⟨o,this⟩
 | k+1,m+1,f,o,hf,hk,h,ho=>by
  have hs:=hf.sm
  obtain ⟨n,t,r,w,l,a,b⟩:=f
  have st:=Zd9 (Qn3 n0 m) hi why n t r w l a b j1 j2 j3 j4 j5 j6 j7 o hs.next hh hs.ring hs.win (by have:=hf.log;have:=hf.next;simp only at *;omega) (by omega) hf.wnn
  by_cases hn:n≤hi
  ·obtain ⟨o',ho',e⟩:=st.2 hn
   obtain ⟨a1,a2,a3⟩:=Zou (why:=why) hf hn hh
   have:=Zak n0 hi why hh j1 j2 j3 j4 j5 j6 j7 k m (Z0b hi why (n,t,r,w,l,a,b)) o' a1 (by
    rcases a3 with a3 | a3
    ·exact .inr a3
    ·rcases hk with hk | hk
     ·exact .inl (by omega)
     ·exact absurd hn (by simp only at hk;omega)) (by omega) (by omega)
   obtain ⟨q,hq⟩:=this
   refine ⟨q,Eq.trans e (hq.trans ?_)⟩
   rw [show Z50 hi why (k+1) (n,t,r,w,l,a,b)=Z50 hi why k (Z0b hi why (n,t,r,w,l,a,b)) from if_pos hn]
  ·refine ⟨o,Eq.trans (st.1 (by omega)) ?_⟩
   rw [show Z50 hi why (k+1) (n,t,r,w,l,a,b)=(n,t,r,w,l,a,b) from if_neg hn]
theorem Zfo {f:Quh} (h:Zn7 f) (hi why:Int):∃ q,Qts f hi why=some ((Zgj f hi why,q,()),()):=by
 show ∃ q,Qse (Qos 1099511627776 1099511627776) f hi why=_
 unfold Qse Zgj
 have hn:=h.next
 rw [cdn (by omega)]
 by_cases hh:1000000<hi
 ·rw [cdp hh,if_pos (.inr hh)];exact ⟨_,rfl⟩
 ·rw [cdn hh,if_neg (by omega)]
  have key:∀ m,100000<m→∃ q,Qos 1099511627776 m hi why (decide (hi>1000000)) f.1 f.2.1 f.2.2.1 (g3 f) (g4 f) (g5 f) (h6 f) 0 0 0 0 [] [] [] []=some ((Z50 hi why (f.2.2.2.1.length+1) f,q,()),()):=by
   intro m hm
   obtain ⟨m,rfl⟩:∃ m',m=m'+1:=⟨m - 1,by omega⟩
   have e:Qos 1099511627776 (m+1) hi why (decide (hi>1000000)) f.1 f.2.1 f.2.2.1 (g3 f) (g4 f) (g5 f) (h6 f) 0 0 0 0 [] [] [] []=Qn3 1099511627776 (m+1) hi why f.1 f.2.1 f.2.2.1 f.2.2.2.1 f.2.2.2.2.1 f.2.2.2.2.2.1 f.2.2.2.2.2.2 0 0 0 0 [] [] [] []:=rfl
   rw [e]
   have:=h.sm.win
   exact Zak 1099511627776 hi why (by omega) 0 0 0 0 [] [] [] (f.2.2.2.1.length+1) (m+1) f [] h (.inl (by omega)) (by omega) (by simp;omega)
  exact key 1099511627776 (by decide)
theorem Ztz (a b:Int):(if a>b then a else b)=max b a:=by split<;>omega
theorem Z31 (f:Quh) (top:Int):Qnf f top=some ((Qq7 f top,()),()):=by
 unfold Qnf Qq7
 by_cases h1:0<f.1
 ·rw [cdp h1]
  by_cases h2:top≤1000000
  ·rw [cdp h2,Ztz,if_pos ⟨h1,h2⟩]
  ·rw [cdn h2,if_neg (by omega)]
 ·rw [cdn h1,if_neg (by omega)]
theorem Znf (f:Quh) (next:Int) (h:-1000000000000≤next∧next≤1000000000000):Qtx f next=some ((Zn3 f next,()),()):=by
 unfold Qtx Zn3
 by_cases h1:0<f.1
 ·rw [cdp h1,if_pos h1,Qsk (by omega) (by omega),Z31];rfl
 ·rw [cdn h1,if_neg h1]
  by_cases h2:1≤next
  ·rw [cdp h2]
   by_cases h3:next≤1000000
   ·rw [cdp h3,if_pos ⟨h2,h3⟩]
   ·rw [cdn h3,if_neg (by omega)]
  ·rw [cdn h2,if_neg (by omega)]
theorem Zss {f:Quh} (h:FOk f) (t:ByteArray) (ht:t.size≤1000000):Z1l f t=some ((match Zta f t with | some g=>(g,true,()) | none=>(f,false,())),()):=by
 unfold Z1l Zta
 have hn:=h.next
 have hs:=h.sm
 have e:(if 1>f.1 then 1 else f.1)=max f.1 1:=by split<;>omega
 simp only [e]
 by_cases h1:12<t.size
 ·rw [cdp (by omega),if_pos (.inl h1)]
 ·rw [cdn (by omega)]
  by_cases h2:1000000<max f.1 1
  ·rw [cdp h2,if_pos (.inr h2)]
  ·rw [cdn h2,if_neg (by omega),Zip _ _ _ (by have:=hs.log;show f.2.2.2.2.1.length≤_;omega)]
   dsimp only [Option.bind_some]
   rw [Za6 _ _ hs.ring]
   dsimp only [Option.bind_some]
   rw [Qsk (by omega) (by omega)]
theorem Zq2 {α:Type} {l:List α} {i:Nat} (h:i<l.length):l.take i++[l[i]]=l.take (i+1):=(List.take_succ_eq_append_getElem h).symm
theorem Z8m (n:Nat) (l:List Qtl) (x:Qtl) (hl:l.length≤1000):∀ (k m i:Nat) (acc:List Qtl),i+k=l.length→k<m→acc.length≤2000+i →
  Qkr n m l true (i:Int) x.1 x.2 acc=some ((acc++l.drop i,true,()),())
 | k,0,i,acc,_,h,_=>by omega
 | 0,m+1,i,acc,hk,h,ha=>by
  show Qkk (Qkr n m) l true (i:Int) x.1 x.2 acc=_
  unfold Qkk
  rw [cdn (by omega),List.drop_eq_nil_of_le (by omega),List.append_nil];rfl
 | k+1,m+1,i,acc,hk,h,ha=>by
  show Qkk (Qkr n m) l true (i:Int) x.1 x.2 acc=_
  have hi:i<l.length:=by omega
  unfold Qkk
  rw [cdp (by omega),nt,cond_false]
  unfold Qql
  rw [ct (idx (by omega)),cbp (by omega),Qwl (by omega),Qkl,Qms hi,Z8m n l x hl k m (i+1) _ (by omega) (by omega) (by rw [List.length_append,List.length_singleton];omega),List.drop_eq_getElem_cons hi,List.append_assoc];rfl
theorem Z8n (n:Nat) (l:List Qtl) (x:Qtl) (hl:l.length≤1000):∀ (k m i:Nat) (acc:List Qtl),i+k=l.length→k<m→acc.length≤i→(∀ y∈l,y.1≠x.1) →
  Qkr n m l false (i:Int) x.1 x.2 acc=some ((acc++Ziz Zjf x (l.drop i),true,()),())
 | k,0,i,acc,_,h,_,_=>by omega
 | 0,m+1,i,acc,hk,h,ha,hx=>by
  show Qkk (Qkr n m) l false (i:Int) x.1 x.2 acc=_
  unfold Qkk
  rw [cdn (by omega),List.drop_eq_nil_of_le (by omega),nf,cond_true,cbp (by omega)];rfl
 | k+1,m+1,i,acc,hk,h,ha,hx=>by
  show Qkk (Qkr n m) l false (i:Int) x.1 x.2 acc=_
  have hi:i<l.length:=by omega
  unfold Qkk
  rw [cdp (by omega),nf,cond_true,ct (idx (by omega)),Qkl,Qms hi,List.drop_eq_getElem_cons hi]
  by_cases hc:x.1<l[i].1
  ·rw [cdp hc,cbp (by omega),ct (idx (by omega)),cbp (by rw [List.length_append,List.length_singleton];omega),Qwl (by omega),Z8m n l x hl k m (i+1) _ (by omega) (by omega) (by rw [List.length_append,List.length_append,List.length_singleton,List.length_singleton];omega)]
   rw [show Ziz Zjf x (l[i]::l.drop (i+1))=x::l[i]::l.drop (i+1) from if_pos hc,List.append_assoc,List.append_assoc];rfl
  ·rw [cdn hc]
   unfold Qql
   rw [ct (idx (by omega)),cbp (by omega),Qwl (by omega),Qkl,Qms hi,Z8n n l x hl k m (i+1) _ (by omega) (by omega) (by rw [List.length_append,List.length_singleton];omega) hx]
   rw [show Ziz Zjf x (l[i]::l.drop (i+1))=l[i]::Ziz Zjf x (l.drop (i+1)) from if_neg hc,List.append_assoc];rfl
theorem Zkp (l:List Qtl) (next:Int) (x:Qtl) (hl:l.length≤1000) (h1:0≤next∧next≤1000000000) (h2:0≤x.1∧x.1≤1000000000):∃ b,Qwh l next x=some ((Zrw l next x,b,()),()):=by
 show ∃ b,Qr5 (Qkr 1099511627776 1099511627776) l next x=_
 unfold Qr5 Zrw
 rw [Zq0 _ _ (by omega),Qsk (by omega) (by omega)]
 dsimp only [Option.bind_some]
 by_cases a1:x.1<next
 ·rw [cdp a1,if_pos (.inl a1)];exact ⟨_,rfl⟩
 rw [cdn a1]
 by_cases a2:8≤x.1 - next
 ·rw [cdp a2,if_pos (.inr (.inl a2))];exact ⟨_,rfl⟩
 rw [cdn a2]
 cases hg:Zrx l x.1 with
 | some y=>rw [cond_true,if_pos (.inr (.inr rfl))];exact ⟨_,rfl⟩
 | none=>
  rw [cond_false,if_neg (by simp [a1,a2])]
  have:=Z8n 1099511627776 l x hl l.length 1099511627776 0 [] (by omega) (by omega) (by simp) (Z9b.1 hg)
  rw [List.drop_zero,List.nil_append] at this
  exact ⟨true,this⟩
theorem Zlq {f:Quh} (h:FOk f) (i:Qtl) (hi:i.2.size≤1000000):Qtz f i=some ((Zm6 f i,()),()):=by
 unfold Qtz Zm6
 have hn:=h.next
 by_cases a1:f.1=0
 ·rw [Zdw a1,if_pos (.inl a1)]
 rw [Zdd a1]
 by_cases a2:i.1<1
 ·rw [cdp a2,if_pos (.inr (.inl a2))]
 rw [cdn a2]
 by_cases a3:1000000<i.1
 ·rw [cdp a3,if_pos (.inr (.inr (.inl a3)))]
 rw [cdn a3]
 by_cases a4:12<i.2.size
 ·rw [cdp (by omega),if_pos (.inr (.inr (.inr a4)))]
 rw [cdn (by omega),if_neg (by omega),Z31]
 dsimp only [Option.bind_some]
 have hk:=Z4t h i.1
 have e:=(Zbq f i.1).1
 obtain ⟨b,hb⟩:=Zkp (Qq7 f i.1).2.2.2.1 (Qq7 f i.1).1 i hk.sm.win (by omega) (by omega)
 rw [show (g3 (Qq7 f i.1))=(Qq7 f i.1).2.2.2.1 from rfl,hb]
 dsimp only [Option.bind_some]
 have hp:=Zq7 (next:=(Qq7 f i.1).1) (x:=i) hk.win (fun j hj=>by have:=hk.win1 j hj;omega) (by omega)
 exact Zi0 ((Qq7 f i.1).1,(Qq7 f i.1).2.1,(Qq7 f i.1).2.2.1,Zrw (Qq7 f i.1).2.2.2.1 (Qq7 f i.1).1 i,(Qq7 f i.1).2.2.2.2) (Zn7.sm ⟨by simp only;omega,hk.top,hk.ring,hk.ring1,hk.ringl,hp.1,hp.2,hk.log,hk.tries,hk.due⟩) (fun g=>some ((g,()),()))
theorem Zpk (a b:Int):Qkw (a,b)=some ((decide (1≤a∧a≤b∧b≤1000000),()),()):=by
 unfold Qkw
 simp only [cp]
 by_cases h1:1≤a<;>by_cases h2:a≤b<;>by_cases h3:b≤1000000<;>simp [h1,h2,h3]
theorem Zmx {f:Quh} (h:FOk f) (lo hi:Int):Qtt f lo hi=some ((Zlk f lo hi,()),()):=by
 unfold Qtt Zlk
 have hn:=h.next
 by_cases a1:f.1=0
 ·rw [Zdw a1,if_pos (.inl a1)]
 rw [Zdd a1,Zpk]
 dsimp only [Option.bind_some]
 by_cases a2:1≤lo∧lo≤hi∧hi≤1000000
 ·rw [decide_eq_true a2,nt,cond_false,if_neg (by omega),Z31]
  dsimp only [Option.bind_some]
  by_cases b1:(Qq7 f hi).1<lo
  ·rw [cdp b1,if_pos (.inl b1)]
  rw [cdn b1]
  by_cases b2:hi<(Qq7 f hi).1
  ·rw [cdp b2,if_pos (.inr b2)]
  rw [cdn b2,if_neg (by omega)]
  have hk:=Z4t h hi
  have e:=(Zbq f hi).1
  obtain ⟨q,hq⟩:=Zfo (hk.to' (by omega)) hi 1
  rw [hq]
  dsimp only [Option.bind_some]
  exact Zi0 _ (Zbf (hk.to' (by omega)) hi 1).1.sm (fun g=>some ((g,()),()))
 ·rw [decide_eq_false a2,nf,cond_true,if_pos (by omega)]
theorem Zn6 {f:Quh} (h:FOk f):Qto f=some ((match Zjg f with | some s=>(s,true,()) | none=>((0,0),false,())),()):=by
 unfold Qto Zjg
 have hn:=h.next
 have hs:=h.sm
 obtain ⟨n,t,r,w,l,a,b⟩:=f
 simp only at hn ⊢
 cases w with
 | nil=>
  dsimp only
  rw [cdn (by simp)]
  by_cases a1:n=0
  ·rw [Zdw a1,if_pos (.inl a1)]
  rw [Zdd a1]
  by_cases a2:t<n
  ·rw [cdp a2,if_pos (.inr a2)]
  ·rw [cdn a2,if_neg (by omega)]
 | cons x q=>
  have hx:=h.win1 x (List.mem_cons_self ..)
  have hw:=hs.win
  simp only at hx hw
  dsimp only
  rw [cdp (by show (0:Int)<((q.length+1:Nat):Int);omega),Zes _ (by show (x::q).length≤_;omega)]
  dsimp only [Option.bind_some]
  show (bif n==0 then _ else bif decide (IntKind.wrap .i64 (x.1 - 1)<n) then _ else some (((n,IntKind.wrap .i64 (x.1 - 1)),true,()),()))=_
  rw [Qsk (by omega) (by omega)]
  by_cases a1:n=0
  ·rw [Zdw a1,if_pos (.inl a1)]
  rw [Zdd a1]
  by_cases a2:x.1 - 1<n
  ·rw [cdp a2,if_pos (.inr a2)]
  ·rw [cdn a2,if_neg (fun e=>e.elim a1 a2)]
theorem Zpt (a b now:Int):Qy4 (a,b) now=some ((decide (a=0∨b≤now),()),()):=by
 unfold Qy4
 by_cases h:a=0
 ·rw [Zdw h,decide_eq_true (.inl h)]
 ·rw [Zdd h]
  congr 3
  exact decide_eq_decide.2 ⟨.inr,fun x=>x.elim (fun e=>absurd e h) id⟩
theorem Zlx (a b now:Int) (h:0≤a∧a≤2) (hn:0≤now∧now≤1125899906842624):Qyx (a,b) now=some (((a+1,now+2*2 ^ a.toNat),()),()):=by
 have key:∀ n m,Qnd n (m+4) now 2 0 a b 0 0=some (((a+1,now+2*2 ^ a.toNat),()),()):=by
  intro n m
  have st:∀ (m:Nat) (g i:Int),0≤g∧g≤100→0≤i∧i≤10→Qnd n (m+1) now g i a b 0 0=if i<a then (if i<3 then Qnd n m now (g*2) (i+1) a b 0 0 else some (((a+1,now+g),()),())) else some (((a+1,now+g),()),()):=by
   intro m g i hg hi
   show Qsi (Qnd n m) now g i a b 0 0=_
   unfold Qsi
   rw [Qsk (x:=g*2) (by omega) (by omega),Qsk (x:=i+1) (by omega) (by omega),Qsk (x:=a+1) (by omega) (by omega),Qsk (x:=now+g) (by omega) (by omega),cp,cp]
  have h3:a=0∨a=1∨a=2:=by omega
  rcases h3 with rfl | rfl | rfl
  ·rw [st _ _ _ (by omega) (by omega),if_neg (by omega)];rfl
  ·rw [st _ _ _ (by omega) (by omega),if_pos (by omega),if_pos (by omega),st _ _ _ (by omega) (by omega),if_neg (by omega)];rfl
  ·rw [st _ _ _ (by omega) (by omega),if_pos (by omega),if_pos (by omega),st _ _ _ (by omega) (by omega),if_pos (by omega),if_pos (by omega),st _ _ _ (by omega) (by omega),if_neg (by omega)];rfl
 exact key 1099511627776 1099511627772
theorem Zoj {f:Quh} (h:FOk f) (now:Int) (hn:0≤now∧now≤1125899906842624):Quu f now=some (((Zpe f now).1,(match (Zpe f now).2 with | some s=>(s,true,()) | none=>((0,0),false,()))),()):=by
 unfold Quu Zpe
 rw [Zn6 h]
 dsimp only [Option.bind_some]
 have hn1:=h.next
 have ht:=h.tries
 cases hw:Zjg f with
 | none=>rfl
 | some s=>
  dsimp only
  rw [nt,cond_false,show h5 f=(f.2.2.2.2.2.1,f.2.2.2.2.2.2) from rfl,Zpt]
  dsimp only [Option.bind_some]
  by_cases a1:f.2.2.2.2.2.1=0∨f.2.2.2.2.2.2≤now
  ·rw [decide_eq_true a1,nt,cond_false,if_pos a1]
   have hf:f.1≠0:=by intro e;unfold Zjg at hw;simp only [e,true_or,if_true] at hw;cases hw
   by_cases a2:3≤f.2.2.2.2.2.1
   ·rw [cdp a2,if_pos a2]
    obtain ⟨q,hq⟩:=Zfo (h.to' (by omega)) s.2 2
    rw [hq]
    dsimp only [Option.bind_some]
    exact Zi0 _ (Zbf (h.to' (by omega)) s.2 2).1.sm (fun g=>some ((g,(0,0),false,()),()))
   ·rw [cdn a2,if_neg a2,Zlx _ _ _ (by omega) hn]
    rfl
  ·rw [decide_eq_false a1,nf,cond_true,if_neg a1]
end Go.PE
