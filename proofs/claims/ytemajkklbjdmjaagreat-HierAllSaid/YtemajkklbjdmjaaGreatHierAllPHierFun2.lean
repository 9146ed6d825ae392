/-
  Plain lemmas on the functions.
  Conditions: none.
-/
import Derived.Test.YtemajkklbjdmjaaGreatHierAllPClusSame
set_option linter.unusedVariables false
set_option linter.unusedSimpArgs false
set_option maxRecDepth 20000
namespace Go.PE
def marks (l:List Int) (s:List Bool):List Bool:=l.foldl (fun s x=>s.set x.toNat true) s
theorem marks_len:∀ (l:List Int) (s:List Bool),(marks l s).length=s.length
 | [],s=>rfl
 | x::r,s=>by
  show (marks r (s.set x.toNat true)).length=_
  rw [marks_len r,List.length_set]
theorem marks_other:∀ (l:List Int) (s:List Bool) (y:Int),(∀ x∈l,x.toNat≠y.toNat)→List.getD (marks l s) y.toNat false=List.getD s y.toNat false
 | [],s,y,_=>rfl
 | x::r,s,y,h=>by
  show List.getD (marks r (s.set x.toNat true)) y.toNat false=_
  rw [marks_other r _ y (fun z hz=>h z (List.mem_cons_of_mem _ hz)),List.getD_eq_getElem?_getD,List.getD_eq_getElem?_getD,List.getElem?_set_ne (h x (List.mem_cons_self ..))]
theorem first_L2 (n m1:Nat) (r1:List Cl→List Cl→Int→Int→Int→List (List Int)→List (List Cl)→List Bool→Option ((Bool × Unit) × Unit)) (l:List Int) (hl:Ris l)
  (a10:List Cl) (a12:List Cl) (a13 a14 a15 a16 a17 a18:Int) (a19:Bool) (a20:List Cl) (a21:Int) (a22 a23:Bool) (a24 a25:Int) (a26 a27:Bool) (a28:Int) (a29:List (List Int)) (a30:List Int) (a31:Int) (a32:Bool) (a37:Int) (a38:List (List Int)) (a39:List (List Cl)) (a40:List Int) (a41:Int):∀ (c m i:Nat) (last:Int) (s:List Bool),i+c=l.length→c<m→s.length=9→0≤last→(∀ x∈l.drop i,last<x∧List.getD s x.toNat false=false) →
  hier_first_L2 n m1 r1 m a10 last a12 a13 a14 a15 a16 a17 a18 a19 a20 a21 a22 a23 a24 a25 a26 a27 a28 a29 a30 a31 a32 l (l.length:Int) (i:Int) s a37 a38 a39 a40 a41=r1 a10 a12 a13 (IntKind.wrap .i64 (a14+1)) a37 a38 a39 (marks (l.drop i) s)
 | c,0,i,last,s,_,h,_,_,_=>by omega
 | 0,m+1,i,last,s,hc,hm,hs,h0,hx=>by
  show hier_first_B2 (hier_first_L2 n m1 r1 m) r1 a10 last a12 a13 a14 a15 a16 a17 a18 a19 a20 a21 a22 a23 a24 a25 a26 a27 a28 a29 a30 a31 a32 l (l.length:Int) (i:Int) s a37 a38 a39 a40 a41=_
  unfold hier_first_B2
  rw [cdn (by omega),List.drop_eq_nil_of_le (by omega)];rfl
 | c+1,m+1,i,last,s,hc,hm,hs,h0,hx=>by
  show hier_first_B2 (hier_first_L2 n m1 r1 m) r1 a10 last a12 a13 a14 a15 a16 a17 a18 a19 a20 a21 a22 a23 a24 a25 a26 a27 a28 a29 a30 a31 a32 l (l.length:Int) (i:Int) s a37 a38 a39 a40 a41=_
  have hi:i<l.length:=by omega
  have h8:=hl.le8
  have hr:=hl.range (List.getElem_mem hi)
  have hpw:=hl.pw
  rw [List.drop_eq_getElem_cons hi] at hx ⊢
  have hd:(l[i]::l.drop (i+1)).Pairwise (·<·):=by rw [← List.drop_eq_getElem_cons hi];exact hpw.drop
  have hd:=(List.pairwise_cons.1 hd).1
  obtain ⟨g1,g2⟩:=hx _ (List.mem_cons_self ..)
  have hrest:=fun x (h:x∈l.drop (i+1))=>hx x (List.mem_cons_of_mem _ h)
  unfold hier_first_B2
  rw [cdp (by omega),ct (by simp only [Bool.and_eq_true,decide_eq_true_eq];omega),toNat_nat,getD_at hi,inext (by omega)]
  generalize l[i]=x at *
  rw [cdn (by omega),cdn (by omega),ct (by simp only [Bool.and_eq_true,decide_eq_true_eq];omega),ct (by simp only [Bool.and_eq_true,decide_eq_true_eq];omega),g2,cond_false,ct (by simp only [Bool.and_eq_true,decide_eq_true_eq];omega),ct (by simp only [Bool.and_eq_true,decide_eq_true_eq];omega)]
  rw [first_L2 n m1 r1 l hl a10 a12 a13 a14 a15 a16 a17 a18 a19 a20 a21 a22 a23 a24 a25 a26 a27 a28 a29 a30 a31 a32 a37 a38 a39 a40 a41 c m (i+1) x _ (by omega) (by omega) (by rw [List.length_set];exact hs) (by omega) (fun y hy=>⟨hd y hy,by
   have:=hd y hy
   rw [List.getD_eq_getElem?_getD,List.getElem?_set_ne (by omega),← List.getD_eq_getElem?_getD]
   exact (hrest y hy).2⟩)]
  rfl
theorem first_L3 (n m1:Nat) (r1:List Cl→List Cl→Int→Int→Int→List (List Int)→List (List Cl)→List Bool→Option ((Bool × Unit) × Unit)) (l:List Int) (hl:Ris l)
  (a10:List Cl) (a12:List Cl) (a13 a14 a15 a16 a17 a18:Int) (a19:Bool) (a20:List Cl) (a21:Int) (a22 a23 a24:Bool) (a28:Int) (a29:List (List Int)) (a30:List Int) (a31:Int) (a32:Bool) (a37:Int) (a38:List (List Int)) (a39:List (List Cl)) (a40:List Int) (a41:Int):∀ (c m i:Nat) (last:Int) (s:List Bool),i+c=l.length→c<m→s.length=9→0≤last→(∀ x∈l.drop i,last<x∧List.getD s x.toNat false=false) →
  hier_first_L3 n m1 r1 m a10 last a12 a13 a14 a15 a16 a17 a18 a19 a20 a21 a22 a23 a24 a28 a29 a30 a31 a32 l (l.length:Int) (i:Int) s a37 a38 a39 a40 a41=r1 a10 a12 a13 (IntKind.wrap .i64 (a14+1)) a37 a38 a39 (marks (l.drop i) s)
 | c,0,i,last,s,_,h,_,_,_=>by omega
 | 0,m+1,i,last,s,hc,hm,hs,h0,hx=>by
  show hier_first_B3 (hier_first_L3 n m1 r1 m) r1 a10 last a12 a13 a14 a15 a16 a17 a18 a19 a20 a21 a22 a23 a24 a28 a29 a30 a31 a32 l (l.length:Int) (i:Int) s a37 a38 a39 a40 a41=_
  unfold hier_first_B3
  rw [cdn (by omega),List.drop_eq_nil_of_le (by omega)];rfl
 | c+1,m+1,i,last,s,hc,hm,hs,h0,hx=>by
  show hier_first_B3 (hier_first_L3 n m1 r1 m) r1 a10 last a12 a13 a14 a15 a16 a17 a18 a19 a20 a21 a22 a23 a24 a28 a29 a30 a31 a32 l (l.length:Int) (i:Int) s a37 a38 a39 a40 a41=_
  have hi:i<l.length:=by omega
  have h8:=hl.le8
  have hr:=hl.range (List.getElem_mem hi)
  have hpw:=hl.pw
  rw [List.drop_eq_getElem_cons hi] at hx ⊢
  have hd:(l[i]::l.drop (i+1)).Pairwise (·<·):=by rw [← List.drop_eq_getElem_cons hi];exact hpw.drop
  have hd:=(List.pairwise_cons.1 hd).1
  obtain ⟨g1,g2⟩:=hx _ (List.mem_cons_self ..)
  have hrest:=fun x (h:x∈l.drop (i+1))=>hx x (List.mem_cons_of_mem _ h)
  unfold hier_first_B3
  rw [cdp (by omega),ct (by simp only [Bool.and_eq_true,decide_eq_true_eq];omega),toNat_nat,getD_at hi,inext (by omega)]
  generalize l[i]=x at *
  rw [cdn (by omega),cdn (by omega),ct (by simp only [Bool.and_eq_true,decide_eq_true_eq];omega),ct (by simp only [Bool.and_eq_true,decide_eq_true_eq];omega),g2,cond_false,ct (by simp only [Bool.and_eq_true,decide_eq_true_eq];omega),ct (by simp only [Bool.and_eq_true,decide_eq_true_eq];omega)]
  rw [first_L3 n m1 r1 l hl a10 a12 a13 a14 a15 a16 a17 a18 a19 a20 a21 a22 a23 a24 a28 a29 a30 a31 a32 a37 a38 a39 a40 a41 c m (i+1) x _ (by omega) (by omega) (by rw [List.length_set];exact hs) (by omega) (fun y hy=>⟨hd y hy,by
   have:=hd y hy
   rw [List.getD_eq_getElem?_getD,List.getElem?_set_ne (by omega),← List.getD_eq_getElem?_getD]
   exact (hrest y hy).2⟩)]
  rfl
theorem first_L1 (n:Nat) (hn:100<n) {d:List (List Int)} (h:OkD d) {k:Nat} (hk:1≤k) (hk2:k≤100) (cs:List Cl) (hc:Clus (eD d) cs) (hs:Sized k cs) (L:List (List Cl)):∀ (c m i:Nat) (s:List Bool),i+c=cs.length→c<m→s.length=9→(∀ x,isIn (cs.drop i) x→List.getD s x.toNat false=false) →
  hier_first_L1 n m cs cs (cs.length:Int) (i:Int) (k:Int) d L s=some ((true,()),())
 | c,0,i,s,_,h,_,_=>by omega
 | 0,m+1,i,s,hcc,hm,hs9,hx=>by
  show hier_first_B1 (hier_first_L2 n m (hier_first_L1 n m) n) (hier_first_L3 n m (hier_first_L1 n m) n) cs cs (cs.length:Int) (i:Int) (k:Int) d L s=_
  unfold hier_first_B1
  rw [cdn (by omega)]
 | c+1,m+1,i,s,hcc,hm,hs9,hx=>by
  show hier_first_B1 (hier_first_L2 n m (hier_first_L1 n m) n) (hier_first_L3 n m (hier_first_L1 n m) n) cs cs (cs.length:Int) (i:Int) (k:Int) d L s=_
  have hi:i<cs.length:=by omega
  have h8:=hc.len_le
  have hci:=hc.ris _ (List.getElem_mem hi)
  have hci8:=hci.1.le8
  have hsz:=hs.1 _ (List.getElem_mem hi)
  have hsz2:=fun g=>hs.2 g _ (List.getElem_mem hi)
  have e0:List.getD cs i ([],0)=cs[i]:=getD_at hi _
  have hp:=List.length_pos_iff.2 hci.2.1
  have hdc:Clus (eD d) (cs[i]::cs.drop (i+1)):=by
   rw [← List.drop_eq_getElem_cons hi]
   exact ⟨fun c hcm=>hc.ris c (List.mem_of_mem_drop hcm),hc.apart.drop⟩
  have hap:=(Clus.cons.1 hdc).2.1
  rw [List.drop_eq_getElem_cons hi] at hx
  have hw:IntKind.wrap .i64 ((IntKind.wrap .i64 (3*(k:Int))) - 1)=((3*k - 1:Nat):Int):=by rw [wi64 (x:=3*(k:Int)) (by omega) (by omega),wi64 (by omega) (by omega)];omega
  have ih:=first_L1 n hn h hk hk2 cs hc hs L c m (i+1) (marks cs[i].1 s) (by omega) (by omega) (by rw [marks_len];exact hs9) (fun x hxx=>by
   rw [marks_other]
   ·exact hx x (isIn_cons.2 (.inr hxx))
   ·intro y hy e
    have h1:=hci.1.range hy
    obtain ⟨cc,hcc,hm⟩:=hxx
    have h2:=(hdc.ris cc (List.mem_cons_of_mem _ hcc)).1.range hm
    have:y=x:=by omega
    subst this
    exact hap y hy ⟨cc,hcc,hm⟩)
  have hmem:∀ x∈cs[i].1.drop 0,(0:Int)<x∧List.getD s x.toNat false=false:=fun x hxm=>by
   rw [List.drop_zero] at hxm
   have:=hci.1.range hxm
   exact ⟨by omega,hx x (isIn_cons.2 (.inl hxm))⟩
  have z0:(0:Int)=((0:Nat):Int):=rfl
  unfold hier_first_B1
  rw [toNat_nat,e0]
  rw [cdp (by omega),ct (by simp only [Bool.and_eq_true,decide_eq_true_eq];omega),cdn (by omega),cdn (by rw [hw];omega)]
  by_cases h1:1<cs.length
  ·have:=hsz2 h1
   rw [cdp (by omega),cdn (by omega),mid_Mid_is h _ (fun x hx=>hci.1.range hx) (by omega)]
   dsimp only [Option.bind_some]
   rw [cnen hci.2.2]
   have:=first_L2 n m (hier_first_L1 n m) cs[i].1 hci.1 cs cs (cs.length:Int) (i:Int) (cs[i].1.length:Int) (k:Int) (IntKind.wrap .i64 (3*(k:Int))) (IntKind.wrap .i64 ((IntKind.wrap .i64 (3*(k:Int))) - 1)) (decide ((cs[i].1.length:Int)>IntKind.wrap .i64 ((IntKind.wrap .i64 (3*(k:Int))) - 1))) cs (cs.length:Int) (decide ((cs.length:Int)>1)) true (cs[i].1.length:Int) (k:Int) (decide ((cs[i].1.length:Int)<(k:Int))) (decide ((cs[i].1.length:Int)<(k:Int))) cs[i].2 d cs[i].1 (midF (eD d) cs[i].1) (cs[i].2 != midF (eD d) cs[i].1) (k:Int) d L
   refine (this _ _ cs[i].1.length n 0 0 s (by omega) (by omega) hs9 (by omega) hmem).trans ?_
   rw [inext (by omega),List.drop_zero]
   exact ih
  ·rw [cdn (by omega),mid_Mid_is h _ (fun x hx=>hci.1.range hx) (by omega)]
   dsimp only [Option.bind_some]
   rw [cnen hci.2.2]
   have:=first_L3 n m (hier_first_L1 n m) cs[i].1 hci.1 cs cs (cs.length:Int) (i:Int) (cs[i].1.length:Int) (k:Int) (IntKind.wrap .i64 (3*(k:Int))) (IntKind.wrap .i64 ((IntKind.wrap .i64 (3*(k:Int))) - 1)) (decide ((cs[i].1.length:Int)>IntKind.wrap .i64 ((IntKind.wrap .i64 (3*(k:Int))) - 1))) cs (cs.length:Int) (decide ((cs.length:Int)>1)) false false cs[i].2 d cs[i].1 (midF (eD d) cs[i].1) (cs[i].2 != midF (eD d) cs[i].1) (k:Int) d L
   refine (this _ _ cs[i].1.length n 0 0 s (by omega) (by omega) hs9 (by omega) hmem).trans ?_
   rw [inext (by omega),List.drop_zero]
   exact ih
theorem hier_first_is {d:List (List Int)} (h:OkD d) {k:Nat} (hk:1≤k) (hk2:k≤100) (L:List (List Cl)) (cs:List Cl) (hc:Clus (eD d) cs) (hs:Sized k cs):hier_first ((k:Int),d,L) cs=some ((true,()),()):=by
 have h8:=hc.len_le
 exact first_L1 1099511627776 (by omega) h hk hk2 cs hc hs L cs.length 1099511627776 0 (List.replicate 9 false) (by omega) (by omega) (by simp) (fun x hx=>by
  rw [List.drop_zero] at hx
  have:=isIn_range hc hx
  rw [List.getD_eq_getElem?_getD,List.getElem?_replicate,if_pos (by omega)];rfl)
theorem equalFunc_a_loop (n:Nat) (a:List (List Cl)) (f:(List Cl) × (List Cl) × Unit→Option (Bool × Unit)) (hf:∀ x∈a,f (x,x,())=some (true,())) (h6:a.length≤1000000):∀ (k m i:Nat),i+k=a.length→k<m→slices_EqualFunc_Cluster_Cluster_Cluster_Cluster_L1 n m a f a (a.length:Int) (i:Int)=some ((true,()),())
 | k,0,i,_,h=>by omega
 | 0,m+1,i,hk,hm=>by
  show slices_EqualFunc_Cluster_Cluster_Cluster_Cluster_B1 (slices_EqualFunc_Cluster_Cluster_Cluster_Cluster_L1 n m) a f a (a.length:Int) (i:Int)=_
  unfold slices_EqualFunc_Cluster_Cluster_Cluster_Cluster_B1
  rw [cdn (by omega)]
 | k+1,m+1,i,hk,hm=>by
  show slices_EqualFunc_Cluster_Cluster_Cluster_Cluster_B1 (slices_EqualFunc_Cluster_Cluster_Cluster_Cluster_L1 n m) a f a (a.length:Int) (i:Int)=_
  have hi:i<a.length:=by omega
  have e0:List.getD a i []=a[i]:=getD_at hi _
  unfold slices_EqualFunc_Cluster_Cluster_Cluster_Cluster_B1
  rw [cdp (by omega),ct (by simp only [Bool.and_eq_true,decide_eq_true_eq];omega),ct (by simp only [Bool.and_eq_true,decide_eq_true_eq];omega),toNat_nat,e0,hf _ (List.getElem_mem hi)]
  dsimp only [Option.bind_some]
  rw [nt,cond_false,inext (by omega),equalFunc_a_loop n a f hf h6 k m (i+1) (by omega) (by omega)]
theorem equalFunc_a_refl (a:List (List Cl)) (f:(List Cl) × (List Cl) × Unit→Option (Bool × Unit)) (hf:∀ x∈a,f (x,x,())=some (true,())) (h6:a.length≤1000000):slices_EqualFunc_Cluster_Cluster_Cluster_Cluster a a f=some ((true,()),()):=by
 show slices_EqualFunc_Cluster_Cluster_Cluster_Cluster_T (slices_EqualFunc_Cluster_Cluster_Cluster_Cluster_L1 1099511627776 1099511627776) a a f=_
 unfold slices_EqualFunc_Cluster_Cluster_Cluster_Cluster_T
 rw [cnen rfl]
 exact equalFunc_a_loop 1099511627776 a f hf h6 a.length 1099511627776 0 (by omega) (by omega)
theorem equalFunc_b_loop (n:Nat) (a:List Cl) (f:Cl × Cl × Unit→Option (Bool × Unit)) (hf:∀ x∈a,f (x,x,())=some (true,())) (h6:a.length≤1000000):∀ (k m i:Nat),i+k=a.length→k<m→slices_EqualFunc_Cluster_Cluster_Cluster_Cluster_b_L1 n m a f a (a.length:Int) (i:Int)=some ((true,()),())
 | k,0,i,_,h=>by omega
 | 0,m+1,i,hk,hm=>by
  show slices_EqualFunc_Cluster_Cluster_Cluster_Cluster_b_B1 (slices_EqualFunc_Cluster_Cluster_Cluster_Cluster_b_L1 n m) a f a (a.length:Int) (i:Int)=_
  unfold slices_EqualFunc_Cluster_Cluster_Cluster_Cluster_b_B1
  rw [cdn (by omega)]
 | k+1,m+1,i,hk,hm=>by
  show slices_EqualFunc_Cluster_Cluster_Cluster_Cluster_b_B1 (slices_EqualFunc_Cluster_Cluster_Cluster_Cluster_b_L1 n m) a f a (a.length:Int) (i:Int)=_
  have hi:i<a.length:=by omega
  have e0:List.getD a i ([],0)=a[i]:=getD_at hi _
  unfold slices_EqualFunc_Cluster_Cluster_Cluster_Cluster_b_B1
  rw [cdp (by omega),ct (by simp only [Bool.and_eq_true,decide_eq_true_eq];omega),ct (by simp only [Bool.and_eq_true,decide_eq_true_eq];omega),toNat_nat,e0,hf _ (List.getElem_mem hi)]
  dsimp only [Option.bind_some]
  rw [nt,cond_false,inext (by omega),equalFunc_b_loop n a f hf h6 k m (i+1) (by omega) (by omega)]
theorem equalFunc_b_refl (a:List Cl) (f:Cl × Cl × Unit→Option (Bool × Unit)) (hf:∀ x∈a,f (x,x,())=some (true,())) (h6:a.length≤1000000):slices_EqualFunc_Cluster_Cluster_Cluster_Cluster_b a a f=some ((true,()),()):=by
 show slices_EqualFunc_Cluster_Cluster_Cluster_Cluster_b_T (slices_EqualFunc_Cluster_Cluster_Cluster_Cluster_b_L1 1099511627776 1099511627776) a a f=_
 unfold slices_EqualFunc_Cluster_Cluster_Cluster_Cluster_b_T
 rw [cnen rfl]
 exact equalFunc_b_loop 1099511627776 a f hf h6 a.length 1099511627776 0 (by omega) (by omega)
theorem hier_same_refl (cs:List Cl) (h:∀ c∈cs,c.1.length≤1000000) (h6:cs.length≤1000000):hier_same cs cs=some ((true,()),()):=by
 unfold hier_same
 rw [equalFunc_b_refl cs _ (fun c hc=>by
  unfold hier_same_fn1
  dsimp only
  rw [ceqp rfl,equal_int _ _ (by have:=h c hc;omega) (by have:=h c hc;omega) (by have:=h c hc;omega),decide_eq_true rfl];rfl) h6]
 rfl
theorem hier_May_is {d:List (List Int)} (h:OkD d) {k:Nat} (hk:1≤k) (hk2:k≤3) (L:List (List Cl)) (hL:HOk d k L):hier_May ((k:Int),d,L)=some ((true,()),()):=by
 unfold hier_May
 dsimp only
 rw [hier_New_is h hk hk2]
 dsimp only [Option.bind_some]
 rw [nt,cond_false]
 by_cases hn:L=[]
 ·subst hn
  rw [ceqp (x:=((([]:List (List Cl)).length:Nat):Int)) (y:=0) rfl]
 obtain ⟨r,e,t,hl,hx⟩:=hL.tower hk hn
 have hp:=List.length_pos_iff.2 hn
 have hp2:=List.length_pos_iff.2 hx
 have e0:List.getD L 0 []=lowF L:=rfl
 have hsm:=hL.small hk
 have hl2:=hsm.len
 rw [ceqn (by omega),cdp (by omega),e0,ceqn (by omega),cdp (by omega),hier_first_is h hk (by omega) L _ hL.clus hL.sized]
 dsimp only [Option.bind_some]
 rw [nt,cond_false,cdp (by omega),hier_above_is h hk (by omega) L _ hL.clus,← hL.lev]
 dsimp only [Option.bind_some]
 rw [equalFunc_a_refl L _ (fun cs hcs=>by
  have:=hsm.each cs hcs
  dsimp only
  rw [hier_same_refl cs (fun c hc=>by have:=this.2 c hc;omega) (by omega)];rfl) (by omega)]
 rfl
theorem sameDist_loop (n:Nat) (d:List (List Int)) (h6:d.length≤1000000) (hr:∀ r∈d,r.length≤1000000):∀ (k m i:Nat),i+k=d.length→k<m→pleachref1_SameDist_L1 n m d d (i:Int)=some ((true,()),())
 | k,0,i,_,h=>by omega
 | 0,m+1,i,hk,hm=>by
  show pleachref1_SameDist_B1 (pleachref1_SameDist_L1 n m) d d (i:Int)=_
  unfold pleachref1_SameDist_B1
  rw [cdn (by omega)]
 | k+1,m+1,i,hk,hm=>by
  show pleachref1_SameDist_B1 (pleachref1_SameDist_L1 n m) d d (i:Int)=_
  have hi:i<d.length:=by omega
  have:=hr _ (List.getElem_mem hi)
  unfold pleachref1_SameDist_B1
  rw [cdp (by omega),ct (by simp only [Bool.and_eq_true,decide_eq_true_eq];omega),ct (by simp only [Bool.and_eq_true,decide_eq_true_eq];omega),toNat_nat,getD_at hi,sameInts _ _ (by omega) (by omega),decide_eq_true rfl]
  dsimp only [Option.bind_some]
  rw [nt,cond_false,inext (by omega),sameDist_loop n d h6 hr k m (i+1) (by omega) (by omega)]
theorem sameDist_refl (d:List (List Int)) (h6:d.length≤1000000) (hr:∀ r∈d,r.length≤1000000):pleachref1_SameDist d d=some ((true,()),()):=by
 show pleachref1_SameDist_T (pleachref1_SameDist_L1 1099511627776 1099511627776) d d=_
 unfold pleachref1_SameDist_T
 rw [cnen rfl]
 exact sameDist_loop 1099511627776 d h6 hr d.length 1099511627776 0 (by omega) (by omega)
theorem sameHier_loop (n:Nat) (L:List (List Cl)) (hL:SmallL L) (k k2:Int) (d d2:List (List Int)):∀ (c m i:Nat),i+c=L.length→c<m→pleachref7_SameHier_L1 n m (i:Int) k d L k2 d2 L=some ((true,()),())
 | c,0,i,_,h=>by omega
 | 0,m+1,i,hk,hm=>by
  show pleachref7_SameHier_B1 (pleachref7_SameHier_L1 n m) (i:Int) k d L k2 d2 L=_
  unfold pleachref7_SameHier_B1
  rw [cdn (by omega)]
 | c+1,m+1,i,hk,hm=>by
  show pleachref7_SameHier_B1 (pleachref7_SameHier_L1 n m) (i:Int) k d L k2 d2 L=_
  have hi:i<L.length:=by omega
  have hl:=hL.len
  obtain ⟨g1,g2⟩:=hL.each _ (List.getElem_mem hi)
  unfold pleachref7_SameHier_B1
  rw [cdp (by omega),ct (by simp only [Bool.and_eq_true,decide_eq_true_eq];omega),ct (by simp only [Bool.and_eq_true,decide_eq_true_eq];omega),toNat_nat,getD_at hi,sameClusters _ _ (fun c hc=>by have:=g2 c hc;omega) (fun c hc=>by have:=g2 c hc;omega) (by omega),decide_eq_true rfl]
  dsimp only [Option.bind_some]
  rw [nt,cond_false,inext (by omega),sameHier_loop n L hL k k2 d d2 c m (i+1) (by omega) (by omega)]
theorem sameHier_refl {d:List (List Int)} (h:OkD d) (k:Int) (L:List (List Cl)) (hL:SmallL L):pleachref7_SameHier (k,d,L) (k,d,L)=some ((true,()),()):=by
 show pleachref7_SameHier_T (pleachref7_SameHier_L1 1099511627776 1099511627776) (k,d,L) (k,d,L)=_
 unfold pleachref7_SameHier_T
 dsimp only
 rw [cnen rfl,sameDist_refl d h.small.1 h.small.2]
 dsimp only [Option.bind_some]
 rw [nt,cond_false,cnen rfl]
 exact sameHier_loop 1099511627776 L hL k k d d L.length 1099511627776 0 (by omega) (by have:=hL.len;omega)
end Go.PE
