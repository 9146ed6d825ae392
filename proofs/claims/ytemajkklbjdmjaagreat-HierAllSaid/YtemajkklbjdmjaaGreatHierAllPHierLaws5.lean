/-
  Plain lemmas on the functions.
  Conditions: none.
-/
import Derived.Test.YtemajkklbjdmjaaGreatHierAllPHierRef1
set_option linter.unusedVariables false
set_option linter.unusedSimpArgs false
set_option maxRecDepth 20000
namespace Go.PE
theorem begun9':pleachlaw9_begun=some ((true,()),()):=by kernel_rfl
theorem none_same:pleachref7_SameHier (0,[],[]) (0,[],[])=some ((true,()),()):=by kernel_rfl
theorem all_end {d:List (List Int)} (hd:OkD d) {k:Nat} (hk:1≤k) (hk2:k≤3) (L:List (List Cl)) (hL:HOk d k L) (id:Int) :
  (Option.bind (hier_Ask ((k:Int),d,L) id) fun (r44:(Int × Unit) × Unit)=>
   Option.bind (pleachref7_Ask ((k:Int),d,L) id) fun (r45:(Int × Unit) × Unit)=>
   bif r44.1.1==r45.1.1 then
   Option.bind (hier_Join ((k:Int),d,L) id) fun (r46:(HV × Unit) × Unit)=>
   Option.bind (pleachref7_Join ((k:Int),d,L) id) fun (r47:(HV × Unit) × Unit)=>
   Option.bind (pleachref7_SameHier r46.1.1 r47.1.1) fun (r48:(Bool × Unit) × Unit)=>
   bif r48.1.1 then
    Option.bind (hier_Leave ((k:Int),d,L) id) fun (r49:(HV × Unit) × Unit)=>
    Option.bind (pleachref7_Leave ((k:Int),d,L) id) fun (r50:(HV × Unit) × Unit)=>
    Option.bind (pleachref7_SameHier r49.1.1 r50.1.1) fun (r51:(Bool × Unit) × Unit)=>
    some ((r51.1.1,()),())
   else
    some ((false,()),())
   else
   some ((false,()),()))=some ((true,()),()):=by
 have hs:=hL.small hk
 rw [hier_Ask_is _ _ _ hs,ref_Ask_is _ _ _ hs]
 dsimp only [Option.bind_some]
 rw [ceqp rfl,hier_Join_is hd hk (by omega) L hL,ref_Join_is hd hk (by omega) L hL]
 dsimp only [Option.bind_some]
 rw [sameHier_refl hd _ _ ((joinH_ok hk hL id).small hk)]
 dsimp only [Option.bind_some]
 rw [cond_true,hier_Leave_is hd hk (by omega) L hL,ref_Leave_is hd hk (by omega) L hL]
 dsimp only [Option.bind_some]
 rw [sameHier_refl hd _ _ ((leaveH_ok hk hL id).small hk)];rfl
theorem all_L2 (n m1:Nat) (r1:List (Int × Int)→Int→Bool→Int→Int→List (List Int)→List (List Cl)→Int→List (List Int)→List (List Cl)→Option ((Bool × Unit) × Unit)) (l:List (Int × Int)) (id:Int) (ok:Bool) (i:Nat) (hi:i<1000) (b1:Bool) (k0:Int) (d0:List (List Int)) (L0:List (List Cl)) (b2 b3:Bool) (k:Int) (d:List (List Int)) (L:List (List Cl)) (hL:SmallL L):∀ (c m q:Nat),q+c=10→c<m →
  pleachlaw9_HierAll_L2 n m1 r1 m l id ok (i:Int) (q:Int) b1 k0 d0 L0 b2 b3 k d L k d L=r1 l id ok ((i+1:Nat):Int) k d L k d L
 | c,0,q,_,h=>by omega
 | 0,m+1,q,hc,hm=>by
  show pleachlaw9_HierAll_B2 (pleachlaw9_HierAll_L2 n m1 r1 m) r1 l id ok (i:Int) (q:Int) b1 k0 d0 L0 b2 b3 k d L k d L=_
  unfold pleachlaw9_HierAll_B2
  rw [cdn (by omega),inext (by omega)]
 | c+1,m+1,q,hc,hm=>by
  show pleachlaw9_HierAll_B2 (pleachlaw9_HierAll_L2 n m1 r1 m) r1 l id ok (i:Int) (q:Int) b1 k0 d0 L0 b2 b3 k d L k d L=_
  unfold pleachlaw9_HierAll_B2
  rw [cdp (by omega),hier_Ask_is _ _ _ hL,ref_Ask_is _ _ _ hL]
  dsimp only [Option.bind_some]
  rw [cnen rfl,inext (by omega),all_L2 n m1 r1 l id ok i hi b1 k0 d0 L0 b2 b3 k d L hL c m (q+1) (by omega) (by omega)]
theorem all_L1 (n:Nat) (hn:100<n) {d:List (List Int)} (hd:OkD d) {k:Nat} (hk:1≤k) (hk2:k≤3) (l:List (Int × Int)) (hl:∀ x∈l,(0≤x.1∧x.1<256)∧(0≤x.2∧x.2<256)) (h6:l.length≤100) (id:Int):∀ (c m i:Nat) (L:List (List Cl)),i+c=l.length→c<m→HOk d k L →
  pleachlaw9_HierAll_L1 n m l id true (i:Int) (k:Int) d L (k:Int) d L=some ((true,()),())
 | c,0,i,L,_,h,_=>by omega
 | 0,m+1,i,L,hc,hm,hL=>by
  show pleachlaw9_HierAll_B1 (pleachlaw9_HierAll_L2 n m (pleachlaw9_HierAll_L1 n m) n) l id true (i:Int) (k:Int) d L (k:Int) d L=_
  unfold pleachlaw9_HierAll_B1
  rw [cdn (by omega),nt,cond_false]
  exact all_end hd hk hk2 L hL id
 | c+1,m+1,i,L,hc,hm,hL=>by
  show pleachlaw9_HierAll_B1 (pleachlaw9_HierAll_L2 n m (pleachlaw9_HierAll_L1 n m) n) l id true (i:Int) (k:Int) d L (k:Int) d L=_
  have hi:i<l.length:=by omega
  obtain ⟨g1,g2⟩:=hl _ (List.getElem_mem hi)
  have z0:(0:Int)=((0:Nat):Int):=rfl
  unfold pleachlaw9_HierAll_B1
  rw [cdp (by omega),cond_true,ct (by simp only [Bool.and_eq_true,decide_eq_true_eq];omega),ct (by simp only [Bool.and_eq_true,decide_eq_true_eq];omega),toNat_nat,getD_at hi]
  generalize l[i]=x at *
  rw [Int.tmod_eq_emod_of_nonneg g1.1,Int.tmod_eq_emod_of_nonneg g2.1,wi64 (x:=x.1 % 10) (by omega) (by omega)]
  by_cases hj:x.2 % 3>0
  ·have ho:=joinH_ok hk hL (x.1 % 10)
   rw [cdp hj,hier_Join_is hd hk (by omega) L hL,ref_Join_is hd hk (by omega) L hL]
   dsimp only [Option.bind_some]
   rw [sameHier_refl hd _ _ (ho.small hk)]
   dsimp only [Option.bind_some]
   rw [nt,cond_false,hier_May_is hd hk hk2 _ ho]
   dsimp only [Option.bind_some]
   rw [nt,cond_false]
   refine (all_L2 n m (pleachlaw9_HierAll_L1 n m) l id true i (by omega) true (k:Int) d _ true false (k:Int) d _ (ho.small hk) 10 n 0 (by omega) (by omega)).trans ?_
   exact all_L1 n hn hd hk hk2 l hl h6 id c m (i+1) _ (by omega) (by omega) ho
  ·have ho:=leaveH_ok hk hL (x.1 % 10)
   rw [cdn hj,hier_Leave_is hd hk (by omega) L hL,ref_Leave_is hd hk (by omega) L hL]
   dsimp only [Option.bind_some]
   rw [sameHier_refl hd _ _ (ho.small hk)]
   dsimp only [Option.bind_some]
   rw [nt,cond_false,hier_May_is hd hk hk2 _ ho]
   dsimp only [Option.bind_some]
   rw [nt,cond_false]
   refine (all_L2 n m (pleachlaw9_HierAll_L1 n m) l id true i (by omega) true (k:Int) d _ true false (k:Int) d _ (ho.small hk) 10 n 0 (by omega) (by omega)).trans ?_
   exact all_L1 n hn hd hk hk2 l hl h6 id c m (i+1) _ (by omega) (by omega) ho
theorem pleachlaw9_HierAll_true {N M:Nat} (picks:List Int) (l:List (Int × Int)) (least id:Int) (h:wfPs [.val (.sl N (.int .u8)),.val (.sl M (.pair (.int .u8) (.int .u8))),.val (.int .u8),.val (.int .i64)] (picks,l,least,id,())):pleachlaw9_HierAll picks l least id=some ((true,()),()):=by
 obtain ⟨hp,hm,hle,_,_⟩:=h
 have hb:isBytes picks:=wf_sl8' hp
 have hl:∀ x∈l,(0≤x.1∧x.1<256)∧(0≤x.2∧x.2<256):=fun x hx=>⟨wf_u8.1 (hm.2 x hx).1,wf_u8.1 (hm.2 x hx).2⟩
 have hle:0≤least∧least<256:=wf_u8.1 hle
 show pleachlaw9_HierAll_T (pleachlaw9_HierAll_L1 1099511627776 1099511627776) picks l least id=_
 unfold pleachlaw9_HierAll_T
 rw [begun9']
 dsimp only [Option.bind_some,nt,nf,cond_false,cond_true]
 by_cases h1:picks.length>30
 ·rw [cdp (by omega)]
 rw [cdn (by omega)]
 by_cases h2:l.length>25
 ·rw [cdp (by omega)]
 rw [cdn (by omega)]
 unfold pleachmade_Made
 dsimp only [Option.bind_some]
 obtain ⟨d,s1,e1,hd,_⟩:=pk_dist (pk_made hb (by omega))
 rw [e1];dsimp only [Option.bind_some]
 obtain ⟨k,k2,ek⟩:∃ k:Nat,k≤4∧IntKind.wrap .i64 (Int.tmod least 5)=(k:Int):=by
  rw [Int.tmod_eq_emod_of_nonneg hle.1,wi64 (x:=least % 5) (by omega) (by omega)]
  exact ⟨(least % 5).toNat,by omega,by omega⟩
 rw [ek]
 by_cases hk:1≤k∧k≤3
 ·rw [hier_New_is hd hk.1 hk.2,ref_New_is hd hk.1 hk.2]
  dsimp only [Option.bind_some]
  have:(!(true==true))=false:=rfl
  rw [this,cond_false,sameHier_refl hd _ _ (HOk.small (d:=d) hk.1 HOk.nil)]
  dsimp only [Option.bind_some]
  rw [nt,cond_false]
  exact all_L1 1099511627776 (by omega) hd hk.1 hk.2 l hl (by omega) id l.length 1099511627776 0 [] (by omega) (by omega) HOk.nil
 ·have n1:hier_New d (k:Int)=some (((0,[],[]),false,()),()):=by
   unfold hier_New
   rw [hier_dist_is hd]
   dsimp only [Option.bind_some]
   rw [nt,cond_false]
   by_cases g:(k:Int)<1
   ·rw [cdp g]
   ·rw [cdn g,cdp (by omega)]
  have n2:pleachref7_New d (k:Int)=some (((0,[],[]),false,()),()):=by
   show pleachref7_New_T (pleachref7_New_L1 1099511627776 1099511627776) d (k:Int)=_
   unfold pleachref7_New_T
   rw [mayDist_eq d hd]
   dsimp only [Option.bind_some]
   rw [nt,cond_false]
   by_cases g:(k:Int)<1
   ·rw [cdp g]
   ·rw [cdn g,cdp (by omega)]
  rw [n1,n2]
  dsimp only [Option.bind_some]
  have:(!(false==false))=false:=rfl
  rw [this,cond_false,none_same]
  dsimp only [Option.bind_some]
  rw [nt,cond_false]
  have key:∀ n m:Nat,0<m→pleachlaw9_HierAll_L1 n m l id false 0 0 [] [] 0 [] []=some ((true,()),()):=by
   intro n m hm
   obtain ⟨m,rfl⟩:∃ m',m=m'+1:=⟨m - 1,by omega⟩
   show pleachlaw9_HierAll_B1 (pleachlaw9_HierAll_L2 n m (pleachlaw9_HierAll_L1 n m) n) l id false 0 0 [] [] 0 [] []=_
   unfold pleachlaw9_HierAll_B1
   by_cases g:(0:Int)<(l.length:Int)
   ·rw [cdp g,cond_false,nf,cond_true]
   ·rw [cdn g,nf,cond_true]
  exact key _ _ (by omega)
end Go.PE
