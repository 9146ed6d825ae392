/-
  Plain lemmas on the functions.
  Conditions: none.
-/
import Derived.Test.YtmfiijdlhjajcaaGreatDoorNodeDeafPNodeSame
set_option linter.unusedVariables false
set_option linter.unusedSimpArgs false
set_option maxRecDepth 20000
namespace Go.PE
theorem Zsb (l:List Kid) (h:l.length≤1073741824):Qme l=some ((l,()),()):=by unfold Qme;rw [cbp h]
theorem Zoq (l:List Qtl) (h:l.length≤1073741824):Qkh l=some ((l,()),()):=by unfold Qkh;rw [cbp h]
theorem Zsf (l:List Evt) (h:l.length≤1073741824):Qkx l=some ((l,()),()):=by unfold Qkx;rw [cbp h]
theorem Zrz (l:List Int) (h:l.length≤1073741824):Qn6 l=some ((l,()),()):=by unfold Qn6;rw [cbp h]
theorem Zs0 {n:Zlj} (h:NSm n):Qqp n=some ((n,()),()):=by
 have hp:=h.path
 have hk:=h.kids
 obtain ⟨_,h1,h2,h3⟩:=h.feed
 unfold Qqp
 rw [Zrz _ (by show n.2.2.2.1.2.2.2.2.2.2.1.length≤_;omega)]
 dsimp only [Option.bind_some]
 rw [Zsb _ (by show n.2.2.2.1.2.2.2.2.2.2.2.2.2.2.2.2.length≤_;omega)]
 dsimp only [Option.bind_some]
 rw [Zoq _ (by show n.2.2.2.2.1.2.2.1.length≤_;omega)]
 dsimp only [Option.bind_some]
 rw [Zoq _ (by show n.2.2.2.2.1.2.2.2.1.length≤_;omega)]
 dsimp only [Option.bind_some]
 rw [Zsf _ (by show n.2.2.2.2.1.2.2.2.2.1.length≤_;omega)]
 rfl
def Zsv (n:Zlj):Zlj:=(n.1,n.2.1,n.2.2.1,n.2.2.2.1,n.2.2.2.2.1,min (n.2.2.2.2.2+1) 1073741824)
theorem Zsg {n:Zlj} (h:NSm n) (ho:n.1=true) (hbd:0≤n.2.2.2.2.2∧n.2.2.2.2.2≤1073741824) {b:List Int} (hb:Qk9 b) (hl:b.length≤1000000000) (hd:∀ m,Z67 b=some m→m.to≠n.2.2.2.1.1):Qtv n b=some ((Zsv n,[],()),()):=by
 have e:(if 1073741824<IntKind.wrap .i64 (n.2.2.2.2.2+1) then 1073741824 else IntKind.wrap .i64 (n.2.2.2.2.2+1))=min (n.2.2.2.2.2+1) 1073741824:=by
  rw [Qsk (by omega) (by omega)];split<;>omega
 have fin:(some (((e5 n (if 1073741824<IntKind.wrap .i64 ((h5 n)+1) then 1073741824 else IntKind.wrap .i64 ((h5 n)+1))),[],()),()):Option (((Zlj) × (List Qk7) × Unit) × Unit))=some ((Zsv n,[],()),()):=by
  show some (((n.1,n.2.1,n.2.2.1,n.2.2.2.1,n.2.2.2.2.1,if 1073741824<IntKind.wrap .i64 (n.2.2.2.2.2+1) then 1073741824 else IntKind.wrap .i64 (n.2.2.2.2.2+1)),[],()),())=_
  rw [e];rfl
 unfold Qtv
 rw [Zs0 h]
 dsimp only [Option.bind_some]
 rw [ho,nt,cond_false,Zn1 b hb hl]
 cases ht:Z67 b with
 | none=>exact fin
 | some m=>
  rw [show Zpa (some m)=((m,true,()),()) from rfl]
  dsimp only [Option.bind_some]
  rw [nt,cond_false,Zr7 (show m.2.2.1≠(g3 n).1 from hd m ht)]
  exact fin
theorem Zse {n:Zlj} (h:NSm n) (ho:n.1=false) (b:List Int):Qtv n b=some ((n,[],()),()):=by
 unfold Qtv
 rw [Zs0 h]
 dsimp only [Option.bind_some]
 rw [ho,nf,cond_true]
theorem Zsj {n:Zlj} (h:NSm n) (ho:n.1=false):Zh7 n=some ((n,[],()),()):=by
 have key:∀ a b,Z64 (Z7r a b) n=some ((n,[],()),()):=by
  intro a b
  unfold Z64
  rw [Zs0 h]
  dsimp only [Option.bind_some]
  rw [ho,nf,cond_true]
 exact key 1099511627776 1099511627776
def Zep (n:Zlj):Zlj:=(false,n.2.1,(⟨#[]⟩:ByteArray),Ztb,(0,0,[],[],[],0,0),n.2.2.2.2.2)
theorem Zmp (n:Zlj) (ho:n.1=true):Qrn n=some ((Zep n,()),()):=by
 unfold Qrn
 rw [ho];rfl
theorem Zkk (n:Zlj):NSm (Zep n):=⟨by simp [Zep],by simp [Zep],⟨by simp [Zep],by simp [Zep],by simp [Zep],by simp [Zep]⟩⟩
theorem Zsa:Qxy=some ((true,()),()):=by kernel_rfl
theorem Zm7 (n0:Nat) {n:Zlj} (h:NSm n) (ho:n.1=true) (hbd:0≤n.2.2.2.2.2∧n.2.2.2.2.2≤1000) {lots:List (List Int)} (h3:lots.length=3) (hb:∀ b∈lots,Qk9 b∧b.length≤1000000):∀ (k m i:Nat),i+k=3→k<m →
  Ql0 n0 m n.2.2.2.1.1 (i:Int) n.1 n.2.1 n.2.2.1 n.2.2.2.1.1 n.2.2.2.1.2.1 n.2.2.2.1.2.2.1 n.2.2.2.1.2.2.2.1 n.2.2.2.1.2.2.2.2.1 n.2.2.2.1.2.2.2.2.2.1 n.2.2.2.1.2.2.2.2.2.2.1 n.2.2.2.1.2.2.2.2.2.2.2.1 n.2.2.2.1.2.2.2.2.2.2.2.2.1 n.2.2.2.1.2.2.2.2.2.2.2.2.2.1 n.2.2.2.1.2.2.2.2.2.2.2.2.2.2.1 n.2.2.2.1.2.2.2.2.2.2.2.2.2.2.2.1 n.2.2.2.1.2.2.2.2.2.2.2.2.2.2.2.2 n.2.2.2.2.1.1 n.2.2.2.2.1.2.1 n.2.2.2.2.1.2.2.1 n.2.2.2.2.1.2.2.2.1 n.2.2.2.2.1.2.2.2.2.1 n.2.2.2.2.1.2.2.2.2.2.1 n.2.2.2.2.1.2.2.2.2.2.2 n.2.2.2.2.2 lots=some ((true,()),())
 | k,0,i,_,hm=>by omega
 | 0,m+1,i,hk,hm=>by
  show Qls (Ql0 n0 m) n.2.2.2.1.1 (i:Int) n.1 n.2.1 n.2.2.1 n.2.2.2.1.1 n.2.2.2.1.2.1 n.2.2.2.1.2.2.1 n.2.2.2.1.2.2.2.1 n.2.2.2.1.2.2.2.2.1 n.2.2.2.1.2.2.2.2.2.1 n.2.2.2.1.2.2.2.2.2.2.1 n.2.2.2.1.2.2.2.2.2.2.2.1 n.2.2.2.1.2.2.2.2.2.2.2.2.1 n.2.2.2.1.2.2.2.2.2.2.2.2.2.1 n.2.2.2.1.2.2.2.2.2.2.2.2.2.2.1 n.2.2.2.1.2.2.2.2.2.2.2.2.2.2.2.1 n.2.2.2.1.2.2.2.2.2.2.2.2.2.2.2.2 n.2.2.2.2.1.1 n.2.2.2.2.1.2.1 n.2.2.2.2.1.2.2.1 n.2.2.2.2.1.2.2.2.1 n.2.2.2.2.1.2.2.2.2.1 n.2.2.2.2.1.2.2.2.2.2.1 n.2.2.2.2.1.2.2.2.2.2.2 n.2.2.2.2.2 lots=_
  unfold Qls
  rw [cdn (by omega)]
 | k+1,m+1,i,hk,hm=>by
  have ih:=Zm7 n0 h ho hbd h3 hb k m (i+1) (by omega) (by omega)
  have hi:i<lots.length:=by omega
  have hbi:=hb _ (List.getElem_mem hi)
  have J:(∀ mm,Z67 lots[i]=some mm→mm.to≠n.2.2.2.1.1)→Qp5 (i:Int) lots n.1 n.2.1 n.2.2.1 n.2.2.2.1.1 n.2.2.2.1.2.1 n.2.2.2.1.2.2.1 n.2.2.2.1.2.2.2.1 n.2.2.2.1.2.2.2.2.1 n.2.2.2.1.2.2.2.2.2.1 n.2.2.2.1.2.2.2.2.2.2.1 n.2.2.2.1.2.2.2.2.2.2.2.1 n.2.2.2.1.2.2.2.2.2.2.2.2.1 n.2.2.2.1.2.2.2.2.2.2.2.2.2.1 n.2.2.2.1.2.2.2.2.2.2.2.2.2.2.1 n.2.2.2.1.2.2.2.2.2.2.2.2.2.2.2.1 n.2.2.2.1.2.2.2.2.2.2.2.2.2.2.2.2 n.2.2.2.2.1.1 n.2.2.2.2.1.2.1 n.2.2.2.2.1.2.2.1 n.2.2.2.2.1.2.2.2.1 n.2.2.2.2.1.2.2.2.2.1 n.2.2.2.2.1.2.2.2.2.2.1 n.2.2.2.2.1.2.2.2.2.2.2 n.2.2.2.2.2 (Ql0 n0 m) n.2.2.2.1.1=some ((true,()),()):=by
   intro hd
   unfold Qp5
   rw [ct (idx (by omega)),ct (idx (by omega)),Qkl,Qms hi]
   rw [show Qtv (n.1,n.2.1,n.2.2.1,(n.2.2.2.1.1,n.2.2.2.1.2.1,n.2.2.2.1.2.2.1,n.2.2.2.1.2.2.2.1,n.2.2.2.1.2.2.2.2.1,n.2.2.2.1.2.2.2.2.2.1,n.2.2.2.1.2.2.2.2.2.2.1,n.2.2.2.1.2.2.2.2.2.2.2.1,n.2.2.2.1.2.2.2.2.2.2.2.2.1,n.2.2.2.1.2.2.2.2.2.2.2.2.2.1,n.2.2.2.1.2.2.2.2.2.2.2.2.2.2.1,n.2.2.2.1.2.2.2.2.2.2.2.2.2.2.2.1,n.2.2.2.1.2.2.2.2.2.2.2.2.2.2.2.2),(n.2.2.2.2.1.1,n.2.2.2.2.1.2.1,n.2.2.2.2.1.2.2.1,n.2.2.2.2.1.2.2.2.1,n.2.2.2.2.1.2.2.2.2.1,n.2.2.2.2.1.2.2.2.2.2.1,n.2.2.2.2.1.2.2.2.2.2.2),n.2.2.2.2.2) lots[i]=_ from Zsg h ho (by omega) hbi.1 (by omega) hd]
   dsimp only [Option.bind_some]
   rw [Zni (show (([]:List Qk7).length:Int)=0 from rfl),Qsk (by omega) (by omega)]
   have eb:Zsv n=(n.1,n.2.1,n.2.2.1,n.2.2.2.1,n.2.2.2.2.1,n.2.2.2.2.2+1):=by unfold Zsv;rw [show min (n.2.2.2.2.2+1) 1073741824=n.2.2.2.2.2+1 by omega]
   have e1:Qm1 (Zsv n) (n.1,n.2.1,n.2.2.1,(n.2.2.2.1.1,n.2.2.2.1.2.1,n.2.2.2.1.2.2.1,n.2.2.2.1.2.2.2.1,n.2.2.2.1.2.2.2.2.1,n.2.2.2.1.2.2.2.2.2.1,n.2.2.2.1.2.2.2.2.2.2.1,n.2.2.2.1.2.2.2.2.2.2.2.1,n.2.2.2.1.2.2.2.2.2.2.2.2.1,n.2.2.2.1.2.2.2.2.2.2.2.2.2.1,n.2.2.2.1.2.2.2.2.2.2.2.2.2.2.1,n.2.2.2.1.2.2.2.2.2.2.2.2.2.2.2.1,n.2.2.2.1.2.2.2.2.2.2.2.2.2.2.2.2),(n.2.2.2.2.1.1,n.2.2.2.2.1.2.1,n.2.2.2.2.1.2.2.1,n.2.2.2.2.1.2.2.2.1,n.2.2.2.2.1.2.2.2.2.1,n.2.2.2.2.1.2.2.2.2.2.1,n.2.2.2.2.1.2.2.2.2.2.2),n.2.2.2.2.2+1)=some ((true,()),()):=by
    rw [eb];exact Zmv (n.1,n.2.1,n.2.2.1,n.2.2.2.1,n.2.2.2.2.1,n.2.2.2.2.2+1) ⟨h.path,h.kids,h.feed⟩
   rw [e1]
   dsimp only [Option.bind_some]
   rw [nt,cond_false]
   rw [show Qrn (n.1,n.2.1,n.2.2.1,(n.2.2.2.1.1,n.2.2.2.1.2.1,n.2.2.2.1.2.2.1,n.2.2.2.1.2.2.2.1,n.2.2.2.1.2.2.2.2.1,n.2.2.2.1.2.2.2.2.2.1,n.2.2.2.1.2.2.2.2.2.2.1,n.2.2.2.1.2.2.2.2.2.2.2.1,n.2.2.2.1.2.2.2.2.2.2.2.2.1,n.2.2.2.1.2.2.2.2.2.2.2.2.2.1,n.2.2.2.1.2.2.2.2.2.2.2.2.2.2.1,n.2.2.2.1.2.2.2.2.2.2.2.2.2.2.2.1,n.2.2.2.1.2.2.2.2.2.2.2.2.2.2.2.2),(n.2.2.2.2.1.1,n.2.2.2.2.1.2.1,n.2.2.2.2.1.2.2.1,n.2.2.2.2.1.2.2.2.1,n.2.2.2.2.1.2.2.2.2.1,n.2.2.2.2.1.2.2.2.2.2.1,n.2.2.2.2.1.2.2.2.2.2.2),n.2.2.2.2.2)=_ from Zmp n ho]
   dsimp only [Option.bind_some]
   rw [Zse (Zkk n) rfl,Zsj (Zkk n) rfl]
   dsimp only [Option.bind_some]
   rw [show IntKind.wrap .i64 ((([]:List Qk7).length:Int)+(([]:List Qk7).length:Int))=0 by decide,Zni rfl,Zmv _ (Zkk n)]
   dsimp only [Option.bind_some]
   rw [nt,cond_false,cond_false,Qwl (by omega),ct (idx (by omega)),ct (idx (by omega))]
   exact ih
  show Qls (Ql0 n0 m) n.2.2.2.1.1 (i:Int) n.1 n.2.1 n.2.2.1 n.2.2.2.1.1 n.2.2.2.1.2.1 n.2.2.2.1.2.2.1 n.2.2.2.1.2.2.2.1 n.2.2.2.1.2.2.2.2.1 n.2.2.2.1.2.2.2.2.2.1 n.2.2.2.1.2.2.2.2.2.2.1 n.2.2.2.1.2.2.2.2.2.2.2.1 n.2.2.2.1.2.2.2.2.2.2.2.2.1 n.2.2.2.1.2.2.2.2.2.2.2.2.2.1 n.2.2.2.1.2.2.2.2.2.2.2.2.2.2.1 n.2.2.2.1.2.2.2.2.2.2.2.2.2.2.2.1 n.2.2.2.1.2.2.2.2.2.2.2.2.2.2.2.2 n.2.2.2.2.1.1 n.2.2.2.2.1.2.1 n.2.2.2.2.1.2.2.1 n.2.2.2.2.1.2.2.2.1 n.2.2.2.2.1.2.2.2.2.1 n.2.2.2.2.1.2.2.2.2.2.1 n.2.2.2.2.1.2.2.2.2.2.2 n.2.2.2.2.2 lots=_
  unfold Qls
  rw [cdp (by omega),ct (idx (by omega)),ct (idx (by omega)),Qkl,Qms hi,Zhu _ hbi.1 (by omega)]
  dsimp only [Option.bind_some]
  cases ht:Z67 lots[i] with
  | none=>exact J (fun mm e=>by rw [ht] at e;cases e)
  | some mm=>
   rw [show Zpa (some mm)=((mm,true,()),()) from rfl]
   dsimp only
   rw [cond_true,show mm.2.2.1=mm.to from rfl,ceq,Qwl (by omega)]
   by_cases a:mm.to=n.2.2.2.1.1
   ·rw [if_pos a];exact ih
   ·rw [if_neg a];exact J (fun m2 e=>by rw [ht] at e;cases e;exact a)
theorem Znq {l:List Int} (h:Qk9 l) (i:Nat) {x:Int} (hx:0≤x∧x<256):Qk9 (l.set i x):=by
 intro y hy
 rcases List.mem_or_eq_of_mem_set hy with h1 | h1
 ·exact h y h1
 ·rw [h1];exact hx
theorem Zsw (x:Int):0≤IntKind.wrap .u8 x∧IntKind.wrap .u8 x<256:=by rw [Znz];omega
theorem Z3s {A B C:Nat} (picks more b:List Int) (who:Int) (h:Qhw [.val (.sl A (.int .u8)),.val (.sl B (.int .u8)),.val (.sl C (.int .u8)),.val (.int .u8)] (picks,more,b,who,())):Qre picks more b who=some ((true,()),()):=by
 obtain ⟨w1,w2,w3,w4,_⟩:=h
 have hb1:Qk9 picks:=fun x hx=>Zqb.1 (w1.2 x hx)
 have hb2:Qk9 more:=fun x hx=>Zqb.1 (w2.2 x hx)
 have hb3:Qk9 b:=fun x hx=>Zqb.1 (w3.2 x hx)
 have hw:0≤who∧who<256:=Zqb.1 w4
 have key:∀ n m,100<m→Qq5 (Ql0 n m) picks more b who=some ((true,()),()):=by
  intro n0 m hm
  unfold Qq5
  rw [Zsa]
  dsimp only [Option.bind_some]
  rw [nt,cond_false]
  by_cases a1:150<picks.length
  ·rw [cdp (by omega)]
  rw [cdn (by omega)]
  by_cases a2:15<more.length
  ·rw [cdp (by omega)]
  rw [cdn (by omega)]
  by_cases a3:60<b.length
  ·rw [cdp (by omega)]
  rw [cdn (by omega)]
  have e8:Int.tmod who 8=who % 8:=Int.tmod_eq_emod_of_nonneg (by omega)
  rw [e8,Qsk (x:=who % 8) (by omega) (by omega),Qsk (x:=1+who % 8) (by omega) (by omega),show Int.tmod (1+who % 8) 8=(1+who % 8) % 8 from Int.tmod_eq_emod_of_nonneg (by omega),Qsk (x:=1+(1+who % 8) % 8) (by omega) (by omega)]
  obtain ⟨n,en,hn,hid,hti,hbad⟩:=Zs9 picks hb1 (by omega) (1+who % 8) (by omega)
  rw [en]
  dsimp only [Option.bind_some]
  rw [show Qrk more=some (((more,0),()),()) from rfl]
  dsimp only [Option.bind_some]
  obtain ⟨m1,s1,e1,hm1,_,_,hs1⟩:=Znb (Zoo hb2 (by omega)) (1+(1+who % 8) % 8) (by omega)
  rw [e1]
  dsimp only [Option.bind_some]
  rw [Z3u _ (by have:=(Qz1 hm1).pl;omega)]
  dsimp only [Option.bind_some]
  obtain ⟨m2,s2,e2,hm2,_,_,hs2⟩:=Znb (Zoo hb2 (by omega)) (1+who % 8) (by omega)
  rw [e2]
  dsimp only [Option.bind_some]
  rw [Z3u _ (by have:=(Qz1 hm2).pl;omega)]
  dsimp only [Option.bind_some]
  have hl2:=Zlg m2
  have hl4:4≤(Qtk m2).length:=by
   unfold Qtk;rw [if_pos hm2,List.length_append,Z1w];omega
  have et:Int.tmod (b.length:Int) ((Qtk m2).length:Int)=(b.length:Int) % ((Qtk m2).length:Int):=Int.tmod_eq_emod_of_nonneg (by omega)
  have r1:=Int.emod_nonneg (b.length:Int) (show ((Qtk m2).length:Int)≠0 by omega)
  have r2:=Int.emod_lt_of_pos (b.length:Int) (show 0<((Qtk m2).length:Int) by omega)
  rw [List.nil_append,cbp (by omega),Zsp,Zdd (by omega),et,Qsk (x:=((Qtk m2).length:Int) - 1) (by omega) (by omega),Qsk (x:=((Qtk m2).length:Int) - 1 - (b.length:Int) % ((Qtk m2).length:Int)) (by omega) (by omega)]
  have hx:(decide (0≤((Qtk m2).length:Int) - 1 - (b.length:Int) % ((Qtk m2).length:Int))&&decide (((Qtk m2).length:Int) - 1 - (b.length:Int) % ((Qtk m2).length:Int)<((Qtk m2).length:Int)))=true:=bt (by omega) (by omega)
  rw [ct hx,ct hx,ct hx,ct hx,← hid]
  refine Zm7 n0 hn.nsm hn.on (by have:=hn.bad;omega) (by rfl) ?_ 3 m 0 (by omega) (by omega)
  intro q hq
  simp only [List.mem_cons,List.not_mem_nil,or_false] at hq
  rcases hq with rfl | rfl | rfl
  ·exact ⟨hb3,by omega⟩
  ·exact ⟨Zdf _,by have:=Zlg m1;omega⟩
  ·exact ⟨Znq (Zdf _) _ (Zsw _),by rw [List.length_set];omega⟩
 exact key 1099511627776 1099511627776 (by decide)
end Go.PE
