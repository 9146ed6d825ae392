/-
  Plain lemmas on the functions.
  Conditions: none.
-/
import Derived.Test.YtmfiijdlhjajcaaGreatDoorNodeServesPTieRef
set_option linter.unusedVariables false
set_option linter.unusedSimpArgs false
set_option maxRecDepth 20000
namespace Go.PE
theorem Zbx (n:Nat) {N:Int} (id inc now par pinc grand:Int) (path:List Int) (ep born asked til step:Int) (kids:List Kid) (h:TOk N (id,inc,now,par,pinc,grand,path,ep,born,asked,til,step,kids)):∀ (k m i:Nat) (acc:List Qk7),i+k=kids.length→k<m→acc.length≤1000+i →
  Qm4 n m (i:Int) id inc now par pinc grand path ep born asked til step kids 0 0 0 0 0 0 0 0 0 0 0 [] [] acc=some (((id,inc,now,par,pinc,grand,path,ep,born,asked,til,step,kids),acc++(if Qvc (id,inc,now,par,pinc,grand,path,ep,born,asked,til,step,kids)=true then (kids.drop i).map fun k=>Zp6 (id,inc,now,par,pinc,grand,path,ep,born,asked,til,step,kids) 5 k.1 else []),()),())
 | k,0,i,acc,_,hm,_=>by omega
 | 0,m+1,i,acc,hk,hm,ha=>by
  show Qnw (Qm4 n m) (i:Int) id inc now par pinc grand path ep born asked til step kids 0 0 0 0 0 0 0 0 0 0 0 [] [] acc=_
  unfold Qnw
  rw [cdn (by omega),List.drop_eq_nil_of_le (by omega)];simp
 | k+1,m+1,i,acc,hk,hm,ha=>by
  show Qnw (Qm4 n m) (i:Int) id inc now par pinc grand path ep born asked til step kids 0 0 0 0 0 0 0 0 0 0 0 [] [] acc=_
  have hi:i<kids.length:=by omega
  have hl:=h.kids.len
  dsimp only at hl
  unfold Qnw
  rw [cdp (by omega),Qzc h]
  dsimp only [Option.bind_some]
  cases hf:Qvc (id,inc,now,par,pinc,grand,path,ep,born,asked,til,step,kids) with
  | false=>rw [cond_false,if_neg (by simp),List.append_nil]
  | true=>
   rw [cond_true,ct (idx (by omega)),ct (idx (by omega)),Qk9,Qkm hi,Zb1 h]
   dsimp only [Option.bind_some]
   rw [cbp (by omega),Qqh (by omega),Zbx n id inc now par pinc grand path ep born asked til step kids h k m (i+1) _ (by omega) (by omega) (by rw [List.length_append,List.length_singleton];omega),hf,if_pos rfl,if_pos rfl,List.drop_eq_getElem_cons hi,List.map_cons,List.append_assoc];rfl
theorem Zam (n:Nat) {N:Int} (id inc now par pinc grand:Int) (path:List Int) (ep born asked til step:Int) (kids:List Kid) (h:TOk N (id,inc,now,par,pinc,grand,path,ep,born,asked,til,step,kids)):∀ (k m i:Nat) (acc:List Qk7),i+k=kids.length→k<m→acc.length≤1000+i →
  Qm3 n m (i:Int) id inc now par pinc grand path ep born asked til step kids 0 0 0 0 0 0 0 0 0 0 0 [] [] acc=some (((id,inc,now,par,pinc,grand,path,ep,born,asked,til,step,kids),acc++(if Qvc (id,inc,now,par,pinc,grand,path,ep,born,asked,til,step,kids)=true then (kids.drop i).map fun k=>Zp6 (id,inc,now,par,pinc,grand,path,ep,born,asked,til,step,kids) 5 k.1 else []),()),())
 | k,0,i,acc,_,hm,_=>by omega
 | 0,m+1,i,acc,hk,hm,ha=>by
  show Qo2 (Qm3 n m) (i:Int) id inc now par pinc grand path ep born asked til step kids 0 0 0 0 0 0 0 0 0 0 0 [] [] acc=_
  unfold Qo2
  rw [cdn (by omega),List.drop_eq_nil_of_le (by omega)];simp
 | k+1,m+1,i,acc,hk,hm,ha=>by
  show Qo2 (Qm3 n m) (i:Int) id inc now par pinc grand path ep born asked til step kids 0 0 0 0 0 0 0 0 0 0 0 [] [] acc=_
  have hi:i<kids.length:=by omega
  have hl:=h.kids.len
  dsimp only at hl
  unfold Qo2
  rw [cdp (by omega),Qzc h]
  dsimp only [Option.bind_some]
  cases hf:Qvc (id,inc,now,par,pinc,grand,path,ep,born,asked,til,step,kids) with
  | false=>rw [cond_false,if_neg (by simp),List.append_nil]
  | true=>
   rw [cond_true,ct (idx (by omega)),Qk9,Qkm hi,Zb1 h]
   dsimp only [Option.bind_some]
   rw [cbp (by omega),Qqh (by omega),Zam n id inc now par pinc grand path ep born asked til step kids h k m (i+1) _ (by omega) (by omega) (by rw [List.length_append,List.length_singleton];omega),hf,if_pos rfl,if_pos rfl,List.drop_eq_getElem_cons hi,List.map_cons,List.append_assoc];rfl
noncomputable def Zm5 (L:Qkd) (t:Tie) (ms:List Qk7):Option (((Tie) × (List Qk7) × Unit) × Unit):=
 bif !((Int.tmod t.2.2.1 2)==0) then some ((t,ms,()),()) else
 bif t.2.2.2.1 != 0 then Option.bind (Qk6 t 4 t.2.2.2.1) fun r=>L 0 t.1 t.2.1 t.2.2.1 t.2.2.2.1 t.2.2.2.2.1 t.2.2.2.2.2.1 t.2.2.2.2.2.2.1 t.2.2.2.2.2.2.2.1 t.2.2.2.2.2.2.2.2.1 t.2.2.2.2.2.2.2.2.2.1 t.2.2.2.2.2.2.2.2.2.2.1 t.2.2.2.2.2.2.2.2.2.2.2.1 t.2.2.2.2.2.2.2.2.2.2.2.2 0 0 0 0 0 0 0 0 0 0 0 [] [] (ms++[r.1.1])
 else L 0 t.1 t.2.1 t.2.2.1 t.2.2.2.1 t.2.2.2.2.1 t.2.2.2.2.2.1 t.2.2.2.2.2.2.1 t.2.2.2.2.2.2.2.1 t.2.2.2.2.2.2.2.2.1 t.2.2.2.2.2.2.2.2.2.1 t.2.2.2.2.2.2.2.2.2.2.1 t.2.2.2.2.2.2.2.2.2.2.2.1 t.2.2.2.2.2.2.2.2.2.2.2.2 0 0 0 0 0 0 0 0 0 0 0 [] [] ms
theorem Zs7 {N:Int} {t:Tie} (h:TOk N t) (n m:Nat) (hm:100<m) (ms:List Qk7) (hs:ms.length≤100):Zm5 (Qm4 n m) t ms=some ((t,ms++Zp3 t,()),()):=by
 obtain ⟨id,inc,now,par,pinc,grand,path,ep,born,asked,til,step,kids⟩:=t
 have h1:=h.now
 have hl:=h.kids.len
 dsimp only at h1 hl
 have lp:=fun acc ha=>Zbx n id inc now par pinc grand path ep born asked til step kids h kids.length m 0 acc (by omega) (by omega) ha
 unfold Zm5
 dsimp only
 rw [Int.tmod_eq_emod_of_nonneg h1.1]
 unfold Zp3
 dsimp only
 by_cases a:now % 2=0
 ·rw [if_pos a,Zs5,Z2n a]
  by_cases b:par=0
  ·rw [Zk0 b,if_neg (by simp [b])]
   exact lp ms (by omega)
  ·rw [Znw b,if_pos b,Z5x]
   dsimp only [Option.bind_some]
   rw [← List.append_assoc]
   exact lp (ms++[Zt1 (id,inc,now,par,pinc,grand,path,ep,born,asked,til,step,kids) 4 par]) (by rw [List.length_append,List.length_singleton];omega)
 ·rw [if_neg a,Zs5,Z0t a,List.append_nil]
theorem Zqr {N:Int} {t:Tie} (h:TOk N t) (n m:Nat) (hm:100<m) (ms:List Qk7) (hs:ms.length≤100):Zm5 (Qm3 n m) t ms=some ((t,ms++Zp3 t,()),()):=by
 obtain ⟨id,inc,now,par,pinc,grand,path,ep,born,asked,til,step,kids⟩:=t
 have h1:=h.now
 have hl:=h.kids.len
 dsimp only at h1 hl
 have lp:=fun acc ha=>Zam n id inc now par pinc grand path ep born asked til step kids h kids.length m 0 acc (by omega) (by omega) ha
 unfold Zm5
 dsimp only
 rw [Int.tmod_eq_emod_of_nonneg h1.1]
 unfold Zp3
 dsimp only
 by_cases a:now % 2=0
 ·rw [if_pos a,Zs5,Z2n a]
  by_cases b:par=0
  ·rw [Zk0 b,if_neg (by simp [b])]
   exact lp ms (by omega)
  ·rw [Znw b,if_pos b,Z5x]
   dsimp only [Option.bind_some]
   rw [← List.append_assoc]
   exact lp (ms++[Zt1 (id,inc,now,par,pinc,grand,path,ep,born,asked,til,step,kids) 4 par]) (by rw [List.length_append,List.length_singleton];omega)
 ·rw [if_neg a,Zs5,Z0t a,List.append_nil]
theorem Zkf {N:Int} {t:Tie} (h:TOk N t) (hN:N+1≤562949953421312) (L M:Qkd):Qot L M t=Zm5 L (Z75 t).1 (Z75 t).2∨Qot L M t=Zm5 M (Z75 t).1 (Z75 t).2:=by
 have hp:=fun v hv=>Zlk h.kids v hv
 have h0:=Zn3 h hN
 obtain ⟨id,inc,now,par,pinc,grand,path,ep,born,asked,til,step,kids⟩:=t
 have h1:=h.now
 have h2:=h.step
 have h3:=h.ep
 have h4:=h.born
 dsimp only at h1 h2 h3 h4 hp
 have w1:IntKind.wrap .i64 (now+1)=now+1:=Qq3 (by omega) (by omega)
 have w2:IntKind.wrap .i64 (now+1+3)=now+1+3:=Qq3 (by omega) (by omega)
 have w3:IntKind.wrap .i64 (step+1)=step+1:=Qq3 (by omega) (by omega)
 have w4:IntKind.wrap .i64 (ep+1)=ep+1:=Qq3 (by omega) (by omega)
 have hst:¬ step+1=0:=by omega
 generalize hkk:Z1j kids (now+1)=kk at *
 have J1:Qq8 (id,inc,now,par,pinc,grand,path,ep,born,asked,til,step,kids) ((kk,()),()) L=Zm5 L (id,inc,now+1,par,pinc,grand,path,ep,born,asked,til,step,kk) []:=by
  unfold Qq8
  dsimp only [g3,g4,g5,g6,g7,g8,g9,g10,g11,g12,h3,h4,h5,h6,h7,h8,h9,h10,h11,h12,u0,u1,u2,u3,u4,u5,u6,u7,u8,u9,u10,u11,u12,e1,e2,e3,e4,e5,e6,e7,e8,e9,e10,e11,e12]
  rw [w1];rfl
 have J3:Qq6 (((id,inc,now+1,0,0,grand,[],ep,born,0,til,0,kk),()),()) (id,inc,now,par,pinc,grand,path,ep,born,asked,til,step,kids) M=Zm5 M (id,inc,now+1,0,0,grand,[],ep,born,1,now+1+3,0,kk) [(1,id,1,inc,0,0,[],0,0,ebA)]:=by
  unfold Qq6
  dsimp only [g3,g4,g5,g6,g7,g8,g9,g10,g11,g12,h3,h4,h5,h6,h7,h8,h9,h10,h11,h12,u0,u1,u2,u3,u4,u5,u6,u7,u8,u9,u10,u11,u12,e1,e2,e3,e4,e5,e6,e7,e8,e9,e10,e11,e12]
  rw [w1,w2];rfl
 have J6:Qq5 (id,inc,now,par,pinc,grand,path,ep,born,asked,til,step,kids) ((kk,()),()) L=Zm5 L (id,inc,now+1,par,pinc,grand,path,ep,born,1,now+1+3,step+1,kk) [(1,id,1,inc,0,0,[],0,0,ebA)]:=by
  unfold Qq5
  dsimp only [g3,g4,g5,g6,g7,g8,g9,g10,g11,g12,h3,h4,h5,h6,h7,h8,h9,h10,h11,h12,u0,u1,u2,u3,u4,u5,u6,u7,u8,u9,u10,u11,u12,e1,e2,e3,e4,e5,e6,e7,e8,e9,e10,e11,e12]
  rw [w1,w2,w3];rfl
 have J7:Qq1 (id,inc,now,par,pinc,grand,path,ep,born,asked,til,step,kids) ((kk,()),()) L=Zm5 L (id,inc,now+1,par,pinc,grand,path,ep,born,1,now+1+3,step,kk) [(1,id,1,inc,0,0,[],0,0,ebA)]:=by
  unfold Qq1
  dsimp only [g3,g4,g5,g6,g7,g8,g9,g10,g11,g12,h3,h4,h5,h6,h7,h8,h9,h10,h11,h12,u0,u1,u2,u3,u4,u5,u6,u7,u8,u9,u10,u11,u12,e1,e2,e3,e4,e5,e6,e7,e8,e9,e10,e11,e12]
  rw [w1,w2];rfl
 have J8:Qss (id,inc,now,par,pinc,grand,path,ep,born,asked,til,step,kids) ((kk,()),()) L=if asked=0 then Zm5 L (id,inc,now+1,par,pinc,grand,path,ep,born,(if step=0∧grand≠0∧grand≠id then grand else 1),now+1+3,step,kk) [(1,id,(if step=0∧grand≠0∧grand≠id then grand else 1),inc,0,0,[],0,0,ebA)]
   else Zm5 L (id,inc,now+1,par,pinc,grand,path,ep,born,asked,til,step,kk) []:=by
  unfold Qss
  rw [J1,J7]
  dsimp only [g3,g4,g5,g6,g7,g8,g9,g10,g11,g12,h3,h4,h5,h6,h7,h8,h9,h10,h11,h12,u0,u1,u2,u3,u4,u5,u6,u7,u8,u9,u10,u11,u12,e1,e2,e3,e4,e5,e6,e7,e8,e9,e10,e11,e12]
  rw [ceq]
  by_cases a:asked=0
  ·rw [if_pos a,if_pos a,ceq]
   by_cases b:step=0
   ·rw [if_pos b,Zd0]
    by_cases c:grand=0
    ·rw [if_pos c,if_neg (by simp [c])]
    ·rw [if_neg c,Zd0]
     by_cases d:grand=id
     ·rw [if_pos d,if_neg (by simp [d])]
     ·rw [if_neg d,if_pos ⟨b,c,d⟩,w1,w2];rfl
   ·rw [if_neg b,if_neg (by simp [b])]
  ·rw [if_neg a,if_neg a]
 have J9:Qst (id,inc,now,par,pinc,grand,path,ep,born,asked,til,step,kids) ((kk,()),()) L=Zm5 L (Zn4 (id,inc,now+1,par,pinc,grand,path,ep,born,asked,til,step,kk)).1 (Zn4 (id,inc,now+1,par,pinc,grand,path,ep,born,asked,til,step,kk)).2:=by
  unfold Qst
  rw [J1,J6,J8,Zn4]
  dsimp only [g3,g4,g5,g6,g7,g8,g9,g10,g11,g12,h3,h4,h5,h6,h7,h8,h9,h10,h11,h12,u0,u1,u2,u3,u4,u5,u6,u7,u8,u9,u10,u11,u12,e1,e2,e3,e4,e5,e6,e7,e8,e9,e10,e11,e12]
  rw [ceq]
  by_cases p:par=0
  ·rw [if_pos p,if_neg (show ¬ par≠0 from fun e=>e p),Zd0]
   by_cases a:asked=0
   ·rw [if_pos a,if_pos a,if_neg (show ¬ (asked≠0∧¬ til≤now+1) from fun e=>e.1 a)]
    dsimp only
    rw [if_pos a]
   ·rw [if_neg a,w1,w3,cp]
    by_cases b:til≤now+1
    ·rw [if_pos b,Z0t hst,if_neg (show ¬ (asked≠0∧¬ til≤now+1) from fun e=>e.2 b)]
     dsimp only
     rw [if_neg a,if_neg (show ¬ (step+1=0∧grand≠0∧grand≠id) from fun e=>hst e.1)]
    ·rw [if_neg b,if_neg a,if_pos (show asked≠0∧¬ til≤now+1 from ⟨a,b⟩)]
  ·rw [if_neg p,if_pos p]
 unfold Qot
 dsimp only [g3,g4,g5,g6,g7,g8,g9,g10,g11,g12,h3,h4,h5,h6,h7,h8,h9,h10,h11,h12,u0,u1,u2,u3,u4,u5,u6,u7,u8,u9,u10,u11,u12,e1,e2,e3,e4,e5,e6,e7,e8,e9,e10,e11,e12]
 rw [w1,hp (now+1) (by have:=h.big;omega)]
 dsimp only [Option.bind_some]
 rw [hkk,J1,J9,Int.tmod_eq_emod_of_nonneg (by omega),Z75]
 dsimp only
 rw [ceq]
 by_cases c1:id=1
 ·refine .inl ?_
  rw [if_pos c1,if_pos c1,Zb2,if_pos c1,ceq,hkk]
  by_cases c2:(now+1) % 2=0
  ·rw [if_pos c2,if_pos c2,w4]
   show _=Zm5 L _ _
   unfold Zm5
   dsimp only
   rw [Int.tmod_eq_emod_of_nonneg (by omega)];rfl
  ·rw [if_neg c2,if_neg c2]
 ·rw [if_neg c1,if_neg c1,Zb2,if_neg c1,Zd0,hkk]
  by_cases p:par=0
  ·refine .inl ?_
   rw [if_pos p,if_neg (show ¬ (par≠0∧¬ now+1 - born≤20) from fun e=>e.1 p)]
  ·rw [if_neg p]
   have fr:=Qzc (N:=N+1) (t:=(id,inc,now+1,par,pinc,grand,path,ep,born,asked,til,step,kk)) ⟨h.id,h.inc,by dsimp only;omega,h.par,h.pinc,h.grand,h.path,by dsimp only;omega,by dsimp only;omega,h.asked,by have:=h.til;dsimp only at *;omega,by dsimp only;omega,by rw [← hkk];exact h.kids.filter _,hN,h.one⟩
   rw [fr]
   dsimp only [Option.bind_some]
   have ef:Qvc (id,inc,now+1,par,pinc,grand,path,ep,born,asked,til,step,kk)=decide (now+1 - born≤20):=by
    rw [Qvc];exact decide_eq_decide.2 ⟨fun e=>e.elim (fun e=>absurd e c1) (·.2),fun e=>.inr ⟨p,e⟩⟩
   rw [ef]
   by_cases c4:now+1 - born≤20
   ·refine .inl ?_
    rw [decide_eq_true c4,nt,cond_false,if_neg (show ¬ (par≠0∧¬ now+1 - born≤20) from fun e=>e.2 c4)]
   ·refine .inr ?_
    rw [decide_eq_false c4,nf,cond_true,if_pos (show par≠0∧¬ now+1 - born≤20 from ⟨p,c4⟩),Zis,Zor]
    dsimp only [Option.bind_some]
    rw [Z2n rfl,Zk0 rfl]
    unfold Qvp
    rw [J3]
    dsimp only [g3,g4,g5,g6,g7,g8,g9,g10,g11,g12,h3,h4,h5,h6,h7,h8,h9,h10,h11,h12,u0,u1,u2,u3,u4,u5,u6,u7,u8,u9,u10,u11,u12,e1,e2,e3,e4,e5,e6,e7,e8,e9,e10,e11,e12]
    rw [Z2n rfl,Z2n rfl,Zn4,if_neg (show ¬ (0:Int)≠0 by decide),if_neg (show ¬ ((0:Int)≠0∧¬ til≤now+1) from fun e=>e.1 rfl)]
    dsimp only
    rw [if_pos rfl]
    by_cases c:grand=0
    ·rw [Zk0 c,if_neg (show ¬ ((0:Int)=0∧grand≠0∧grand≠id) from fun e=>e.2.1 c)]
    ·rw [Znw c]
     by_cases d:grand=id
     ·rw [Zk0 d,if_neg (show ¬ ((0:Int)=0∧grand≠0∧grand≠id) from fun e=>e.2.2 d)]
     ·rw [Znw d,if_pos ⟨rfl,c,d⟩,w2,w1];rfl
theorem Zr1 (t:Tie):(Z75 t).2.length≤1:=by
 unfold Z75
 split
 ·simp
 ·obtain ⟨id,inc,now,par,pinc,grand,path,ep,born,asked,til,step,kids⟩:=Zb2 t
  rw [Zn4]
  split
  ·simp
  ·split<;>simp
theorem Zja {N:Int} {t:Tie} (h:TOk N t) (hN:N+1≤562949953421312):Qvm t=some (((Zjf t).1,(Zjf t).2,()),()):=by
 have key:∀ n,100<n→Qot (Qm4 n n) (Qm3 n n) t=some (((Zjf t).1,(Zjf t).2,()),()):=by
  intro n hn
  have hms:=Zr1 t
  rcases Zkf h hN (Qm4 n n) (Qm3 n n) with e | e
  ·rw [e,Zs7 (Zjp h hN) n n hn _ (by omega)];rfl
  ·rw [e,Zqr (Zjp h hN) n n hn _ (by omega)];rfl
 exact key 1099511627776 (by decide)
end Go.PE
