/-
  Plain lemmas on the functions.
  Conditions: none.
-/
import Derived.Test.YtmfiijdlhjajcaaGreatDoorNodeDownPTieRef
set_option linter.unusedVariables false
set_option linter.unusedSimpArgs false
set_option maxRecDepth 20000
namespace Go.PE
theorem Zb0 (n:Nat) {N:Int} (id inc now par pinc grand:Int) (path:List Int) (ep born asked til step:Int) (kids:List Kid) (h:TOk N (id,inc,now,par,pinc,grand,path,ep,born,asked,til,step,kids)):∀ (k m i:Nat) (acc:List Qk7),i+k=kids.length→k<m→acc.length≤1000+i →
  Qlo n m (i:Int) id inc now par pinc grand path ep born asked til step kids 0 0 0 0 0 0 0 0 0 0 0 [] [] acc=some (((id,inc,now,par,pinc,grand,path,ep,born,asked,til,step,kids),acc++(if Que (id,inc,now,par,pinc,grand,path,ep,born,asked,til,step,kids)=true then (kids.drop i).map fun k=>Zo8 (id,inc,now,par,pinc,grand,path,ep,born,asked,til,step,kids) 5 k.1 else []),()),())
 | k,0,i,acc,_,hm,_=>by omega
 | 0,m+1,i,acc,hk,hm,ha=>by
  show Qnc (Qlo n m) (i:Int) id inc now par pinc grand path ep born asked til step kids 0 0 0 0 0 0 0 0 0 0 0 [] [] acc=_
  unfold Qnc
  rw [cdn (by omega),List.drop_eq_nil_of_le (by omega)];simp
 | k+1,m+1,i,acc,hk,hm,ha=>by
  show Qnc (Qlo n m) (i:Int) id inc now par pinc grand path ep born asked til step kids 0 0 0 0 0 0 0 0 0 0 0 [] [] acc=_
  have hi:i<kids.length:=by omega
  have hl:=h.kids.len
  dsimp only at hl
  unfold Qnc
  rw [cdp (by omega),Qxm h]
  dsimp only [Option.bind_some]
  cases hf:Que (id,inc,now,par,pinc,grand,path,ep,born,asked,til,step,kids) with
  | false=>rw [cond_false,if_neg (by simp),List.append_nil]
  | true=>
   rw [cond_true,ct (idx (by omega)),ct (idx (by omega)),Qk9,Qkl hi,Z9p h]
   dsimp only [Option.bind_some]
   rw [cbp (by omega),Qr9 (by omega),Zb0 n id inc now par pinc grand path ep born asked til step kids h k m (i+1) _ (by omega) (by omega) (by rw [List.length_append,List.length_singleton];omega),hf,if_pos rfl,if_pos rfl,List.drop_eq_getElem_cons hi,List.map_cons,List.append_assoc];rfl
theorem Z8z (n:Nat) {N:Int} (id inc now par pinc grand:Int) (path:List Int) (ep born asked til step:Int) (kids:List Kid) (h:TOk N (id,inc,now,par,pinc,grand,path,ep,born,asked,til,step,kids)):∀ (k m i:Nat) (acc:List Qk7),i+k=kids.length→k<m→acc.length≤1000+i →
  Qlr n m (i:Int) id inc now par pinc grand path ep born asked til step kids 0 0 0 0 0 0 0 0 0 0 0 [] [] acc=some (((id,inc,now,par,pinc,grand,path,ep,born,asked,til,step,kids),acc++(if Que (id,inc,now,par,pinc,grand,path,ep,born,asked,til,step,kids)=true then (kids.drop i).map fun k=>Zo8 (id,inc,now,par,pinc,grand,path,ep,born,asked,til,step,kids) 5 k.1 else []),()),())
 | k,0,i,acc,_,hm,_=>by omega
 | 0,m+1,i,acc,hk,hm,ha=>by
  show Qng (Qlr n m) (i:Int) id inc now par pinc grand path ep born asked til step kids 0 0 0 0 0 0 0 0 0 0 0 [] [] acc=_
  unfold Qng
  rw [cdn (by omega),List.drop_eq_nil_of_le (by omega)];simp
 | k+1,m+1,i,acc,hk,hm,ha=>by
  show Qng (Qlr n m) (i:Int) id inc now par pinc grand path ep born asked til step kids 0 0 0 0 0 0 0 0 0 0 0 [] [] acc=_
  have hi:i<kids.length:=by omega
  have hl:=h.kids.len
  dsimp only at hl
  unfold Qng
  rw [cdp (by omega),Qxm h]
  dsimp only [Option.bind_some]
  cases hf:Que (id,inc,now,par,pinc,grand,path,ep,born,asked,til,step,kids) with
  | false=>rw [cond_false,if_neg (by simp),List.append_nil]
  | true=>
   rw [cond_true,ct (idx (by omega)),Qk9,Qkl hi,Z9p h]
   dsimp only [Option.bind_some]
   rw [cbp (by omega),Qr9 (by omega),Z8z n id inc now par pinc grand path ep born asked til step kids h k m (i+1) _ (by omega) (by omega) (by rw [List.length_append,List.length_singleton];omega),hf,if_pos rfl,if_pos rfl,List.drop_eq_getElem_cons hi,List.map_cons,List.append_assoc];rfl
noncomputable def Zlb (L:Qkb) (t:Tie) (ms:List Qk7):Option (((Tie) × (List Qk7) × Unit) × Unit):=
 bif !((Int.tmod t.2.2.1 2)==0) then some ((t,ms,()),()) else
 bif t.2.2.2.1 != 0 then Option.bind (Qk6 t 4 t.2.2.2.1) fun r=>L 0 t.1 t.2.1 t.2.2.1 t.2.2.2.1 t.2.2.2.2.1 t.2.2.2.2.2.1 t.2.2.2.2.2.2.1 t.2.2.2.2.2.2.2.1 t.2.2.2.2.2.2.2.2.1 t.2.2.2.2.2.2.2.2.2.1 t.2.2.2.2.2.2.2.2.2.2.1 t.2.2.2.2.2.2.2.2.2.2.2.1 t.2.2.2.2.2.2.2.2.2.2.2.2 0 0 0 0 0 0 0 0 0 0 0 [] [] (ms++[r.1.1])
 else L 0 t.1 t.2.1 t.2.2.1 t.2.2.2.1 t.2.2.2.2.1 t.2.2.2.2.2.1 t.2.2.2.2.2.2.1 t.2.2.2.2.2.2.2.1 t.2.2.2.2.2.2.2.2.1 t.2.2.2.2.2.2.2.2.2.1 t.2.2.2.2.2.2.2.2.2.2.1 t.2.2.2.2.2.2.2.2.2.2.2.1 t.2.2.2.2.2.2.2.2.2.2.2.2 0 0 0 0 0 0 0 0 0 0 0 [] [] ms
theorem Zqb {N:Int} {t:Tie} (h:TOk N t) (n m:Nat) (hm:100<m) (ms:List Qk7) (hs:ms.length≤100):Zlb (Qlo n m) t ms=some ((t,ms++Znv t,()),()):=by
 obtain ⟨id,inc,now,par,pinc,grand,path,ep,born,asked,til,step,kids⟩:=t
 have h1:=h.now
 have hl:=h.kids.len
 dsimp only at h1 hl
 have lp:=fun acc ha=>Zb0 n id inc now par pinc grand path ep born asked til step kids h kids.length m 0 acc (by omega) (by omega) ha
 unfold Zlb
 dsimp only
 rw [Int.tmod_eq_emod_of_nonneg h1.1]
 unfold Znv
 dsimp only
 by_cases a:now % 2=0
 ·rw [if_pos a,Zq7,Z2y a]
  by_cases b:par=0
  ·rw [Zgl b,if_neg (by simp [b])]
   exact lp ms (by omega)
  ·rw [Zk3 b,if_pos b,Z4j]
   dsimp only [Option.bind_some]
   rw [← List.append_assoc]
   exact lp (ms++[Zr8 (id,inc,now,par,pinc,grand,path,ep,born,asked,til,step,kids) 4 par]) (by rw [List.length_append,List.length_singleton];omega)
 ·rw [if_neg a,Zq7,Z09 a,List.append_nil]
theorem Zp9 {N:Int} {t:Tie} (h:TOk N t) (n m:Nat) (hm:100<m) (ms:List Qk7) (hs:ms.length≤100):Zlb (Qlr n m) t ms=some ((t,ms++Znv t,()),()):=by
 obtain ⟨id,inc,now,par,pinc,grand,path,ep,born,asked,til,step,kids⟩:=t
 have h1:=h.now
 have hl:=h.kids.len
 dsimp only at h1 hl
 have lp:=fun acc ha=>Z8z n id inc now par pinc grand path ep born asked til step kids h kids.length m 0 acc (by omega) (by omega) ha
 unfold Zlb
 dsimp only
 rw [Int.tmod_eq_emod_of_nonneg h1.1]
 unfold Znv
 dsimp only
 by_cases a:now % 2=0
 ·rw [if_pos a,Zq7,Z2y a]
  by_cases b:par=0
  ·rw [Zgl b,if_neg (by simp [b])]
   exact lp ms (by omega)
  ·rw [Zk3 b,if_pos b,Z4j]
   dsimp only [Option.bind_some]
   rw [← List.append_assoc]
   exact lp (ms++[Zr8 (id,inc,now,par,pinc,grand,path,ep,born,asked,til,step,kids) 4 par]) (by rw [List.length_append,List.length_singleton];omega)
 ·rw [if_neg a,Zq7,Z09 a,List.append_nil]
theorem Zjr {N:Int} {t:Tie} (h:TOk N t) (hN:N+1≤562949953421312) (L M:Qkb):Qnx L M t=Zlb L (Z5v t).1 (Z5v t).2∨Qnx L M t=Zlb M (Z5v t).1 (Z5v t).2:=by
 have hp:=fun v hv=>Zil h.kids v hv
 have h0:=Zlk h hN
 obtain ⟨id,inc,now,par,pinc,grand,path,ep,born,asked,til,step,kids⟩:=t
 have h1:=h.now
 have h2:=h.step
 have h3:=h.ep
 have h4:=h.born
 dsimp only at h1 h2 h3 h4 hp
 have w1:IntKind.wrap .i64 (now+1)=now+1:=Qqd (by omega) (by omega)
 have w2:IntKind.wrap .i64 (now+1+3)=now+1+3:=Qqd (by omega) (by omega)
 have w3:IntKind.wrap .i64 (step+1)=step+1:=Qqd (by omega) (by omega)
 have w4:IntKind.wrap .i64 (ep+1)=ep+1:=Qqd (by omega) (by omega)
 have hst:¬ step+1=0:=by omega
 generalize hkk:Z10 kids (now+1)=kk at *
 have J1:Qpi (id,inc,now,par,pinc,grand,path,ep,born,asked,til,step,kids) ((kk,()),()) L=Zlb L (id,inc,now+1,par,pinc,grand,path,ep,born,asked,til,step,kk) []:=by
  unfold Qpi
  dsimp only [g3,g4,g5,g6,g7,g8,g9,g10,g11,g12,h3,h4,h5,h6,h7,h8,h9,h10,h11,h12,u0,u1,u2,u3,u4,u5,u6,u7,u8,u9,u10,u11,u12,e1,e2,e3,e4,e5,e6,e7,e8,e9,e10,e11,e12]
  rw [w1];rfl
 have J3:Qpk (((id,inc,now+1,0,0,grand,[],ep,born,0,til,0,kk),()),()) (id,inc,now,par,pinc,grand,path,ep,born,asked,til,step,kids) M=Zlb M (id,inc,now+1,0,0,grand,[],ep,born,1,now+1+3,0,kk) [(1,id,1,inc,0,0,[],0,0,ebA)]:=by
  unfold Qpk
  dsimp only [g3,g4,g5,g6,g7,g8,g9,g10,g11,g12,h3,h4,h5,h6,h7,h8,h9,h10,h11,h12,u0,u1,u2,u3,u4,u5,u6,u7,u8,u9,u10,u11,u12,e1,e2,e3,e4,e5,e6,e7,e8,e9,e10,e11,e12]
  rw [w1,w2];rfl
 have J6:Qpf (id,inc,now,par,pinc,grand,path,ep,born,asked,til,step,kids) ((kk,()),()) L=Zlb L (id,inc,now+1,par,pinc,grand,path,ep,born,1,now+1+3,step+1,kk) [(1,id,1,inc,0,0,[],0,0,ebA)]:=by
  unfold Qpf
  dsimp only [g3,g4,g5,g6,g7,g8,g9,g10,g11,g12,h3,h4,h5,h6,h7,h8,h9,h10,h11,h12,u0,u1,u2,u3,u4,u5,u6,u7,u8,u9,u10,u11,u12,e1,e2,e3,e4,e5,e6,e7,e8,e9,e10,e11,e12]
  rw [w1,w2,w3];rfl
 have J7:Qpj (id,inc,now,par,pinc,grand,path,ep,born,asked,til,step,kids) ((kk,()),()) L=Zlb L (id,inc,now+1,par,pinc,grand,path,ep,born,1,now+1+3,step,kk) [(1,id,1,inc,0,0,[],0,0,ebA)]:=by
  unfold Qpj
  dsimp only [g3,g4,g5,g6,g7,g8,g9,g10,g11,g12,h3,h4,h5,h6,h7,h8,h9,h10,h11,h12,u0,u1,u2,u3,u4,u5,u6,u7,u8,u9,u10,u11,u12,e1,e2,e3,e4,e5,e6,e7,e8,e9,e10,e11,e12]
  rw [w1,w2];rfl
 have J8:Qrq (id,inc,now,par,pinc,grand,path,ep,born,asked,til,step,kids) ((kk,()),()) L=if asked=0 then Zlb L (id,inc,now+1,par,pinc,grand,path,ep,born,(if step=0∧grand≠0∧grand≠id then grand else 1),now+1+3,step,kk) [(1,id,(if step=0∧grand≠0∧grand≠id then grand else 1),inc,0,0,[],0,0,ebA)]
   else Zlb L (id,inc,now+1,par,pinc,grand,path,ep,born,asked,til,step,kk) []:=by
  unfold Qrq
  rw [J1,J7]
  dsimp only [g3,g4,g5,g6,g7,g8,g9,g10,g11,g12,h3,h4,h5,h6,h7,h8,h9,h10,h11,h12,u0,u1,u2,u3,u4,u5,u6,u7,u8,u9,u10,u11,u12,e1,e2,e3,e4,e5,e6,e7,e8,e9,e10,e11,e12]
  rw [ceq]
  by_cases a:asked=0
  ·rw [if_pos a,if_pos a,ceq]
   by_cases b:step=0
   ·rw [if_pos b,Z9x]
    by_cases c:grand=0
    ·rw [if_pos c,if_neg (by simp [c])]
    ·rw [if_neg c,Z9x]
     by_cases d:grand=id
     ·rw [if_pos d,if_neg (by simp [d])]
     ·rw [if_neg d,if_pos ⟨b,c,d⟩,w1,w2];rfl
   ·rw [if_neg b,if_neg (by simp [b])]
  ·rw [if_neg a,if_neg a]
 have J9:Qrm (id,inc,now,par,pinc,grand,path,ep,born,asked,til,step,kids) ((kk,()),()) L=Zlb L (Zlc (id,inc,now+1,par,pinc,grand,path,ep,born,asked,til,step,kk)).1 (Zlc (id,inc,now+1,par,pinc,grand,path,ep,born,asked,til,step,kk)).2:=by
  unfold Qrm
  rw [J1,J6,J8,Zlc]
  dsimp only [g3,g4,g5,g6,g7,g8,g9,g10,g11,g12,h3,h4,h5,h6,h7,h8,h9,h10,h11,h12,u0,u1,u2,u3,u4,u5,u6,u7,u8,u9,u10,u11,u12,e1,e2,e3,e4,e5,e6,e7,e8,e9,e10,e11,e12]
  rw [ceq]
  by_cases p:par=0
  ·rw [if_pos p,if_neg (show ¬ par≠0 from fun e=>e p),Z9x]
   by_cases a:asked=0
   ·rw [if_pos a,if_pos a,if_neg (show ¬ (asked≠0∧¬ til≤now+1) from fun e=>e.1 a)]
    dsimp only
    rw [if_pos a]
   ·rw [if_neg a,w1,w3,cp]
    by_cases b:til≤now+1
    ·rw [if_pos b,Z09 hst,if_neg (show ¬ (asked≠0∧¬ til≤now+1) from fun e=>e.2 b)]
     dsimp only
     rw [if_neg a,if_neg (show ¬ (step+1=0∧grand≠0∧grand≠id) from fun e=>hst e.1)]
    ·rw [if_neg b,if_neg a,if_pos (show asked≠0∧¬ til≤now+1 from ⟨a,b⟩)]
  ·rw [if_neg p,if_pos p]
 unfold Qnx
 dsimp only [g3,g4,g5,g6,g7,g8,g9,g10,g11,g12,h3,h4,h5,h6,h7,h8,h9,h10,h11,h12,u0,u1,u2,u3,u4,u5,u6,u7,u8,u9,u10,u11,u12,e1,e2,e3,e4,e5,e6,e7,e8,e9,e10,e11,e12]
 rw [w1,hp (now+1) (by have:=h.big;omega)]
 dsimp only [Option.bind_some]
 rw [hkk,J1,J9,Int.tmod_eq_emod_of_nonneg (by omega),Z5v]
 dsimp only
 rw [ceq]
 by_cases c1:id=1
 ·refine .inl ?_
  rw [if_pos c1,if_pos c1,Z9a,if_pos c1,ceq,hkk]
  by_cases c2:(now+1) % 2=0
  ·rw [if_pos c2,if_pos c2,w4]
   show _=Zlb L _ _
   unfold Zlb
   dsimp only
   rw [Int.tmod_eq_emod_of_nonneg (by omega)];rfl
  ·rw [if_neg c2,if_neg c2]
 ·rw [if_neg c1,if_neg c1,Z9a,if_neg c1,Z9x,hkk]
  by_cases p:par=0
  ·refine .inl ?_
   rw [if_pos p,if_neg (show ¬ (par≠0∧¬ now+1 - born≤20) from fun e=>e.1 p)]
  ·rw [if_neg p]
   have fr:=Qxm (N:=N+1) (t:=(id,inc,now+1,par,pinc,grand,path,ep,born,asked,til,step,kk)) ⟨h.id,h.inc,by dsimp only;omega,h.par,h.pinc,h.grand,h.path,by dsimp only;omega,by dsimp only;omega,h.asked,by have:=h.til;dsimp only at *;omega,by dsimp only;omega,by rw [← hkk];exact h.kids.filter _,hN,h.one⟩
   rw [fr]
   dsimp only [Option.bind_some]
   have ef:Que (id,inc,now+1,par,pinc,grand,path,ep,born,asked,til,step,kk)=decide (now+1 - born≤20):=by
    rw [Que];exact decide_eq_decide.2 ⟨fun e=>e.elim (fun e=>absurd e c1) (·.2),fun e=>.inr ⟨p,e⟩⟩
   rw [ef]
   by_cases c4:now+1 - born≤20
   ·refine .inl ?_
    rw [decide_eq_true c4,nt,cond_false,if_neg (show ¬ (par≠0∧¬ now+1 - born≤20) from fun e=>e.2 c4)]
   ·refine .inr ?_
    rw [decide_eq_false c4,nf,cond_true,if_pos (show par≠0∧¬ now+1 - born≤20 from ⟨p,c4⟩),Zh3,Zn9]
    dsimp only [Option.bind_some]
    rw [Z2y rfl,Zgl rfl]
    unfold Quq
    rw [J3]
    dsimp only [g3,g4,g5,g6,g7,g8,g9,g10,g11,g12,h3,h4,h5,h6,h7,h8,h9,h10,h11,h12,u0,u1,u2,u3,u4,u5,u6,u7,u8,u9,u10,u11,u12,e1,e2,e3,e4,e5,e6,e7,e8,e9,e10,e11,e12]
    rw [Z2y rfl,Z2y rfl,Zlc,if_neg (show ¬ (0:Int)≠0 by decide),if_neg (show ¬ ((0:Int)≠0∧¬ til≤now+1) from fun e=>e.1 rfl)]
    dsimp only
    rw [if_pos rfl]
    by_cases c:grand=0
    ·rw [Zgl c,if_neg (show ¬ ((0:Int)=0∧grand≠0∧grand≠id) from fun e=>e.2.1 c)]
    ·rw [Zk3 c]
     by_cases d:grand=id
     ·rw [Zgl d,if_neg (show ¬ ((0:Int)=0∧grand≠0∧grand≠id) from fun e=>e.2.2 d)]
     ·rw [Zk3 d,if_pos ⟨rfl,c,d⟩,w2,w1];rfl
theorem Zpb (t:Tie):(Z5v t).2.length≤1:=by
 unfold Z5v
 split
 ·simp
 ·obtain ⟨id,inc,now,par,pinc,grand,path,ep,born,asked,til,step,kids⟩:=Z9a t
  rw [Zlc]
  split
  ·simp
  ·split<;>simp
theorem Zhz {N:Int} {t:Tie} (h:TOk N t) (hN:N+1≤562949953421312):Qum t=some (((Zid t).1,(Zid t).2,()),()):=by
 have key:∀ n,100<n→Qnx (Qlo n n) (Qlr n n) t=some (((Zid t).1,(Zid t).2,()),()):=by
  intro n hn
  have hms:=Zpb t
  rcases Zjr h hN (Qlo n n) (Qlr n n) with e | e
  ·rw [e,Zqb (Zi7 h hN) n n hn _ (by omega)];rfl
  ·rw [e,Zp9 (Zi7 h hN) n n hn _ (by omega)];rfl
 exact key 1099511627776 (by decide)
end Go.PE
