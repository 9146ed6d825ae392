/-
  Plain lemmas on the functions.
  Conditions: none.
-/
import Derived.Test.YtmfiijdlhjajcaaGreatDoorNodeServesPTieSpec
set_option linter.unusedVariables false
set_option linter.unusedSimpArgs false
set_option maxRecDepth 20000
namespace Go.PE
theorem Zcd (n:Nat) (l:List Kid) (v:Int) (h6:l.length≤1000000000):∀ (k m i:Nat),i+k=l.length→k<m →
  Qqw n m l v (i:Int) 0 0 0=some ((match Quk (l.drop i) v with | some x=>(x,true,()) | none=>((0,0,0),false,())),())
 | k,0,i,_,h=>by omega
 | 0,m+1,i,hk,h=>by
  show Qor (Qqw n m) l v (i:Int) 0 0 0=_
  unfold Qor
  rw [cdn (by omega),List.drop_eq_nil_of_le (by omega)];rfl
 | k+1,m+1,i,hk,h=>by
  show Qor (Qqw n m) l v (i:Int) 0 0 0=_
  have hi:i<l.length:=by omega
  unfold Qor
  rw [cdp (by omega),ct (idx (by omega)),ct (idx (by omega)),Qk9,Qkm hi,Qqh (by omega),ceq,List.drop_eq_getElem_cons hi]
  show _=some ((match (if kid l[i]=v then some l[i] else Quk (l.drop (i+1)) v) with | some x=>(x,true,()) | none=>((0,0,0),false,())),())
  by_cases hv:l[i].1=v
  ·rw [if_pos hv,if_pos hv]
  ·rw [if_neg hv,if_neg hv,Zcd n l v h6 k m (i+1) (by omega) (by omega)]
theorem Zbi (l:List Kid) (v:Int) (h6:l.length≤1000000000):Qq4 l v=some ((match Quk l v with | some x=>(x,true,()) | none=>((0,0,0),false,())),()):=by
 have:=Zcd 1099511627776 l v h6 l.length 1099511627776 0 (by omega) (by omega)
 rw [List.drop_zero] at this
 exact this
theorem Zig (l:List Kid) (id inc:Int) (h6:l.length≤1000000000):Qvd l id inc=some ((Zqb l id inc,()),()):=by
 unfold Qvd Zqb
 rw [Zbi l id h6]
 cases Quk l id<;>rfl
theorem Z6i (n:Nat) (l:List Kid) (v:Int) (h6:l.length≤1000000):∀ (k m i:Nat) (acc:List Kid),i+k=l.length→k<m→acc.length≤i →
  Qqo n m l v (i:Int) acc=some ((acc++Qyz kid v (l.drop i),()),())
 | k,0,i,acc,_,h,_=>by omega
 | 0,m+1,i,acc,hk,h,ha=>by
  show Qp2 (Qqo n m) l v (i:Int) acc=_
  unfold Qp2
  rw [cdn (by omega),List.drop_eq_nil_of_le (by omega)];simp [Qyz]
 | k+1,m+1,i,acc,hk,h,ha=>by
  show Qp2 (Qqo n m) l v (i:Int) acc=_
  have hi:i<l.length:=by omega
  unfold Qp2
  rw [cdp (by omega),ct (idx (by omega)),ct (idx (by omega)),Qk9,Qkm hi,Qqh (by omega),Zd0,List.drop_eq_getElem_cons hi]
  by_cases hv:l[i].1=v
  ·rw [if_pos hv,Z6i n l v h6 k m (i+1) acc (by omega) (by omega) (by omega)]
   have:Qyz kid v (l[i]::l.drop (i+1))=Qyz kid v (l.drop (i+1)):=by unfold Qyz;rw [List.filter_cons,if_neg (by simp [hv])]
   rw [this]
  ·rw [if_neg hv,cbp (by omega),Z6i n l v h6 k m (i+1) _ (by omega) (by omega) (by rw [List.length_append,List.length_singleton];omega)]
   have:Qyz kid v (l[i]::l.drop (i+1))=l[i]::Qyz kid v (l.drop (i+1)):=by unfold Qyz;rw [List.filter_cons,if_pos (bne_iff_ne.2 hv)]
   rw [this,List.append_assoc];rfl
theorem Zg7 (l:List Kid) (v:Int) (h6:l.length≤1000000):Qtl l v=some ((Qyz kid v l,()),()):=by
 have:=Z6i 1099511627776 l v h6 l.length 1099511627776 0 [] (by omega) (by omega) (by simp)
 rw [List.drop_zero,List.nil_append] at this
 exact this
theorem Z4d (n:Nat) (l:List Kid) (v:Int) (hv0:0≤v∧v≤1125899906842624) (hr:∀ x∈l,0≤x.2.2∧x.2.2≤1125899906842624) (h6:l.length≤1000000):∀ (k m i:Nat) (acc:List Kid),i+k=l.length→k<m→acc.length≤i →
  Qq0 n m l v (i:Int) acc=some ((acc++Z1j (l.drop i) v,()),())
 | k,0,i,acc,_,h,_=>by omega
 | 0,m+1,i,acc,hk,h,ha=>by
  show Qns (Qq0 n m) l v (i:Int) acc=_
  unfold Qns
  rw [cdn (by omega),List.drop_eq_nil_of_le (by omega)];simp [Z1j]
 | k+1,m+1,i,acc,hk,h,ha=>by
  show Qns (Qq0 n m) l v (i:Int) acc=_
  have hi:i<l.length:=by omega
  have hx:=hr _ (List.getElem_mem hi)
  unfold Qns
  rw [cdp (by omega),ct (idx (by omega)),ct (idx (by omega)),Qk9,Qkm hi,Qqh (by omega),Qq3 (by omega) (by omega),cp,List.drop_eq_getElem_cons hi]
  by_cases hv:v - l[i].2.2≤20
  ·rw [if_pos hv,cbp (by omega),Z4d n l v hv0 hr h6 k m (i+1) _ (by omega) (by omega) (by rw [List.length_append,List.length_singleton];omega)]
   have:Z1j (l[i]::l.drop (i+1)) v=l[i]::Z1j (l.drop (i+1)) v:=by unfold Z1j;rw [List.filter_cons,if_pos (decide_eq_true hv)]
   rw [this,List.append_assoc];rfl
  ·rw [if_neg hv,Z4d n l v hv0 hr h6 k m (i+1) acc (by omega) (by omega) (by omega)]
   have:Z1j (l[i]::l.drop (i+1)) v=Z1j (l.drop (i+1)) v:=by unfold Z1j;rw [List.filter_cons,if_neg (by simp [hv])]
   rw [this]
theorem Zlk {l:List Kid} (h:KOk l) (v:Int) (hv0:0≤v∧v≤1125899906842624):Qzm l v=some ((Z1j l v,()),()):=by
 have hl:=h.len
 have:=Z4d 1099511627776 l v hv0 (fun x hx=>by have:=h.rng x hx;omega) (by omega) l.length 1099511627776 0 [] (by omega) (by omega) (by simp)
 rw [List.drop_zero,List.nil_append] at this
 exact this
theorem Zlg {α:Type} (l:List α) (a b:Nat):Qd (List.take a (List.drop b (List.map some l)))=some ((l.drop b).take a):=by
 rw [← List.map_drop,← List.map_take,Q6l]
theorem Zbw (n:Nat) (l:List Kid) (a b c:Int) (h6:l.length≤1000000):∀ (k m i:Nat),i+k=l.length→k<m→(∀ y∈l.take i,y.1≤a) →
  Qox n m (i:Int) a b c l=some ((l.take i++Zjy kid (a,b,c) (l.drop i),true,()),())
 | k,0,i,_,h,_=>by omega
 | 0,m+1,i,hk,h,ha=>by
  show Qok (Qox n m) (i:Int) a b c l=_
  unfold Qok
  rw [cdn (by omega),cbp (by omega),List.drop_eq_nil_of_le (by omega),List.take_of_length_le (by omega)];rfl
 | k+1,m+1,i,hk,h,ha=>by
  show Qok (Qox n m) (i:Int) a b c l=_
  have hi:i<l.length:=by omega
  unfold Qok
  rw [cdp (by omega),ct (idx (by omega)),ct (idx (by omega)),Qk9,Qkm hi,Qqh (by omega),cp]
  by_cases hv:a<l[i].1
  ·rw [if_pos hv]
   have e1:((i:Int) - 0).toNat=i:=by omega
   have e2:(((l.length:Nat):Int) - (i:Int)).toNat=l.length - i:=by omega
   have e3:(List.map some l).length=l.length:=List.length_map ..
   rw [e1,e2,e3,ct (bt (by omega) (by omega)),Zlg,List.drop_zero]
   rw [show Nat.ble (0+i) l.length=true from Nat.ble_eq_true_of_le (by omega),cond_true]
   dsimp only [Option.bind_some]
   rw [cbp (by rw [List.length_take];omega),List.nil_append,cbp (by rw [List.length_take];omega)]
   rw [ct (by simp;omega),show Nat.ble (0+i+(l.length - i)) l.length=true from Nat.ble_eq_true_of_le (by omega),cond_true,Nat.zero_add,Zlg]
   dsimp only [Option.bind_some]
   rw [cbp (by simp;omega),List.take_of_length_le (l:=l.drop i) (by rw [List.length_drop];omega),List.append_assoc]
   have e4:Zjy kid (a,b,c) (l.drop i)=(a,b,c)::l.drop i:=by
    rw [List.drop_eq_getElem_cons hi];exact if_pos hv
   rw [e4];rfl
  ·rw [if_neg hv,Zbw n l a b c h6 k m (i+1) (by omega) (by omega) (fun y hy=>by
    rw [List.take_succ_eq_append_getElem hi] at hy
    rcases List.mem_append.1 hy with hy | hy
    ·exact ha y hy
    ·rcases List.mem_singleton.1 hy with rfl;omega)]
   have e4:Zjy kid (a,b,c) (l.drop i)=l[i]::Zjy kid (a,b,c) (l.drop (i+1)):=by
    rw [List.drop_eq_getElem_cons hi];exact if_neg hv
   rw [e4,List.take_succ_eq_append_getElem hi,List.append_assoc];rfl
theorem Zgv (l:List Kid) (k:Kid) (h6:l.length≤1000000):∃ b,Qrx l k=some ((Z56 l k,b,()),()):=by
 show ∃ b,Quh (Qox 1099511627776 1099511627776) l k=_
 unfold Quh Z56
 rw [Zig l _ _ (by omega)]
 dsimp only [Option.bind_some]
 cases ho:Zqb l k.1 k.2.1 with
 | true=>rw [cond_true,if_pos rfl];exact ⟨_,rfl⟩
 | false=>
  rw [cond_false,if_neg (by simp),Zg7 l _ h6]
  dsimp only [Option.bind_some]
  have hl:(Qyz kid k.1 l).length≤l.length:=List.length_filter_le ..
  have:=Zbw 1099511627776 (Qyz kid k.1 l) k.1 k.2.1 k.2.2 (by omega) (Qyz kid k.1 l).length 1099511627776 0 (by omega) (by omega) (fun y hy=>by simp at hy)
  rw [List.take_zero,List.drop_zero,List.nil_append] at this
  exact ⟨true,this⟩
theorem Zkc (p:List Int) (h:p.length≤1000000):Qvi p=some ((if p.length<2 then 0 else List.getD p (p.length - 2) 0,()),()):=by
 unfold Qvi
 by_cases h2:p.length<2
 ·rw [cdp (by omega),if_pos h2]
 ·rw [cdn (by omega),if_neg h2,Qq3 (by omega) (by omega),ct (bt (by omega) (by omega)),show ((p.length:Int) - 2).toNat=p.length - 2 by omega]
theorem Zez (p:List Int) (h:p.length≤1000000):Qpx p=some ((Zan p,()),()):=by
 unfold Qpx Zan
 rw [Zkc p h]
 dsimp only [Option.bind_some]
 by_cases h2:p.length<2
 ·rw [if_pos h2,if_pos h2];rfl
 ·rw [if_neg h2,if_neg h2,ceq]
  split<;>rfl
theorem Zf5 (id inc now grand:Int):Qu1 id inc now grand=some ((Zpc id inc now grand,()),()):=by
 unfold Qu1 Zpc
 rw [ceq];split<;>rfl
theorem Z5x (t:Tie) (k to:Int):Qk6 t k to=some ((Zt1 t k to,()),()):=rfl
theorem Zis (t:Tie) (s:Int):Qle t s=some ((Zor t s,()),()):=rfl
theorem Zb1 {N:Int} {t:Tie} (h:TOk N t) (k to:Int):Qnn t k to=some ((Zp6 t k to,()),()):=by
 unfold Qnn
 rw [Z5x]
 dsimp only [Option.bind_some]
 have hp:=h.path
 have h1:=h.now
 have h2:=h.born
 have h3:=h.big
 rw [cbp (by show 0+t.2.2.2.2.2.2.1.length≤_;omega),Qq3 (by show _≤t.2.2.1 - t.2.2.2.2.2.2.2.2.1;omega) (by show t.2.2.1 - t.2.2.2.2.2.2.2.2.1≤_;omega)]
 rfl
theorem Qzc {N:Int} {t:Tie} (h:TOk N t):Qlk t=some ((Qvc t,()),()):=by
 obtain ⟨id,inc,now,par,pinc,grand,path,ep,born,asked,til,step,kids⟩:=t
 have h1:=h.now
 have h2:=h.born
 have h3:=h.big
 simp only at h1 h2
 unfold Qlk
 dsimp only [g3,g4,g5,g6,g7,g8,g9,g10,g11,g12,h3,h4,h5,h6,h7,h8,h9,h10,h11,h12,u0,u1,u2,u3,u4,u5,u6,u7,u8,u9,u10,u11,u12,e1,e2,e3,e4,e5,e6,e7,e8,e9,e10,e11,e12]
 rw [Qq3 (by omega) (by omega),ceq,Zd0]
 simp only [Qvc]
 by_cases a:id=1
 ·rw [if_pos a];simp [a]
 ·rw [if_neg a]
  by_cases b:par=0
  ·rw [if_pos b];simp [a,b]
  ·rw [if_neg b];simp [a,b]
theorem Zgb {N:Int} {t:Tie} (h:TOk N t) (hN:N+1≤562949953421312) {m:Qk7} (hm:MSm m):Qmg t m=some (((Qyi t m).1,(Qyi t m).2,()),()):=by
 obtain ⟨id,inc,now,par,pinc,grand,path,ep,born,asked,til,step,kids⟩:=t
 obtain ⟨kd,fr,to,mi,me,ag,pa,lo,hi,tx⟩:=m
 have h1:=h.now
 have h2:=h.step
 have h4:=h.asked
 have hag:=hm.ag
 have hfr:=hm.fr
 have hpa:=hm.pa
 dsimp only [Qk7.kd,Qk7.fr,Qk7.to,Qk7.inc,Qk7.ep,Qk7.ag,Qk7.pa,Qk7.lo,Qk7.hi,Qk7.tx] at h1 h2 h4 hag hfr hpa
 have J1:Qpn (id,inc,now,par,pinc,grand,path,ep,born,asked,til,step,kids) (kd,fr,to,mi,me,ag,pa,lo,hi,tx)=some (((id,inc,now,par,pinc,grand,path,ep,born,0,til,step+1,kids),[(6,id,fr,inc,0,0,[],0,0,ebA)],()),()):=by
  unfold Qpn
  dsimp only [g3,g4,g5,g6,g7,g8,g9,g10,g11,g12,h3,h4,h5,h6,h7,h8,h9,h10,h11,h12,u0,u1,u2,u3,u4,u5,u6,u7,u8,u9,u10,u11,u12,e1,e2,e3,e4,e5,e6,e7,e8,e9,e10,e11,e12]
  rw [Qq3 (by omega) (by omega)];rfl
 have J2:¬ (par≠0∧fr=par)→Qpj (id,inc,now,par,pinc,grand,path,ep,born,asked,til,step,kids) (kd,fr,to,mi,me,ag,pa,lo,hi,tx)=some (((Qyi (id,inc,now,par,pinc,grand,path,ep,born,asked,til,step,kids) (kd,fr,to,mi,me,ag,pa,lo,hi,tx)).1,(Qyi (id,inc,now,par,pinc,grand,path,ep,born,asked,til,step,kids) (kd,fr,to,mi,me,ag,pa,lo,hi,tx)).2,()),()):=by
  intro hn
  rw [Qyi]
  unfold Qpj
  dsimp only [g3,g4,g5,g6,g7,g8,g9,g10,g11,g12,h3,h4,h5,h6,h7,h8,h9,h10,h11,h12,u0,u1,u2,u3,u4,u5,u6,u7,u8,u9,u10,u11,u12,e1,e2,e3,e4,e5,e6,e7,e8,e9,e10,e11,e12,Qk7.kd,Qk7.fr,Qk7.to,Qk7.inc,Qk7.ep,Qk7.ag,Qk7.pa,Qk7.lo,Qk7.hi,Qk7.tx]
  rw [if_neg hn,ceq,Zd0]
  by_cases a1:asked=0
  ·rw [if_pos a1,if_pos (.inl a1)];rfl
  rw [if_neg a1]
  by_cases a2:asked=fr
  ·rw [if_pos a2,Zd0]
   by_cases a3:par=0
   ·rw [if_pos a3,if_neg (by omega),Z24 _ _ (by omega)]
    dsimp only [Option.bind_some]
    by_cases a4:(Qmh pa id).2=true
    ·rw [a4,nt,cond_false]
     by_cases a5:20<ag
     ·rw [cdp a5,J1,if_pos (.inr a5)]
     ·rw [cdn a5,if_neg (by simp [a5]),Zez _ (by omega)]
      dsimp only [Option.bind_some]
      rw [Qq3 (by omega) (by omega)]
    ·have a4':(Qmh pa id).2=false:=by cases hc:(Qmh pa id).2<;>simp [hc] at a4 ⊢
     rw [a4',nf,cond_true,J1,if_pos (.inl rfl)]
   ·rw [if_neg a3,if_pos (.inr (.inr a3))];rfl
  ·rw [if_neg a2,if_pos (.inr (.inl a2))];rfl
 unfold Qmg
 dsimp only [g3,g4,g5,g6,g7,g8,g9,g10,g11,g12,h3,h4,h5,h6,h7,h8,h9,h10,h11,h12,u0,u1,u2,u3,u4,u5,u6,u7,u8,u9,u10,u11,u12,e1,e2,e3,e4,e5,e6,e7,e8,e9,e10,e11,e12]
 rw [Zd0]
 by_cases a1:par=0
 ·rw [if_pos a1,J2 (by simp [a1])]
 ·rw [if_neg a1,ceq]
  by_cases a2:fr=par
  ·rw [if_pos a2,Qyi,if_pos ⟨a1,a2⟩]
  ·rw [if_neg a2,J2 (by simp [a2])]
theorem Zeu {N:Int} {t:Tie} (h:TOk N t) (hN:N+1≤562949953421312) {m:Qk7} (hm:MSm m) (lo':Int):Qmj t m lo'=some (((Z6g t m lo').1,(Z6g t m lo').2,()),()):=by
 have acc:=Zgb h hN hm
 have fr':=Qzc h
 have hl:=h.kids.len
 obtain ⟨id,inc,now,par,pinc,grand,path,ep,born,asked,til,step,kids⟩:=t
 obtain ⟨kd,fr,to,mi,me,ag,pa,lo,hi,tx⟩:=m
 have h1:=h.now
 have h2:=h.step
 have h3:=h.path
 have h4:=h.asked
 have h5:=h.one
 have h0:=h.par
 have hag:=hm.ag
 have hfr:=hm.fr
 have hpa:=hm.pa
 have hmi:=hm.inc
 dsimp only [Qk7.kd,Qk7.fr,Qk7.to,Qk7.inc,Qk7.ep,Qk7.ag,Qk7.pa,Qk7.lo,Qk7.hi,Qk7.tx] at h0 h1 h2 h3 h4 h5 hag hfr hpa hmi hl
 have hk:=h.kids
 dsimp only at hk
 have hfull:∀ q,KOk q→Qnn (id,inc,now,par,pinc,grand,path,ep,born,asked,til,step,q) 2 fr=some ((Zp6 (id,inc,now,par,pinc,grand,path,ep,born,asked,til,step,q) 2 fr,()),()):=fun q hq=>Zb1 (N:=N) (t:=(id,inc,now,par,pinc,grand,path,ep,born,asked,til,step,q)) ⟨h.id,h.inc,h.now,h.par,h.pinc,h.grand,h.path,h.ep,h.born,h.asked,h.til,h.step,hq,h.big,h.one⟩ 2 fr
 have J5:Qng (id,inc,now,par,pinc,grand,path,ep,born,asked,til,step,kids) (kd,fr,to,mi,me,ag,pa,lo,hi,tx) lo'=some (((id,inc,now,par,pinc,grand,path,ep,born,asked,til,step,Z56 kids (fr,mi,now)),[(2,id,fr,inc,ep,now - born,path,lo',0,ebA)],()),()):=by
  unfold Qng
  dsimp only [g3,g4,g5,g6,g7,g8,g9,g10,g11,g12,h3,h4,h5,h6,h7,h8,h9,h10,h11,h12,u0,u1,u2,u3,u4,u5,u6,u7,u8,u9,u10,u11,u12,e1,e2,e3,e4,e5,e6,e7,e8,e9,e10,e11,e12]
  obtain ⟨b,hb⟩:=Zgv kids (fr,mi,now) (by omega)
  rw [hb]
  dsimp only [Option.bind_some]
  rw [hfull _ (hk.hear (by dsimp only;omega))]
  rfl
 have J6:Qrj (id,inc,now,par,pinc,grand,path,ep,born,asked,til,step,kids) (kd,fr,to,mi,me,ag,pa,lo,hi,tx) lo'=if Qvc (id,inc,now,par,pinc,grand,path,ep,born,asked,til,step,kids)=false∨fr∈path∨(Quk kids fr=none∧Zjc id≤(kids.length:Int)) then some (((id,inc,now,par,pinc,grand,path,ep,born,asked,til,step,kids),[(3,id,fr,inc,0,0,[],0,0,ebA)],()),())
   else some (((id,inc,now,par,pinc,grand,path,ep,born,asked,til,step,Z56 kids (fr,mi,now)),[(2,id,fr,inc,ep,now - born,path,lo',0,ebA)],()),()):=by
  unfold Qrj
  dsimp only [g3,g4,g5,g6,g7,g8,g9,g10,g11,g12,h3,h4,h5,h6,h7,h8,h9,h10,h11,h12,u0,u1,u2,u3,u4,u5,u6,u7,u8,u9,u10,u11,u12,e1,e2,e3,e4,e5,e6,e7,e8,e9,e10,e11,e12]
  rw [Zbi _ _ (by omega)]
  dsimp only [Option.bind_some]
  rw [fr',Zri _ _ (by omega)]
  dsimp only [Option.bind_some]
  rw [J5]
  have e:∀ q:Int,(bif !Qvc (id,inc,now,par,pinc,grand,path,ep,born,asked,til,step,kids) then some (((id,inc,now,par,pinc,grand,path,ep,born,asked,til,step,kids),[(3,id,fr,inc,0,0,[],0,0,ebA)],()),()) else bif decide (fr∈path) then some (((id,inc,now,par,pinc,grand,path,ep,born,asked,til,step,kids),[(3,id,fr,inc,0,0,[],0,0,ebA)],()),())
    else bif !(match Quk kids fr with | some x=>(x,true,()) | none=>((0,0,0),false,())).2.1 then (bif decide ((kids.length:Int) ≥ q) then some (((id,inc,now,par,pinc,grand,path,ep,born,asked,til,step,kids),[(3,id,fr,inc,0,0,[],0,0,ebA)],()),()) else some (((id,inc,now,par,pinc,grand,path,ep,born,asked,til,step,Z56 kids (fr,mi,now)),[(2,id,fr,inc,ep,now - born,path,lo',0,ebA)],()),()))
    else some (((id,inc,now,par,pinc,grand,path,ep,born,asked,til,step,Z56 kids (fr,mi,now)),[(2,id,fr,inc,ep,now - born,path,lo',0,ebA)],()),()))=(if Qvc (id,inc,now,par,pinc,grand,path,ep,born,asked,til,step,kids)=false∨fr∈path∨(Quk kids fr=none∧q≤(kids.length:Int)) then some (((id,inc,now,par,pinc,grand,path,ep,born,asked,til,step,kids),[(3,id,fr,inc,0,0,[],0,0,ebA)],()),())
   else some (((id,inc,now,par,pinc,grand,path,ep,born,asked,til,step,Z56 kids (fr,mi,now)),[(2,id,fr,inc,ep,now - born,path,lo',0,ebA)],()),()):Option (((Tie) × (List (Qk7)) × Unit) × Unit)):=by
   intro q
   cases Qvc (id,inc,now,par,pinc,grand,path,ep,born,asked,til,step,kids) with
   | false=>rw [if_pos (.inl rfl)];rfl
   | true=>
    rw [nt,cond_false,cp]
    by_cases a1:fr∈path
    ·rw [if_pos a1,if_pos (.inr (.inl a1))]
    ·rw [if_neg a1]
     cases hf:Quk kids fr with
     | some x=>rw [if_neg (by simp [a1])];rfl
     | none=>
      dsimp only
      rw [nf,cond_true,cp]
      by_cases a2:q≤(kids.length:Int)
      ·rw [if_pos a2,if_pos (.inr (.inr ⟨rfl,a2⟩))]
      ·rw [if_neg a2,if_neg (by simp [a1];omega)]
  by_cases a0:id=1
  ·rw [Z2n a0,show Zjc id=8 from if_pos a0];exact e 8
  ·rw [Z0t a0,show Zjc id=3 from if_neg a0];exact e 3
 have J7:Qrl (id,inc,now,par,pinc,grand,path,ep,born,asked,til,step,kids) (kd,fr,to,mi,me,ag,pa,lo,hi,tx)=if Quk kids fr=none then some (((id,inc,now,par,pinc,grand,path,ep,born,asked,til,step,kids),[(3,id,fr,inc,0,0,[],0,0,ebA)],()),()) else some (((id,inc,now,par,pinc,grand,path,ep,born,asked,til,step,Z56 kids (fr,mi,now)),[],()),()):=by
  unfold Qrl
  dsimp only [g3,g4,g5,g6,g7,g8,g9,g10,g11,g12,h3,h4,h5,h6,h7,h8,h9,h10,h11,h12,u0,u1,u2,u3,u4,u5,u6,u7,u8,u9,u10,u11,u12,e1,e2,e3,e4,e5,e6,e7,e8,e9,e10,e11,e12]
  rw [Zbi _ _ (by omega)]
  dsimp only [Option.bind_some]
  cases hf:Quk kids fr with
  | none=>rfl
  | some x=>
   rw [nt,cond_false,if_neg (by simp)]
   obtain ⟨b,hb⟩:=Zgv kids (fr,mi,now) (by omega)
   rw [hb];rfl
 have J8:Qrn (kd,fr,to,mi,me,ag,pa,lo,hi,tx) (id,inc,now,par,pinc,grand,path,ep,born,asked,til,step,kids)=if kd=6 then some (((id,inc,now,par,pinc,grand,path,ep,born,asked,til,step,Qyz kid fr kids),[],()),()) else some (((id,inc,now,par,pinc,grand,path,ep,born,asked,til,step,kids),[],()),()):=by
  unfold Qrn
  dsimp only [g3,g4,g5,g6,g7,g8,g9,g10,g11,g12,h3,h4,h5,h6,h7,h8,h9,h10,h11,h12,u0,u1,u2,u3,u4,u5,u6,u7,u8,u9,u10,u11,u12,e1,e2,e3,e4,e5,e6,e7,e8,e9,e10,e11,e12]
  rw [ceq,Zg7 _ _ (by omega)]
  rfl
 unfold Qmj
 rw [Z6g,J6,J7,J8]
 dsimp only [g3,g4,g5,g6,g7,g8,g9,g10,g11,g12,h3,h4,h5,h6,h7,h8,h9,h10,h11,h12,u0,u1,u2,u3,u4,u5,u6,u7,u8,u9,u10,u11,u12,e1,e2,e3,e4,e5,e6,e7,e8,e9,e10,e11,e12,Qk7.kd,Qk7.fr,Qk7.to,Qk7.inc,Qk7.ep,Qk7.ag,Qk7.pa,Qk7.lo,Qk7.hi,Qk7.tx]
 rw [acc]
 simp only [Zis,Z5x,Option.bind_some]
 rw [Qq3 (x:=step+1) (by omega) (by omega),Qq3 (x:=now - ag) (by omega) (by omega),Z24 _ _ (by omega),Zez _ (by omega)]
 simp only [Option.bind_some]
 by_cases p:par=0
 ·rw [Zk0 p]
  by_cases k1:kd=1
  ·rw [Z2n k1,if_pos k1];split<;>rfl
  rw [Z0t k1,if_neg k1]
  by_cases k2:kd=2
  ·rw [Z2n k2,if_pos k2]
  rw [Z0t k2,if_neg k2]
  by_cases k3:kd=3
  ·rw [Z2n k3,if_pos k3,if_neg (by simp [p]),Zd0,ceq]
   by_cases a1:asked=0
   ·rw [if_pos a1,if_neg (by simp [a1])]
   ·rw [if_neg a1]
    by_cases a2:asked=fr
    ·rw [if_pos a2,if_pos ⟨a1,a2⟩]
    ·rw [if_neg a2,if_neg (by simp [a2])]
  rw [Z0t k3,if_neg k3]
  by_cases k4:kd=4
  ·rw [Z2n k4,if_pos k4];split<;>rfl
  rw [Z0t k4,if_neg k4]
  by_cases k5:kd=5
  ·rw [Z2n k5,if_pos k5,if_pos (by simp [p])];rfl
  rw [Z0t k5,if_neg k5]
  split<;>rfl
 ·have h5':=h5 p
  rw [Znw p]
  by_cases k1:kd=1
  ·rw [Z2n k1,if_pos k1];split<;>rfl
  rw [Z0t k1,if_neg k1]
  by_cases k2:kd=2
  ·rw [Z2n k2,if_pos k2]
  rw [Z0t k2,if_neg k2]
  by_cases k3:kd=3
  ·rw [Z2n k3,if_pos k3,Zk0 h5',ceq]
   by_cases a1:fr=par
   ·rw [if_pos a1,if_pos ⟨p,a1⟩]
   ·rw [if_neg a1,if_neg (by simp [a1]),if_neg (by simp [h5'])]
  rw [Z0t k3,if_neg k3]
  by_cases k4:kd=4
  ·rw [Z2n k4,if_pos k4];split<;>rfl
  rw [Z0t k4,if_neg k4]
  by_cases k5:kd=5
  ·rw [Z2n k5,if_pos k5,Zs5,ceq]
   by_cases a1:fr=par
   ·rw [if_pos a1,if_neg (by simp [p,a1])]
    by_cases a4:(Qmh pa id).2=true
    ·rw [a4,nt,cond_false,if_neg (by simp),cp]
     split<;>rfl
    ·have a4':(Qmh pa id).2=false:=by cases hc:(Qmh pa id).2<;>simp [hc] at a4 ⊢
     rw [a4',nf,cond_true,if_pos rfl];rfl
   ·rw [if_neg a1,if_pos (by simp [a1])];rfl
  rw [Z0t k5,if_neg k5]
  split<;>rfl
theorem Zhs {N:Int} {t:Tie} (h:TOk N t) (hN:N+1≤562949953421312) {m:Qk7} (hm:MSm m) (lo':Int):Qm6 t m lo'=some (((Qut t m lo').1,(Qut t m lo').2,()),()):=by
 have c1:=Zeu h hN hm lo'
 have c2:=Zeu (Zh3 h (s:=0) (by have:=h.now;omega)) hN hm lo'
 have hl:=h.kids.len
 obtain ⟨id,inc,now,par,pinc,grand,path,ep,born,asked,til,step,kids⟩:=t
 obtain ⟨kd,fr,to,mi,me,ag,pa,lo,hi,tx⟩:=m
 dsimp only at hl
 unfold Qm6
 rw [Qut]
 dsimp only [g3,g4,g5,g6,g7,g8,g9,g10,g11,g12,h3,h4,h5,h6,h7,h8,h9,h10,h11,h12,u0,u1,u2,u3,u4,u5,u6,u7,u8,u9,u10,u11,u12,e1,e2,e3,e4,e5,e6,e7,e8,e9,e10,e11,e12,Qk7.kd,Qk7.fr,Qk7.to,Qk7.inc,Qk7.ep,Qk7.ag,Qk7.pa,Qk7.lo,Qk7.hi,Qk7.tx]
 rw [Zig _ _ _ (by omega)]
 dsimp only [Option.bind_some]
 cases ho:Zqb kids fr mi with
 | true=>rw [cond_true,if_pos (.inl rfl)]
 | false=>
  rw [cond_false]
  have J10:Qtk (kd,fr,to,mi,me,ag,pa,lo,hi,tx) (id,inc,now,par,pinc,grand,path,ep,born,asked,til,step,kids) lo'=bif fr==par then bif decide (mi>pinc) then Qmj (Zor (id,inc,now,par,pinc,grand,path,ep,born,asked,til,step,kids) 0) (kd,fr,to,mi,me,ag,pa,lo,hi,tx) lo' else Qmj (id,inc,now,par,pinc,grand,path,ep,born,asked,til,step,kids) (kd,fr,to,mi,me,ag,pa,lo,hi,tx) lo' else Qmj (id,inc,now,par,pinc,grand,path,ep,born,asked,til,step,kids) (kd,fr,to,mi,me,ag,pa,lo,hi,tx) lo':=rfl
  rw [J10,c1,c2]
  by_cases a1:fr=par
  ·rw [Z2n a1]
   by_cases a2:mi<pinc
   ·rw [cdp a2,if_pos (.inr ⟨a1,a2⟩)]
   ·rw [cdn a2,if_neg (by simp [a2]),Z2n a1]
    by_cases a3:pinc<mi
    ·rw [cdp a3,if_pos ⟨a1,a3⟩]
    ·rw [cdn a3,if_neg (by simp [a3])]
  ·rw [Z0t a1,if_neg (by simp [a1]),Z0t a1,if_neg (by simp [a1])]
end Go.PE
