/-
  Plain lemmas on the functions.
  Conditions: none.
-/
import Derived.Test.YtmfiijdlhjajcaaGreatDoorNodeServesPNum
set_option linter.unusedVariables false
set_option linter.unusedSimpArgs false
namespace Go.PE
def Zeh:Nat→Nat→List Int
 | 0,_=>[]
 | k+1,v=>if v<128 then [(v:Int)] else ((v % 128+128:Nat):Int)::Zeh k (v / 128)
theorem Z4x (k v:Nat):Zeh (k+1) v=if v<128 then [(v:Int)] else ((v % 128+128:Nat):Int)::Zeh k (v / 128):=rfl
def enc (v:Nat):List Int:=Zeh 10 v
def Zot:Nat→Nat→Nat→Nat→List Int→Option (Nat × Nat)
 | 0,_,_,_,_=>none
 | _+1,_,_,_,[]=>none
 | k+1,i,v,b,x::r=>
  if 128≤x then Zot k (i+1) (v+(x.toNat % 128)*b) (b*128) r
  else if (0<i∧x=0)∨1073741824<v+x.toNat*b then none else some (v+x.toNat*b,i+1)
def dec (l:List Int):Option (Nat × Nat):=Zot 5 0 0 1 l
theorem Zgj:∀ (k v:Nat),(Zeh k v).length≤k
 | 0,_=>by simp [Zeh]
 | k+1,v=>by
  unfold Zeh
  split
  ·simp
  ·simp only [List.length_cons];have:=Zgj k (v / 128);omega
theorem Ziv:∀ (k v:Nat),Qkn (Zeh k v)
 | 0,_=>by intro x hx;simp [Zeh] at hx
 | k+1,v=>by
  unfold Zeh
  split
  ·intro x hx;simp at hx;omega
  ·intro x hx
   rcases List.mem_cons.1 hx with rfl | hx
   ·omega
   ·exact Ziv k _ x hx
theorem Zd5 (v:Nat):Qkn (enc v):=Ziv _ _
theorem Qw4 (v:Nat):(enc v).length≤10:=Zgj _ _
theorem Zd6 (n:Nat):∀ (k m v:Nat) (xs:List Int),k<m→v<2 ^ (7*(k+1))→xs.length+(k+1)≤1073741824 →
  Z1e n m (v:Int) xs=some ((xs++Zeh (k+1) v,()),())
 | k,0,v,xs,h,_,_=>by omega
 | k,m+1,v,xs,h,hv,hl=>by
  show Z6l (Z1e n m) (v:Int) xs=_
  unfold Z6l
  by_cases hc:v<128
  ·rw [cdn (by omega),cbp (by omega),wu8 (by omega) (by omega)]
   unfold Zeh;rw [if_pos hc]
  ·rw [cdp (by omega),cbp (by omega),Ztc _ (by omega)]
   have e1:Int.fdiv (v:Int) (2 ^ 7)=((v / 128:Nat):Int):=by
    rw [Int.fdiv_eq_ediv_of_nonneg _ (by decide)];rfl
   have e2:(v:Int) % 128+128=((v % 128+128:Nat):Int):=by omega
   rw [e1,e2]
   cases k with
   | zero=>simp at hv;omega
   | succ k=>
    rw [Zd6 n k m (v / 128) _ (by omega) ?_ (by rw [List.length_append,List.length_singleton];omega)]
    ·conv=>rhs;unfold Zeh
     rw [if_neg hc,List.append_assoc,List.singleton_append]
    ·have e3:2 ^ (7*(k+1+1))=2 ^ (7*(k+1))*128:=by rw [show 7*(k+1+1)=7*(k+1)+7 by omega,Nat.pow_add]
     rw [e3] at hv
     exact Nat.div_lt_of_lt_mul (by rw [Nat.mul_comm];exact hv)
theorem Zf4 (b:List Int) (v:Nat) (hv:v<9223372036854775808) (hl:b.length≤1000000000):Zfo b (v:Int)=some ((b++enc v,()),()):=by
 show Z9j (Z1e 1099511627776 1099511627776) b v=_
 unfold Z9j Quj
 rw [cbp (by omega)]
 simp only [Option.bind_some]
 rw [Zte (by omega) (by omega)]
 exact Zd6 _ 9 _ v b (by omega) (Nat.lt_of_lt_of_le hv (by decide)) (by omega)
theorem Zfn (b:List Int) (s:ByteArray) (hs:s.size≤1000000) (hl:b.length≤1000000):Z3w b s=some ((b++(enc s.size++Qyl s),()),()):=by
 unfold Z3w
 rw [Zf4 b s.size (by omega) (by omega)]
 simp only [Option.bind_some]
 have:=Qw4 s.size
 have h2:=Qs5 s
 rw [cbp (by
  show (b++enc s.size).length+(Qyl s).length≤_
  rw [List.length_append];omega),List.append_assoc]
 rfl
theorem Z83 (n:Nat):∀ (k m v:Nat) (xs:List Int),k<m→v<2 ^ (7*(k+1))→v<9223372036854775808→xs.length+(k+1)≤1073741824 →
  Qo9 n m (v:Int) xs=some ((xs++Zeh (k+1) v,()),())
 | k,0,v,xs,h,_,_,_=>by omega
 | k,m+1,v,xs,h,hv,h63,hl=>by
  show Qqt (Qo9 n m) (v:Int) xs=_
  unfold Qqt
  by_cases hc:v<128
  ·rw [cdn (by omega),cbp (by omega),wu8 (by omega) (by omega)]
   unfold Zeh;rw [if_pos hc]
  ·have t1:Int.tdiv (v:Int) 128=((v / 128:Nat):Int):=by rw [Int.tdiv_eq_ediv_of_nonneg (by omega)];omega
   have t2:Int.tmod (v:Int) 128=((v % 128:Nat):Int):=by rw [Int.tmod_eq_emod_of_nonneg (by omega)];omega
   rw [cdp (by omega),cbp (by omega),t1,t2,Qq3 (x:=((v / 128:Nat):Int)) (by omega) (by omega),Qq3 (by omega) (by omega),wu8 (by omega) (by omega)]
   have e2:((v % 128:Nat):Int)+128=((v % 128+128:Nat):Int):=by omega
   rw [e2]
   cases k with
   | zero=>simp at hv;omega
   | succ k=>
    rw [Z83 n k m (v / 128) _ (by omega) ?_ (by omega) (by rw [List.length_append,List.length_singleton];omega)]
    ·conv=>rhs;unfold Zeh
     rw [if_neg hc,List.append_assoc,List.singleton_append]
    ·have e3:2 ^ (7*(k+1+1))=2 ^ (7*(k+1))*128:=by rw [show 7*(k+1+1)=7*(k+1)+7 by omega,Nat.pow_add]
     rw [e3] at hv
     exact Nat.div_lt_of_lt_mul (by rw [Nat.mul_comm];exact hv)
theorem Zag (b:List Int) (v:Nat) (hv:v<9223372036854775808) (hl:b.length≤1000000000):Qtd b (v:Int)=some ((b++enc v,()),()):=by
 show Qrh (Qo9 1099511627776 1099511627776) b v=_
 unfold Qrh
 rw [cbp (by omega),List.nil_append]
 exact Z83 _ 9 _ v b (by omega) (Nat.lt_of_lt_of_le hv (by decide)) hv (by omega)
theorem Zh4 (b:List Int) (s:ByteArray) (hs:s.size≤1000000) (hl:b.length≤1000000):Qsh b s=some ((b++(enc s.size++Qyl s),()),()):=by
 unfold Qsh
 rw [Zag b s.size (by omega) (by omega)]
 simp only [Option.bind_some]
 have:=Qw4 s.size
 have h2:=Qs5 s
 rw [cbp (by
  show (b++enc s.size).length+(Qyl s).length≤_
  rw [List.length_append];omega),List.append_assoc]
 rfl
def Zoy (r:Option (Nat × Nat)):(Int × Int × IV × Unit) × Unit:=
 match r with
 | some (v,n)=>(((v:Int),(n:Int),IV.nil,()),())
 | none=>((0,0,IV.mk 216 [],()),())
theorem Zap (n:Nat) (b:List Int) (hb:Qkn b) (hl:b.length≤4611686018427387904):∀ (k m i v:Nat),k+i=5→k<m→v<128 ^ i →
  Z3l n m b (v:Int) (i:Int)=some (Zoy (Zot k i v (128 ^ i) (b.drop i)))
 | k,0,i,v,_,h,_=>by omega
 | k,m+1,i,v,hk,h,hv=>by
  show Z3p (Z3l n m) b (v:Int) (i:Int)=_
  unfold Z3p
  by_cases h1:i<b.length
  ·rw [cdp (by omega)]
   by_cases h2:i<5
   ·obtain ⟨k,rfl⟩:∃ k',k=k'+1:=⟨k - 1,by omega⟩
    rw [cdp (by omega),Zab,cdp (by omega),cdp (by omega),Qq3 (x:=7*(i:Int)) (by omega) (by omega),cdp (by omega)]
    have hd:=Zpk h1
    obtain ⟨x0,x1⟩:=Zkx hb h1
    rw [hd]
    have ei:(i:Int).toNat=i:=rfl
    rw [ei]
    generalize hx:List.getD b i 0=x at *
    rw [Zsw x x0 x1,Qq3 (x:=x % 128) (by omega) (by omega),Qq3 (x:=(i:Int)+1) (by omega) (by omega)]
    have hp:(128:Nat) ^ i=2 ^ (7*i):=by rw [Nat.pow_mul]
    have hp4:(128:Nat) ^ i≤268435456:=by
     have:=Nat.pow_le_pow_right (n:=128) (by decide) (show i≤4 by omega)
     exact Nat.le_trans this (by decide)
    have e7:(7*(i:Int)).toNat=7*i:=by omega
    have ex:x % 128=((x.toNat % 128:Nat):Int):=by omega
    have hmul:x.toNat % 128*2 ^ (7*i)≤127*268435456:=by
     rw [← hp];exact Nat.mul_le_mul (by omega) hp4
    rw [e7,ex,Zrv v (x.toNat % 128) (7*i) (by rw [← hp];exact hv) (by omega) (by omega),← hp]
    have hmul':x.toNat % 128*128 ^ i≤127*268435456:=by rw [hp];exact hmul
    generalize hw:v+x.toNat % 128*128 ^ i=w at *
    by_cases h3:128≤x
    ·rw [cdp (by omega)]
     have e8:(i:Int)+1=((i+1:Nat):Int):=by omega
     rw [e8,Zap n b hb hl k m (i+1) w (by omega) (by omega) ?_]
     ·conv=>rhs;unfold Zot
      rw [if_pos h3,hw,Nat.pow_succ]
     ·rw [Nat.pow_succ,← hw]
      have:(x.toNat % 128+1)*128 ^ i≤128*128 ^ i:=Nat.mul_le_mul_right _ (by omega)
      rw [Nat.succ_mul] at this
      omega
    ·have exm:x.toNat % 128=x.toNat:=by omega
     rw [exm] at hw
     rw [cdn (by omega)]
     conv=>rhs;unfold Zot
     rw [if_neg h3,hw]
     have e8:(i:Int)+1=((i+1:Nat):Int):=by omega
     by_cases h4:0<i
     ·rw [cdp (by omega)]
      by_cases h5:x=0
      ·rw [Z2n h5,if_pos (.inl ⟨h4,h5⟩)];rfl
      ·rw [Z0t h5]
       by_cases h6:1073741824<w
       ·rw [cdp (by omega),if_pos (.inr h6)];rfl
       ·rw [cdn (by omega),if_neg (by omega),e8];rfl
     ·rw [cdn (by omega)]
      by_cases h6:1073741824<w
      ·rw [cdp (by omega),if_pos (.inr h6)];rfl
      ·rw [cdn (by omega),if_neg (by omega),e8];rfl
   ·rw [cdn (by omega)]
    obtain rfl:k=0:=by omega
    rfl
  ·rw [cdn (by omega),List.drop_eq_nil_of_le (by omega)]
   cases k<;>rfl
def Zsl (r:Option (Nat × Nat)):Int × Int × Bool × Unit:=
 match r with
 | some (v,n)=>((v:Int),(n:Int),true,())
 | none=>(0,0,false,())
theorem Zpa:Zsl none=(0,0,false,()):=rfl
theorem Zpi (v n:Nat):Zsl (some (v,n))=((v:Int),(n:Int),true,()):=rfl
theorem Zc4 (b:List Int) (hb:Qkn b) (hl:b.length≤4611686018427387904):Z8h b=some (Zsl (dec b),()):=by
 unfold Z8h
 have h:Zgx b=some (Zoy (dec b)):=Zap 1099511627776 b hb hl 5 1099511627776 0 0 rfl (by omega) (by decide)
 rw [h]
 cases dec b with
 | none=>rfl
 | some p=>rfl
theorem Zmn:∀ (k i v b:Nat) (l:List Int) (w n:Nat),Qkn l→Zot k i v b l=some (w,n)→i<n∧n≤i+k∧n≤i+l.length∧w≤1073741824∧v≤w
 | 0,i,v,b,l,w,n,hl,h=>by cases h
 | k+1,i,v,b,[],w,n,hl,h=>by cases h
 | k+1,i,v,b,x::r,w,n,hl,h=>by
  have hx:=hl x (List.mem_cons_self ..)
  unfold Zot at h
  split at h
  ·have:=Zmn k (i+1) _ _ r w n (fun y hy=>hl y (List.mem_cons_of_mem _ hy)) h
   simp only [List.length_cons]
   have h0:0≤x.toNat % 128*b:=Nat.zero_le _
   omega
  ·split at h
   ·cases h
   ·rename_i hn
    simp only [Option.some.injEq,Prod.mk.injEq] at h
    obtain ⟨rfl,rfl⟩:=h
    simp only [List.length_cons]
    have h0:0≤x.toNat*b:=Nat.zero_le _
    omega
theorem Zne {l:List Int} {w n:Nat} (hl:Qkn l) (h:dec l=some (w,n)):0<n∧n≤5∧n≤l.length∧w≤1073741824:=by
 have:=Zmn 5 0 0 1 l w n hl h;omega
theorem Zn0:∀ (k i v b:Nat) (l:List Int) (w n:Nat),0<b→Qkn l→Zot k i v b l=some (w,n) →
  ∃ u,w=v+u*b∧(0<i→0<u)∧l.take (n - i)=Zeh k u∧(∀ j,k≤j→Zeh j u=Zeh k u)
 | 0,i,v,b,l,w,n,hb,hl,h=>by cases h
 | k+1,i,v,b,[],w,n,hb,hl,h=>by cases h
 | k+1,i,v,b,x::r,w,n,hb,hl,h=>by
  have hx:=hl x (List.mem_cons_self ..)
  have hr:Qkn r:=fun y hy=>hl y (List.mem_cons_of_mem _ hy)
  unfold Zot at h
  split at h
  ·rename_i h1
   obtain ⟨u,hu,hp,ht,hj⟩:=Zn0 k (i+1) _ _ r w n (by omega) hr h
   have hn:=Zmn k (i+1) _ _ r w n hr h
   have hu0:=hp (by omega)
   refine ⟨x.toNat % 128+128*u,?_,fun _=>by omega,?_,fun j hj'=>?_⟩
   ·rw [hu,Nat.add_mul,Nat.add_assoc]
    congr 2
    rw [Nat.mul_comm b 128,← Nat.mul_assoc,Nat.mul_comm u 128]
   ·rw [show n - i=n - (i+1)+1 by omega,List.take_succ_cons,ht]
    rw [Z4x,if_neg (by omega)]
    have e1:(x.toNat % 128+128*u) / 128=u:=by omega
    have e2:(((x.toNat % 128+128*u) % 128+128:Nat):Int)=x:=by omega
    rw [e1,e2]
   ·obtain ⟨j,rfl⟩:∃ j',j=j'+1:=⟨j - 1,by omega⟩
    have e1:(x.toNat % 128+128*u) / 128=u:=by omega
    rw [Z4x,Z4x,if_neg (by omega),if_neg (by omega),e1,hj j (by omega)]
  ·rename_i h1
   split at h
   ·cases h
   ·rename_i h2
    simp only [Option.some.injEq,Prod.mk.injEq] at h
    obtain ⟨rfl,rfl⟩:=h
    refine ⟨x.toNat,rfl,fun hi=>by omega,?_,fun j hj'=>?_⟩
    ·rw [show i+1 - i=0+1 by omega,List.take_succ_cons,Z4x,if_pos (by omega)]
     have:((x.toNat:Nat):Int)=x:=by omega
     rw [this];rfl
    ·obtain ⟨j,rfl⟩:∃ j',j=j'+1:=⟨j - 1,by omega⟩
     rw [Z4x,Z4x,if_pos (by omega),if_pos (by omega)]
theorem Zs4 {l:List Int} {w n:Nat} (hl:Qkn l) (h:dec l=some (w,n)):l.take n=enc w:=by
 obtain ⟨u,hu,_,ht,hj⟩:=Zn0 5 0 0 1 l w n (by decide) hl h
 have:u=w:=by omega
 subst this
 rw [show n - 0=n by omega] at ht
 rw [ht,enc,hj 10 (by decide)]
theorem Znl:∀ (k j i v b u:Nat) (r:List Int),k+i=5→k≤j→u<128 ^ k→0<b→(0<i→0<u)→v+u*b≤1073741824→Zot k i v b (Zeh j u++r)=some (v+u*b,i+(Zeh j u).length)
 | 0,j,i,v,b,u,r,h5,hj,hu,hb,hi,hw=>by
  have:u=0:=by simpa using hu
  have:=hi (by omega)
  omega
 | k+1,j,i,v,b,u,r,h5,hj,hu,hb,hi,hw=>by
  obtain ⟨j,rfl⟩:∃ j',j=j'+1:=⟨j - 1,by omega⟩
  unfold Zeh
  by_cases h1:u<128
  ·rw [if_pos h1,List.singleton_append]
   unfold Zot
   have e:((u:Nat):Int).toNat=u:=rfl
   rw [if_neg (by omega),e,if_neg (by omega)]
   rfl
  ·rw [if_neg h1,List.cons_append]
   unfold Zot
   have e:(((u % 128+128:Nat):Int).toNat) % 128=u % 128:=by omega
   rw [if_pos (by omega),e]
   have e2:v+u % 128*b+u / 128*(b*128)=v+u*b:=by
    have:u*b=(u % 128+128*(u / 128))*b:=by rw [Nat.mod_add_div]
    rw [this,Nat.add_mul,Nat.add_assoc]
    congr 2
    rw [Nat.mul_comm b 128,← Nat.mul_assoc,Nat.mul_comm (u / 128) 128]
   rw [Znl k j (i+1) _ (b*128) (u / 128) r (by omega) (by omega) (by rw [Nat.pow_succ] at hu;exact Nat.div_lt_of_lt_mul (by rw [Nat.mul_comm];exact hu)) (by omega) (fun _=>by omega) (by rw [e2];exact hw),e2]
   simp only [List.length_cons]
   rw [show i+1+(Zeh j (u / 128)).length=i+((Zeh j (u / 128)).length+1) by omega]
theorem Zpj (u:Nat) (r:List Int) (h:u≤1073741824):dec (enc u++r)=some (u,(enc u).length):=by
 have:=Znl 5 10 0 0 1 u r rfl (by decide) (Nat.lt_of_le_of_lt h (by decide)) (by decide) (by omega) (by omega)
 rw [show 0+u*1=u by omega,show 0+(Zeh 10 u).length=(Zeh 10 u).length by omega] at this
 exact this
def Zr9 (l:List Int):Option (List Int × Nat):=
 match dec l with
 | some (v,n)=>if v≤l.length - n then some ((l.drop n).take v,n+v) else none
 | none=>none
def Zpe (r:Option (List Int × Nat)):ByteArray × Int × Bool × Unit:=
 match r with
 | some (t,n)=>(Q5g t,(n:Int),true,())
 | none=>(⟨#[]⟩,0,false,())
theorem Zol:Zpe none=(⟨#[]⟩,0,false,()):=rfl
theorem Zof (t:List Int) (n:Nat):Zpe (some (t,n))=(Q5g t,(n:Int),true,()):=rfl
theorem Zlx (b:List Int) (hb:Qkn b) (hl:b.length≤4611686018427387904) {T:Option ((Int × Int × Bool × Unit) × Unit)} (hT:T=some (Zsl (dec b),())) :
  (Option.bind T fun (r1:(Int × Int × Bool × Unit) × Unit)=>
 bif !r1.1.2.2.1 then
 some (((⟨#[]⟩:ByteArray),(0:Int),false,()),())
 else
 bif decide (r1.1.1>IntKind.wrap .i64 ((b.length:Int) - r1.1.2.1)) then
 some (((⟨#[]⟩:ByteArray),(0:Int),false,()),())
 else
 bif (decide (0≤r1.1.2.1)&&decide (r1.1.2.1≤IntKind.wrap .i64 (r1.1.2.1+r1.1.1)))&&decide (IntKind.wrap .i64 (r1.1.2.1+r1.1.1)≤(b.length:Int)) then
 some ((Q5g (List.drop r1.1.2.1.toNat (List.take ((IntKind.wrap .i64 (r1.1.2.1+r1.1.1)).toNat) b)),IntKind.wrap .i64 (r1.1.2.1+r1.1.1),true,()),())
 else none)=some (Zpe (Zr9 b),()):=by
 subst hT
 unfold Zr9
 cases hd:dec b with
 | none=>rfl
 | some p=>
  obtain ⟨v,n⟩:=p
  obtain ⟨h0,h1,h2,h3⟩:=Zne hb hd
  simp only [Option.bind_some,Zsl,Bool.not_true,cond_false]
  rw [Qq3 (x:=(b.length:Int) - (n:Int)) (by omega) (by omega),Qq3 (x:=(n:Int)+(v:Int)) (by omega) (by omega)]
  by_cases hc:v≤b.length - n
  ·rw [cdn (by omega)]
   simp only [Zab]
   rw [cdp (by omega),cdp (by omega),cdp (by omega),if_pos hc]
   have e1:((n:Int)+(v:Int)).toNat=n+v:=by omega
   have e2:(n:Int).toNat=n:=rfl
   rw [e1,e2]
   have e3:List.drop n (List.take (n+v) b)=List.take v (List.drop n b):=by
    rw [List.take_drop]
   rw [e3]
   simp only [Zpe]
   have e4:(n:Int)+(v:Int)=((n+v:Nat):Int):=by omega
   rw [e4]
  ·rw [cdp (by omega),if_neg hc];rfl
theorem Zdz (b:List Int) (hb:Qkn b) (hl:b.length≤4611686018427387904):Z5w b=some (Zpe (Zr9 b),()):=
 Zlx b hb hl (Zc4 b hb hl)
def Zfq (t:List Int):List Int:=enc t.length++t
theorem Zr0 (t r:List Int) (h:t.length≤1073741824):Zr9 (Zfq t++r)=some (t,(Zfq t).length):=by
 unfold Zr9 Zfq
 rw [List.append_assoc,Zpj _ _ h]
 simp only [List.length_append]
 rw [if_pos (by omega),List.drop_left,List.take_left]
theorem Zs8 {l t:List Int} {n:Nat} (hl:Qkn l) (h:Zr9 l=some (t,n)):0<n∧n≤l.length∧t.length≤1073741824∧Qkn t∧l.take n=Zfq t:=by
 unfold Zr9 at h
 cases hd:dec l with
 | none=>rw [hd] at h;cases h
 | some p=>
  obtain ⟨v,m⟩:=p
  rw [hd] at h
  simp only at h
  obtain ⟨h0,h1,h2,h3⟩:=Zne hl hd
  split at h
  ·rename_i hc
   simp only [Option.some.injEq,Prod.mk.injEq] at h
   obtain ⟨rfl,rfl⟩:=h
   have hlen:((l.drop m).take v).length=v:=by rw [List.length_take,List.length_drop];omega
   refine ⟨by omega,by omega,by omega,Zet (Z7t hl m) v,?_⟩
   unfold Zfq
   rw [hlen,← Zs4 hl hd,List.take_add]
  ·cases h
end Go.PE
