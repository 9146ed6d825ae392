/-
  Plain lemmas on the functions.
  Conditions: none.
-/
import Derived.Test.YtmfiijdlhjajcaaGreatDoorNodeDownPNum
set_option linter.unusedVariables false
set_option linter.unusedSimpArgs false
namespace Go.PE
def Zd6:Nat→Nat→List Int
 | 0,_=>[]
 | k+1,v=>if v<128 then [(v:Int)] else ((v % 128+128:Nat):Int)::Zd6 k (v / 128)
theorem Z39 (k v:Nat):Zd6 (k+1) v=if v<128 then [(v:Int)] else ((v % 128+128:Nat):Int)::Zd6 k (v / 128):=rfl
def enc (v:Nat):List Int:=Zd6 10 v
def Zna:Nat→Nat→Nat→Nat→List Int→Option (Nat × Nat)
 | 0,_,_,_,_=>none
 | _+1,_,_,_,[]=>none
 | k+1,i,v,b,x::r=>
  if 128≤x then Zna k (i+1) (v+(x.toNat % 128)*b) (b*128) r
  else if (0<i∧x=0)∨1073741824<v+x.toNat*b then none else some (v+x.toNat*b,i+1)
def dec (l:List Int):Option (Nat × Nat):=Zna 5 0 0 1 l
theorem Zfk:∀ (k v:Nat),(Zd6 k v).length≤k
 | 0,_=>by simp [Zd6]
 | k+1,v=>by
  unfold Zd6
  split
  ·simp
  ·simp only [List.length_cons];have:=Zfk k (v / 128);omega
theorem Zh9:∀ (k v:Nat),Qki (Zd6 k v)
 | 0,_=>by intro x hx;simp [Zd6] at hx
 | k+1,v=>by
  unfold Zd6
  split
  ·intro x hx;simp at hx;omega
  ·intro x hx
   rcases List.mem_cons.1 hx with rfl | hx
   ·omega
   ·exact Zh9 k _ x hx
theorem Za4 (v:Nat):Qki (enc v):=Zh9 _ _
theorem Qv6 (v:Nat):(enc v).length≤10:=Zfk _ _
theorem Z9v (n:Nat):∀ (k m v:Nat) (xs:List Int),k<m→v<2 ^ (7*(k+1))→xs.length+(k+1)≤1073741824 →
  Z0q n m (v:Int) xs=some ((xs++Zd6 (k+1) v,()),())
 | k,0,v,xs,h,_,_=>by omega
 | k,m+1,v,xs,h,hv,hl=>by
  show Z4h (Z0q n m) (v:Int) xs=_
  unfold Z4h
  by_cases hc:v<128
  ·rw [cdn (by omega),cbp (by omega),wu8 (by omega) (by omega)]
   unfold Zd6;rw [if_pos hc]
  ·rw [cdp (by omega),cbp (by omega),Zrj _ (by omega)]
   have e1:Int.fdiv (v:Int) (2 ^ 7)=((v / 128:Nat):Int):=by
    rw [Int.fdiv_eq_ediv_of_nonneg _ (by decide)];rfl
   have e2:(v:Int) % 128+128=((v % 128+128:Nat):Int):=by omega
   rw [e1,e2]
   cases k with
   | zero=>simp at hv;omega
   | succ k=>
    rw [Z9v n k m (v / 128) _ (by omega) ?_ (by rw [List.length_append,List.length_singleton];omega)]
    ·conv=>rhs;unfold Zd6
     rw [if_neg hc,List.append_assoc,List.singleton_append]
    ·have e3:2 ^ (7*(k+1+1))=2 ^ (7*(k+1))*128:=by rw [show 7*(k+1+1)=7*(k+1)+7 by omega,Nat.pow_add]
     rw [e3] at hv
     exact Nat.div_lt_of_lt_mul (by rw [Nat.mul_comm];exact hv)
theorem Zd0 (b:List Int) (v:Nat) (hv:v<9223372036854775808) (hl:b.length≤1000000000):Ze7 b (v:Int)=some ((b++enc v,()),()):=by
 show Z7v (Z0q 1099511627776 1099511627776) b v=_
 unfold Z7v Qtf
 rw [cbp (by omega)]
 simp only [Option.bind_some]
 rw [Zrw (by omega) (by omega)]
 exact Z9v _ 9 _ v b (by omega) (Nat.lt_of_lt_of_le hv (by decide)) (by omega)
theorem Zdy (b:List Int) (s:ByteArray) (hs:s.size≤1000000) (hl:b.length≤1000000):Z22 b s=some ((b++(enc s.size++Qx5 s),()),()):=by
 unfold Z22
 rw [Zd0 b s.size (by omega) (by omega)]
 simp only [Option.bind_some]
 have:=Qv6 s.size
 have h2:=Qre s
 rw [cbp (by
  show (b++enc s.size).length+(Qx5 s).length≤_
  rw [List.length_append];omega),List.append_assoc]
 rfl
theorem Z6z (n:Nat):∀ (k m v:Nat) (xs:List Int),k<m→v<2 ^ (7*(k+1))→v<9223372036854775808→xs.length+(k+1)≤1073741824 →
  Qns n m (v:Int) xs=some ((xs++Zd6 (k+1) v,()),())
 | k,0,v,xs,h,_,_,_=>by omega
 | k,m+1,v,xs,h,hv,h63,hl=>by
  show Qqf (Qns n m) (v:Int) xs=_
  unfold Qqf
  by_cases hc:v<128
  ·rw [cdn (by omega),cbp (by omega),wu8 (by omega) (by omega)]
   unfold Zd6;rw [if_pos hc]
  ·have t1:Int.tdiv (v:Int) 128=((v / 128:Nat):Int):=by rw [Int.tdiv_eq_ediv_of_nonneg (by omega)];omega
   have t2:Int.tmod (v:Int) 128=((v % 128:Nat):Int):=by rw [Int.tmod_eq_emod_of_nonneg (by omega)];omega
   rw [cdp (by omega),cbp (by omega),t1,t2,Qqd (x:=((v / 128:Nat):Int)) (by omega) (by omega),Qqd (by omega) (by omega),wu8 (by omega) (by omega)]
   have e2:((v % 128:Nat):Int)+128=((v % 128+128:Nat):Int):=by omega
   rw [e2]
   cases k with
   | zero=>simp at hv;omega
   | succ k=>
    rw [Z6z n k m (v / 128) _ (by omega) ?_ (by omega) (by rw [List.length_append,List.length_singleton];omega)]
    ·conv=>rhs;unfold Zd6
     rw [if_neg hc,List.append_assoc,List.singleton_append]
    ·have e3:2 ^ (7*(k+1+1))=2 ^ (7*(k+1))*128:=by rw [show 7*(k+1+1)=7*(k+1)+7 by omega,Nat.pow_add]
     rw [e3] at hv
     exact Nat.div_lt_of_lt_mul (by rw [Nat.mul_comm];exact hv)
theorem Z96 (b:List Int) (v:Nat) (hv:v<9223372036854775808) (hl:b.length≤1000000000):Qsm b (v:Int)=some ((b++enc v,()),()):=by
 show Qqp (Qns 1099511627776 1099511627776) b v=_
 unfold Qqp
 rw [cbp (by omega),List.nil_append]
 exact Z6z _ 9 _ v b (by omega) (Nat.lt_of_lt_of_le hv (by decide)) hv (by omega)
theorem Zfc (b:List Int) (s:ByteArray) (hs:s.size≤1000000) (hl:b.length≤1000000):Qrt b s=some ((b++(enc s.size++Qx5 s),()),()):=by
 unfold Qrt
 rw [Z96 b s.size (by omega) (by omega)]
 simp only [Option.bind_some]
 have:=Qv6 s.size
 have h2:=Qre s
 rw [cbp (by
  show (b++enc s.size).length+(Qx5 s).length≤_
  rw [List.length_append];omega),List.append_assoc]
 rfl
def Znt (r:Option (Nat × Nat)):(Int × Int × IV × Unit) × Unit:=
 match r with
 | some (v,n)=>(((v:Int),(n:Int),IV.nil,()),())
 | none=>((0,0,IV.mk 216 [],()),())
theorem Z8s (n:Nat) (b:List Int) (hb:Qki b) (hl:b.length≤4611686018427387904):∀ (k m i v:Nat),k+i=5→k<m→v<128 ^ i →
  Z2p n m b (v:Int) (i:Int)=some (Znt (Zna k i v (128 ^ i) (b.drop i)))
 | k,0,i,v,_,h,_=>by omega
 | k,m+1,i,v,hk,h,hv=>by
  show Z1s (Z2p n m) b (v:Int) (i:Int)=_
  unfold Z1s
  by_cases h1:i<b.length
  ·rw [cdp (by omega)]
   by_cases h2:i<5
   ·obtain ⟨k,rfl⟩:∃ k',k=k'+1:=⟨k - 1,by omega⟩
    rw [cdp (by omega),Z86,cdp (by omega),cdp (by omega),Qqd (x:=7*(i:Int)) (by omega) (by omega),cdp (by omega)]
    have hd:=Zo7 h1
    obtain ⟨x0,x1⟩:=Zix hb h1
    rw [hd]
    have ei:(i:Int).toNat=i:=rfl
    rw [ei]
    generalize hx:List.getD b i 0=x at *
    rw [Zr4 x x0 x1,Qqd (x:=x % 128) (by omega) (by omega),Qqd (x:=(i:Int)+1) (by omega) (by omega)]
    have hp:(128:Nat) ^ i=2 ^ (7*i):=by rw [Nat.pow_mul]
    have hp4:(128:Nat) ^ i≤268435456:=by
     have:=Nat.pow_le_pow_right (n:=128) (by decide) (show i≤4 by omega)
     exact Nat.le_trans this (by decide)
    have e7:(7*(i:Int)).toNat=7*i:=by omega
    have ex:x % 128=((x.toNat % 128:Nat):Int):=by omega
    have hmul:x.toNat % 128*2 ^ (7*i)≤127*268435456:=by
     rw [← hp];exact Nat.mul_le_mul (by omega) hp4
    rw [e7,ex,Zqd v (x.toNat % 128) (7*i) (by rw [← hp];exact hv) (by omega) (by omega),← hp]
    have hmul':x.toNat % 128*128 ^ i≤127*268435456:=by rw [hp];exact hmul
    generalize hw:v+x.toNat % 128*128 ^ i=w at *
    by_cases h3:128≤x
    ·rw [cdp (by omega)]
     have e8:(i:Int)+1=((i+1:Nat):Int):=by omega
     rw [e8,Z8s n b hb hl k m (i+1) w (by omega) (by omega) ?_]
     ·conv=>rhs;unfold Zna
      rw [if_pos h3,hw,Nat.pow_succ]
     ·rw [Nat.pow_succ,← hw]
      have:(x.toNat % 128+1)*128 ^ i≤128*128 ^ i:=Nat.mul_le_mul_right _ (by omega)
      rw [Nat.succ_mul] at this
      omega
    ·have exm:x.toNat % 128=x.toNat:=by omega
     rw [exm] at hw
     rw [cdn (by omega)]
     conv=>rhs;unfold Zna
     rw [if_neg h3,hw]
     have e8:(i:Int)+1=((i+1:Nat):Int):=by omega
     by_cases h4:0<i
     ·rw [cdp (by omega)]
      by_cases h5:x=0
      ·rw [Z2y h5,if_pos (.inl ⟨h4,h5⟩)];rfl
      ·rw [Z09 h5]
       by_cases h6:1073741824<w
       ·rw [cdp (by omega),if_pos (.inr h6)];rfl
       ·rw [cdn (by omega),if_neg (by omega),e8];rfl
     ·rw [cdn (by omega)]
      by_cases h6:1073741824<w
      ·rw [cdp (by omega),if_pos (.inr h6)];rfl
      ·rw [cdn (by omega),if_neg (by omega),e8];rfl
   ·rw [cdn (by omega)]
    obtain rfl:k=0:=by omega
    rfl
  ·rw [cdn (by omega),List.drop_eq_nil_of_le (by omega)]
   cases k<;>rfl
def Zr0 (r:Option (Nat × Nat)):Int × Int × Bool × Unit:=
 match r with
 | some (v,n)=>((v:Int),(n:Int),true,())
 | none=>(0,0,false,())
theorem Znu:Zr0 none=(0,0,false,()):=rfl
theorem Zon (v n:Nat):Zr0 (some (v,n))=((v:Int),(n:Int),true,()):=rfl
theorem Zac (b:List Int) (hb:Qki b) (hl:b.length≤4611686018427387904):Z6t b=some (Zr0 (dec b),()):=by
 unfold Z6t
 have h:Zei b=some (Znt (dec b)):=Z8s 1099511627776 b hb hl 5 1099511627776 0 0 rfl (by omega) (by decide)
 rw [h]
 cases dec b with
 | none=>rfl
 | some p=>rfl
theorem Zla:∀ (k i v b:Nat) (l:List Int) (w n:Nat),Qki l→Zna k i v b l=some (w,n)→i<n∧n≤i+k∧n≤i+l.length∧w≤1073741824∧v≤w
 | 0,i,v,b,l,w,n,hl,h=>by cases h
 | k+1,i,v,b,[],w,n,hl,h=>by cases h
 | k+1,i,v,b,x::r,w,n,hl,h=>by
  have hx:=hl x (List.mem_cons_self ..)
  unfold Zna at h
  split at h
  ·have:=Zla k (i+1) _ _ r w n (fun y hy=>hl y (List.mem_cons_of_mem _ hy)) h
   simp only [List.length_cons]
   have h0:0≤x.toNat % 128*b:=Nat.zero_le _
   omega
  ·split at h
   ·cases h
   ·rename_i hn
    simp only [Option.some.injEq,Prod.mk.injEq] at h
    obtain ⟨rfl,rfl⟩:=h
    simp only [List.length_cons]
    have h0:0≤x.toNat*b:=Nat.zero_le _
    omega
theorem Zlq {l:List Int} {w n:Nat} (hl:Qki l) (h:dec l=some (w,n)):0<n∧n≤5∧n≤l.length∧w≤1073741824:=by
 have:=Zla 5 0 0 1 l w n hl h;omega
theorem Zlg:∀ (k i v b:Nat) (l:List Int) (w n:Nat),0<b→Qki l→Zna k i v b l=some (w,n) →
  ∃ u,w=v+u*b∧(0<i→0<u)∧l.take (n - i)=Zd6 k u∧(∀ j,k≤j→Zd6 j u=Zd6 k u)
 | 0,i,v,b,l,w,n,hb,hl,h=>by cases h
 | k+1,i,v,b,[],w,n,hb,hl,h=>by cases h
 | k+1,i,v,b,x::r,w,n,hb,hl,h=>by
  have hx:=hl x (List.mem_cons_self ..)
  have hr:Qki r:=fun y hy=>hl y (List.mem_cons_of_mem _ hy)
  unfold Zna at h
  split at h
  ·rename_i h1
   obtain ⟨u,hu,hp,ht,hj⟩:=Zlg k (i+1) _ _ r w n (by omega) hr h
   have hn:=Zla k (i+1) _ _ r w n hr h
   have hu0:=hp (by omega)
   refine ⟨x.toNat % 128+128*u,?_,fun _=>by omega,?_,fun j hj'=>?_⟩
   ·rw [hu,Nat.add_mul,Nat.add_assoc]
    congr 2
    rw [Nat.mul_comm b 128,← Nat.mul_assoc,Nat.mul_comm u 128]
   ·rw [show n - i=n - (i+1)+1 by omega,List.take_succ_cons,ht]
    rw [Z39,if_neg (by omega)]
    have e1:(x.toNat % 128+128*u) / 128=u:=by omega
    have e2:(((x.toNat % 128+128*u) % 128+128:Nat):Int)=x:=by omega
    rw [e1,e2]
   ·obtain ⟨j,rfl⟩:∃ j',j=j'+1:=⟨j - 1,by omega⟩
    have e1:(x.toNat % 128+128*u) / 128=u:=by omega
    rw [Z39,Z39,if_neg (by omega),if_neg (by omega),e1,hj j (by omega)]
  ·rename_i h1
   split at h
   ·cases h
   ·rename_i h2
    simp only [Option.some.injEq,Prod.mk.injEq] at h
    obtain ⟨rfl,rfl⟩:=h
    refine ⟨x.toNat,rfl,fun hi=>by omega,?_,fun j hj'=>?_⟩
    ·rw [show i+1 - i=0+1 by omega,List.take_succ_cons,Z39,if_pos (by omega)]
     have:((x.toNat:Nat):Int)=x:=by omega
     rw [this];rfl
    ·obtain ⟨j,rfl⟩:∃ j',j=j'+1:=⟨j - 1,by omega⟩
     rw [Z39,Z39,if_pos (by omega),if_pos (by omega)]
theorem Zqi {l:List Int} {w n:Nat} (hl:Qki l) (h:dec l=some (w,n)):l.take n=enc w:=by
 obtain ⟨u,hu,_,ht,hj⟩:=Zlg 5 0 0 1 l w n (by decide) hl h
 have:u=w:=by omega
 subst this
 rw [show n - 0=n by omega] at ht
 rw [ht,enc,hj 10 (by decide)]
theorem Zlm:∀ (k j i v b u:Nat) (r:List Int),k+i=5→k≤j→u<128 ^ k→0<b→(0<i→0<u)→v+u*b≤1073741824→Zna k i v b (Zd6 j u++r)=some (v+u*b,i+(Zd6 j u).length)
 | 0,j,i,v,b,u,r,h5,hj,hu,hb,hi,hw=>by
  have:u=0:=by simpa using hu
  have:=hi (by omega)
  omega
 | k+1,j,i,v,b,u,r,h5,hj,hu,hb,hi,hw=>by
  obtain ⟨j,rfl⟩:∃ j',j=j'+1:=⟨j - 1,by omega⟩
  unfold Zd6
  by_cases h1:u<128
  ·rw [if_pos h1,List.singleton_append]
   unfold Zna
   have e:((u:Nat):Int).toNat=u:=rfl
   rw [if_neg (by omega),e,if_neg (by omega)]
   rfl
  ·rw [if_neg h1,List.cons_append]
   unfold Zna
   have e:(((u % 128+128:Nat):Int).toNat) % 128=u % 128:=by omega
   rw [if_pos (by omega),e]
   have e2:v+u % 128*b+u / 128*(b*128)=v+u*b:=by
    have:u*b=(u % 128+128*(u / 128))*b:=by rw [Nat.mod_add_div]
    rw [this,Nat.add_mul,Nat.add_assoc]
    congr 2
    rw [Nat.mul_comm b 128,← Nat.mul_assoc,Nat.mul_comm (u / 128) 128]
   rw [Zlm k j (i+1) _ (b*128) (u / 128) r (by omega) (by omega) (by rw [Nat.pow_succ] at hu;exact Nat.div_lt_of_lt_mul (by rw [Nat.mul_comm];exact hu)) (by omega) (fun _=>by omega) (by rw [e2];exact hw),e2]
   simp only [List.length_cons]
   rw [show i+1+(Zd6 j (u / 128)).length=i+((Zd6 j (u / 128)).length+1) by omega]
theorem Zo1 (u:Nat) (r:List Int) (h:u≤1073741824):dec (enc u++r)=some (u,(enc u).length):=by
 have:=Zlm 5 10 0 0 1 u r rfl (by decide) (Nat.lt_of_le_of_lt h (by decide)) (by decide) (by omega) (by omega)
 rw [show 0+u*1=u by omega,show 0+(Zd6 10 u).length=(Zd6 10 u).length by omega] at this
 exact this
def Zpe (l:List Int):Option (List Int × Nat):=
 match dec l with
 | some (v,n)=>if v≤l.length - n then some ((l.drop n).take v,n+v) else none
 | none=>none
def Znh (r:Option (List Int × Nat)):ByteArray × Int × Bool × Unit:=
 match r with
 | some (t,n)=>(Q5g t,(n:Int),true,())
 | none=>(⟨#[]⟩,0,false,())
theorem Zmf:Znh none=(⟨#[]⟩,0,false,()):=rfl
theorem Zmg (t:List Int) (n:Nat):Znh (some (t,n))=(Q5g t,(n:Int),true,()):=rfl
theorem Zl3 (b:List Int) (hb:Qki b) (hl:b.length≤4611686018427387904) {T:Option ((Int × Int × Bool × Unit) × Unit)} (hT:T=some (Zr0 (dec b),())) :
  (Option.bind T fun (r1:(Int × Int × Bool × Unit) × Unit)=>
 bif !r1.1.2.2.1 then
 some (((⟨#[]⟩:ByteArray),(0:Int),false,()),())
 else
 bif decide (r1.1.1>IntKind.wrap .i64 ((b.length:Int) - r1.1.2.1)) then
 some (((⟨#[]⟩:ByteArray),(0:Int),false,()),())
 else
 bif (decide (0≤r1.1.2.1)&&decide (r1.1.2.1≤IntKind.wrap .i64 (r1.1.2.1+r1.1.1)))&&decide (IntKind.wrap .i64 (r1.1.2.1+r1.1.1)≤(b.length:Int)) then
 some ((Q5g (List.drop r1.1.2.1.toNat (List.take ((IntKind.wrap .i64 (r1.1.2.1+r1.1.1)).toNat) b)),IntKind.wrap .i64 (r1.1.2.1+r1.1.1),true,()),())
 else none)=some (Znh (Zpe b),()):=by
 subst hT
 unfold Zpe
 cases hd:dec b with
 | none=>rfl
 | some p=>
  obtain ⟨v,n⟩:=p
  obtain ⟨h0,h1,h2,h3⟩:=Zlq hb hd
  simp only [Option.bind_some,Zr0,Bool.not_true,cond_false]
  rw [Qqd (x:=(b.length:Int) - (n:Int)) (by omega) (by omega),Qqd (x:=(n:Int)+(v:Int)) (by omega) (by omega)]
  by_cases hc:v≤b.length - n
  ·rw [cdn (by omega)]
   simp only [Z86]
   rw [cdp (by omega),cdp (by omega),cdp (by omega),if_pos hc]
   have e1:((n:Int)+(v:Int)).toNat=n+v:=by omega
   have e2:(n:Int).toNat=n:=rfl
   rw [e1,e2]
   have e3:List.drop n (List.take (n+v) b)=List.take v (List.drop n b):=by
    rw [List.take_drop]
   rw [e3]
   simp only [Znh]
   have e4:(n:Int)+(v:Int)=((n+v:Nat):Int):=by omega
   rw [e4]
  ·rw [cdp (by omega),if_neg hc];rfl
theorem Zca (b:List Int) (hb:Qki b) (hl:b.length≤4611686018427387904):Z55 b=some (Znh (Zpe b),()):=
 Zl3 b hb hl (Zac b hb hl)
def Ze4 (t:List Int):List Int:=enc t.length++t
theorem Zp7 (t r:List Int) (h:t.length≤1073741824):Zpe (Ze4 t++r)=some (t,(Ze4 t).length):=by
 unfold Zpe Ze4
 rw [List.append_assoc,Zo1 _ _ h]
 simp only [List.length_append]
 rw [if_pos (by omega),List.drop_left,List.take_left]
theorem Zq3 {l t:List Int} {n:Nat} (hl:Qki l) (h:Zpe l=some (t,n)):0<n∧n≤l.length∧t.length≤1073741824∧Qki t∧l.take n=Ze4 t:=by
 unfold Zpe at h
 cases hd:dec l with
 | none=>rw [hd] at h;cases h
 | some p=>
  obtain ⟨v,m⟩:=p
  rw [hd] at h
  simp only at h
  obtain ⟨h0,h1,h2,h3⟩:=Zlq hl hd
  split at h
  ·rename_i hc
   simp only [Option.some.injEq,Prod.mk.injEq] at h
   obtain ⟨rfl,rfl⟩:=h
   have hlen:((l.drop m).take v).length=v:=by rw [List.length_take,List.length_drop];omega
   refine ⟨by omega,by omega,by omega,Zdj (Z67 hl m) v,?_⟩
   unfold Ze4
   rw [hlen,← Zqi hl hd,List.take_add]
  ·cases h
end Go.PE
