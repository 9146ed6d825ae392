/-
  Plain lemmas on the functions.
  Conditions: none.
-/
import Derived.Test.YtmfiijdlhjajcaaGreatDoorNodeDeafPNum
set_option linter.unusedVariables false
set_option linter.unusedSimpArgs false
namespace Go.PE
def Zc6:Nat→Nat→List Int
 | 0,_=>[]
 | k+1,v=>if v<128 then [(v:Int)] else ((v % 128+128:Nat):Int)::Zc6 k (v / 128)
theorem Z1b (k v:Nat):Zc6 (k+1) v=if v<128 then [(v:Int)] else ((v % 128+128:Nat):Int)::Zc6 k (v / 128):=rfl
def enc (v:Nat):List Int:=Zc6 10 v
def Znc:Nat→Nat→Nat→Nat→List Int→Option (Nat × Nat)
 | 0,_,_,_,_=>none
 | _+1,_,_,_,[]=>none
 | k+1,i,v,b,x::r=>
  if 128≤x then Znc k (i+1) (v+(x.toNat % 128)*b) (b*128) r
  else if (0<i∧x=0)∨1073741824<v+x.toNat*b then none else some (v+x.toNat*b,i+1)
def dec (l:List Int):Option (Nat × Nat):=Znc 5 0 0 1 l
theorem Zi9:∀ (k v:Nat),(Zc6 k v).length≤k
 | 0,_=>by simp [Zc6]
 | k+1,v=>by
  unfold Zc6
  split
  ·simp
  ·simp only [List.length_cons];have:=Zi9 k (v / 128);omega
theorem Zk9:∀ (k v:Nat),Qk9 (Zc6 k v)
 | 0,_=>by intro x hx;simp [Zc6] at hx
 | k+1,v=>by
  unfold Zc6
  split
  ·intro x hx;simp at hx;omega
  ·intro x hx
   rcases List.mem_cons.1 hx with rfl | hx
   ·omega
   ·exact Zk9 k _ x hx
theorem Zcd (v:Nat):Qk9 (enc v):=Zk9 _ _
theorem Qvj (v:Nat):(enc v).length≤10:=Zi9 _ _
theorem Zrp (k v:Nat):0<(Zc6 (k+1) v).length:=by unfold Zc6;split<;>simp
theorem Ztq (v:Nat):0<(enc v).length:=Zrp 9 v
theorem Zd5 (n:Nat):∀ (k m v:Nat) (xs:List Int),k<m→v<2 ^ (7*(k+1))→xs.length+(k+1)≤1073741824 →
  Z1d n m (v:Int) xs=some ((xs++Zc6 (k+1) v,()),())
 | k,0,v,xs,h,_,_=>by omega
 | k,m+1,v,xs,h,hv,hl=>by
  show Z5o (Z1d n m) (v:Int) xs=_
  unfold Z5o
  by_cases hc:v<128
  ·rw [cdn (by omega),cbp (by omega),wu8 (by omega) (by omega)]
   unfold Zc6;rw [if_pos hc]
  ·rw [cdp (by omega),cbp (by omega),Ztp _ (by omega)]
   have e1:Int.fdiv (v:Int) (2 ^ 7)=((v / 128:Nat):Int):=by
    rw [Int.fdiv_eq_ediv_of_nonneg _ (by decide)];rfl
   have e2:(v:Int) % 128+128=((v % 128+128:Nat):Int):=by omega
   rw [e1,e2]
   cases k with
   | zero=>simp at hv;omega
   | succ k=>
    rw [Zd5 n k m (v / 128) _ (by omega) ?_ (by rw [List.length_append,List.length_singleton];omega)]
    ·conv=>rhs;unfold Zc6
     rw [if_neg hc,List.append_assoc,List.singleton_append]
    ·have e3:2 ^ (7*(k+1+1))=2 ^ (7*(k+1))*128:=by rw [show 7*(k+1+1)=7*(k+1)+7 by omega,Nat.pow_add]
     rw [e3] at hv
     exact Nat.div_lt_of_lt_mul (by rw [Nat.mul_comm];exact hv)
theorem Zez (b:List Int) (v:Nat) (hv:v<9223372036854775808) (hl:b.length≤1000000000):Zga b (v:Int)=some ((b++enc v,()),()):=by
 show Z93 (Z1d 1099511627776 1099511627776) b v=_
 unfold Z93 Qtw
 rw [cbp (by omega)]
 simp only [Option.bind_some]
 rw [Zu6 (by omega) (by omega)]
 exact Zd5 _ 9 _ v b (by omega) (Nat.lt_of_lt_of_le hv (by decide)) (by omega)
theorem Zfx (b:List Int) (s:ByteArray) (hs:s.size≤1000000) (hl:b.length≤1000000):Z3m b s=some ((b++(enc s.size++Qvz s),()),()):=by
 unfold Z3m
 rw [Zez b s.size (by omega) (by omega)]
 simp only [Option.bind_some]
 have:=Qvj s.size
 have h2:=Qrp s
 rw [cbp (by
  show (b++enc s.size).length+(Qvz s).length≤_
  rw [List.length_append];omega),List.append_assoc]
 rfl
theorem Z7m (n:Nat):∀ (k m v:Nat) (xs:List Int),k<m→v<2 ^ (7*(k+1))→v<9223372036854775808→xs.length+(k+1)≤1073741824 →
  Qnu n m (v:Int) xs=some ((xs++Zc6 (k+1) v,()),())
 | k,0,v,xs,h,_,_,_=>by omega
 | k,m+1,v,xs,h,hv,h63,hl=>by
  show Qqs (Qnu n m) (v:Int) xs=_
  unfold Qqs
  by_cases hc:v<128
  ·rw [cdn (by omega),cbp (by omega),wu8 (by omega) (by omega)]
   unfold Zc6;rw [if_pos hc]
  ·have t1:Int.tdiv (v:Int) 128=((v / 128:Nat):Int):=by rw [Int.tdiv_eq_ediv_of_nonneg (by omega)];omega
   have t2:Int.tmod (v:Int) 128=((v % 128:Nat):Int):=by rw [Int.tmod_eq_emod_of_nonneg (by omega)];omega
   rw [cdp (by omega),cbp (by omega),t1,t2,Qsk (x:=((v / 128:Nat):Int)) (by omega) (by omega),Qsk (by omega) (by omega),wu8 (by omega) (by omega)]
   have e2:((v % 128:Nat):Int)+128=((v % 128+128:Nat):Int):=by omega
   rw [e2]
   cases k with
   | zero=>simp at hv;omega
   | succ k=>
    rw [Z7m n k m (v / 128) _ (by omega) ?_ (by omega) (by rw [List.length_append,List.length_singleton];omega)]
    ·conv=>rhs;unfold Zc6
     rw [if_neg hc,List.append_assoc,List.singleton_append]
    ·have e3:2 ^ (7*(k+1+1))=2 ^ (7*(k+1))*128:=by rw [show 7*(k+1+1)=7*(k+1)+7 by omega,Nat.pow_add]
     rw [e3] at hv
     exact Nat.div_lt_of_lt_mul (by rw [Nat.mul_comm];exact hv)
theorem Za9 (b:List Int) (v:Nat) (hv:v<9223372036854775808) (hl:b.length≤1000000000):Qt4 b (v:Int)=some ((b++enc v,()),()):=by
 show Qrd (Qnu 1099511627776 1099511627776) b v=_
 unfold Qrd
 rw [cbp (by omega),List.nil_append]
 exact Z7m _ 9 _ v b (by omega) (Nat.lt_of_lt_of_le hv (by decide)) hv (by omega)
theorem Zid (b:List Int) (s:ByteArray) (hs:s.size≤1000000) (hl:b.length≤1000000):Qry b s=some ((b++(enc s.size++Qvz s),()),()):=by
 unfold Qry
 rw [Za9 b s.size (by omega) (by omega)]
 simp only [Option.bind_some]
 have:=Qvj s.size
 have h2:=Qrp s
 rw [cbp (by
  show (b++enc s.size).length+(Qvz s).length≤_
  rw [List.length_append];omega),List.append_assoc]
 rfl
def Zqt (r:Option (Nat × Nat)):(Int × Int × IV × Unit) × Unit:=
 match r with
 | some (v,n)=>(((v:Int),(n:Int),IV.nil,()),())
 | none=>((0,0,IV.mk 216 [],()),())
theorem Zup {i:Nat} (h:i≤5):128 ^ i≤34359738368:=by
 have:=Nat.pow_le_pow_right (n:=128) (by decide) h
 exact Nat.le_trans this (by decide)
theorem Zag (n:Nat) (b:List Int) (hb:Qk9 b) (hl:b.length≤4611686018427387904):∀ (k m i v:Nat),k+i=5→k<m→v<128 ^ i →
  Z3j n m b (v:Int) (i:Int)=some (Zqt (Znc k i v (128 ^ i) (b.drop i)))
 | k,0,i,v,_,h,_=>by omega
 | k,m+1,i,v,hk,h,hv=>by
  show Z2w (Z3j n m) b (v:Int) (i:Int)=_
  unfold Z2w
  by_cases h1:i<b.length
  ·rw [cdp (by omega)]
   by_cases h2:i<5
   ·obtain ⟨k,rfl⟩:∃ k',k=k'+1:=⟨k - 1,by omega⟩
    rw [cdp (by omega),Z9t,cdp (by omega),cdp (by omega),Qsk (x:=7*(i:Int)) (by omega) (by omega),cdp (by omega)]
    have hd:=Zm2 h1
    obtain ⟨x0,x1⟩:=Zhz hb h1
    rw [hd]
    have ei:(i:Int).toNat=i:=rfl
    rw [ei]
    generalize hx:List.getD b i 0=x at *
    rw [Zt3 x x0 x1,Qsk (x:=x % 128) (by omega) (by omega),Qsk (x:=(i:Int)+1) (by omega) (by omega)]
    have hp:(128:Nat) ^ i=2 ^ (7*i):=by rw [Nat.pow_mul]
    have hp4:(128:Nat) ^ i≤268435456:=by
     have:=Nat.pow_le_pow_right (n:=128) (by decide) (show i≤4 by omega)
     exact Nat.le_trans this (by decide)
    have e7:(7*(i:Int)).toNat=7*i:=by omega
    have ex:x % 128=((x.toNat % 128:Nat):Int):=by omega
    have hmul:x.toNat % 128*2 ^ (7*i)≤127*268435456:=by
     rw [← hp];exact Nat.mul_le_mul (by omega) hp4
    rw [e7,ex,Zs1 v (x.toNat % 128) (7*i) (by rw [← hp];exact hv) (by omega) (by omega),← hp]
    have hmul':x.toNat % 128*128 ^ i≤127*268435456:=by rw [hp];exact hmul
    generalize hw:v+x.toNat % 128*128 ^ i=w at *
    by_cases h3:128≤x
    ·rw [cdp (by omega)]
     have e8:(i:Int)+1=((i+1:Nat):Int):=by omega
     rw [e8,Zag n b hb hl k m (i+1) w (by omega) (by omega) ?_]
     ·conv=>rhs;unfold Znc
      rw [if_pos h3,hw,Nat.pow_succ]
     ·rw [Nat.pow_succ,← hw]
      have:(x.toNat % 128+1)*128 ^ i≤128*128 ^ i:=Nat.mul_le_mul_right _ (by omega)
      rw [Nat.succ_mul] at this
      omega
    ·have exm:x.toNat % 128=x.toNat:=by omega
     rw [exm] at hw
     rw [cdn (by omega)]
     conv=>rhs;unfold Znc
     rw [if_neg h3,hw]
     have e8:(i:Int)+1=((i+1:Nat):Int):=by omega
     by_cases h4:0<i
     ·rw [cdp (by omega)]
      by_cases h5:x=0
      ·rw [Zdw h5,if_pos (.inl ⟨h4,h5⟩)];rfl
      ·rw [Zdd h5]
       by_cases h6:1073741824<w
       ·rw [cdp (by omega),if_pos (.inr h6)];rfl
       ·rw [cdn (by omega),if_neg (by omega),e8];rfl
     ·rw [cdn (by omega)]
      by_cases h6:1073741824<w
      ·rw [cdp (by omega),if_pos (.inr h6)];rfl
      ·rw [cdn (by omega),if_neg (by omega),e8];rfl
   ·rw [cdn (by omega)]
    obtain rfl:k=0:=by omega
    rfl
  ·rw [cdn (by omega),List.drop_eq_nil_of_le (by omega)]
   cases k<;>rfl
def Zs3 (r:Option (Nat × Nat)):Int × Int × Bool × Unit:=
 match r with
 | some (v,n)=>((v:Int),(n:Int),true,())
 | none=>(0,0,false,())
theorem Zmw:Zs3 none=(0,0,false,()):=rfl
theorem Zlm (v n:Nat):Zs3 (some (v,n))=((v:Int),(n:Int),true,()):=rfl
theorem Zc9 (b:List Int) (hb:Qk9 b) (hl:b.length≤4611686018427387904):Z8k b=some (Zs3 (dec b),()):=by
 unfold Z8k
 have h:Zhm b=some (Zqt (dec b)):=Zag 1099511627776 b hb hl 5 1099511627776 0 0 rfl (by omega) (by decide)
 rw [h]
 cases dec b with
 | none=>rfl
 | some p=>rfl
theorem Z6k (n:Nat) (b:List Int) (hb:Qk9 b) (hl:b.length≤4611686018427387904):∀ (k m i v:Nat),k+i=5→k<m→v<128 ^ i →
  Qpw n m b (v:Int) ((128 ^ i:Nat):Int) (i:Int)=some (Zs3 (Znc k i v (128 ^ i) (b.drop i)),())
 | k,0,i,v,_,h,_=>by omega
 | k,m+1,i,v,hk,h,hv=>by
  show Qq0 (Qpw n m) b (v:Int) ((128 ^ i:Nat):Int) (i:Int)=_
  unfold Qq0
  by_cases h1:i<b.length
  ·rw [cdp (by omega)]
   by_cases h2:i<5
   ·obtain ⟨k,rfl⟩:∃ k',k=k'+1:=⟨k - 1,by omega⟩
    simp only [Z9t]
    rw [cdp (by omega),cdp (by omega),cdp (by omega),cdp (by omega),cdp (by omega)]
    have hd:=Zm2 h1
    obtain ⟨x0,x1⟩:=Zhz hb h1
    rw [hd]
    have ei:(i:Int).toNat=i:=rfl
    rw [ei]
    generalize hx:List.getD b i 0=x at *
    have hp4:(128:Nat) ^ i≤268435456:=by
     have:=Nat.pow_le_pow_right (n:=128) (by decide) (show i≤4 by omega)
     exact Nat.le_trans this (by decide)
    have ex:Int.tmod x 128=((x.toNat % 128:Nat):Int):=by rw [Int.tmod_eq_emod_of_nonneg (by omega)];omega
    have hmul:x.toNat % 128*128 ^ i≤127*268435456:=Nat.mul_le_mul (by omega) hp4
    have em:((x.toNat % 128:Nat):Int)*((128 ^ i:Nat):Int)=((x.toNat % 128*128 ^ i:Nat):Int):=(Int.natCast_mul _ _).symm
    rw [ex,Qsk (x:=((x.toNat % 128:Nat):Int)) (by omega) (by omega),em,Qsk (x:=((x.toNat % 128*128 ^ i:Nat):Int)) (by omega) (by omega)]
    have ew:(v:Int)+((x.toNat % 128*128 ^ i:Nat):Int)=((v+x.toNat % 128*128 ^ i:Nat):Int):=by omega
    rw [ew]
    generalize hw:v+x.toNat % 128*128 ^ i=w at *
    rw [Qsk (x:=(w:Int)) (by omega) (by omega),Qsk (x:=(i:Int)+1) (by omega) (by omega)]
    have e8:(i:Int)+1=((i+1:Nat):Int):=by omega
    by_cases h3:128≤x
    ·rw [cdn (by omega)]
     have e9:IntKind.wrap .i64 (((128 ^ i:Nat):Int)*128)=((128 ^ (i+1):Nat):Int):=by
      rw [Qsk (by omega) (by omega),Nat.pow_succ,Int.natCast_mul];rfl
     rw [e8,e9,Z6k n b hb hl k m (i+1) w (by omega) (by omega) ?_]
     ·conv=>rhs;unfold Znc
      rw [if_pos h3,hw,Nat.pow_succ]
     ·rw [Nat.pow_succ,← hw]
      have:(x.toNat % 128+1)*128 ^ i≤128*128 ^ i:=Nat.mul_le_mul_right _ (by omega)
      rw [Nat.succ_mul] at this
      omega
    ·have exm:x.toNat % 128=x.toNat:=by omega
     rw [exm] at hw
     rw [cdp (by omega)]
     conv=>rhs;unfold Znc
     rw [if_neg h3,hw]
     by_cases h4:0<i
     ·rw [cdp (by omega),cdp (by omega),cdp (by omega)]
      by_cases h5:x=0
      ·rw [Zdw h5,if_pos (.inl ⟨h4,h5⟩)];rfl
      ·rw [Zdd h5]
       by_cases h6:1073741824<w
       ·rw [cdp (by omega),if_pos (.inr h6)];rfl
       ·rw [cdn (by omega),if_neg (by omega),e8];rfl
     ·rw [cdn (by omega)]
      by_cases h6:1073741824<w
      ·rw [cdp (by omega),if_pos (.inr h6)];rfl
      ·rw [cdn (by omega),if_neg (by omega),e8];rfl
   ·rw [cdn (by omega)]
    obtain rfl:k=0:=by omega
    rfl
  ·rw [cdn (by omega),List.drop_eq_nil_of_le (by omega)]
   cases k<;>rfl
theorem Z82 (b:List Int) (hb:Qk9 b) (hl:b.length≤4611686018427387904):Qs7 b=some (Zs3 (dec b),()):=
 Z6k 1099511627776 b hb hl 5 1099511627776 0 0 rfl (by omega) (by decide)
theorem Znx:∀ (k i v b:Nat) (l:List Int) (w n:Nat),Qk9 l→Znc k i v b l=some (w,n)→i<n∧n≤i+k∧n≤i+l.length∧w≤1073741824∧v≤w
 | 0,i,v,b,l,w,n,hl,h=>by cases h
 | k+1,i,v,b,[],w,n,hl,h=>by cases h
 | k+1,i,v,b,x::r,w,n,hl,h=>by
  have hx:=hl x (List.mem_cons_self ..)
  unfold Znc at h
  split at h
  ·have:=Znx k (i+1) _ _ r w n (fun y hy=>hl y (List.mem_cons_of_mem _ hy)) h
   simp only [List.length_cons]
   have h0:0≤x.toNat % 128*b:=Nat.zero_le _
   omega
  ·split at h
   ·cases h
   ·rename_i hn
    simp only [Option.some.injEq,Prod.mk.injEq] at h
    obtain ⟨rfl,rfl⟩:=h
    simp only [List.length_cons]
    have h0:0≤x.toNat*b:=Nat.zero_le _
    omega
theorem Zjt {l:List Int} {w n:Nat} (hl:Qk9 l) (h:dec l=some (w,n)):0<n∧n≤5∧n≤l.length∧w≤1073741824:=by
 have:=Znx 5 0 0 1 l w n hl h;omega
theorem Zot:∀ (k i v b:Nat) (l:List Int) (w n:Nat),0<b→Qk9 l→Znc k i v b l=some (w,n) →
  ∃ u,w=v+u*b∧(0<i→0<u)∧l.take (n - i)=Zc6 k u∧(∀ j,k≤j→Zc6 j u=Zc6 k u)
 | 0,i,v,b,l,w,n,hb,hl,h=>by cases h
 | k+1,i,v,b,[],w,n,hb,hl,h=>by cases h
 | k+1,i,v,b,x::r,w,n,hb,hl,h=>by
  have hx:=hl x (List.mem_cons_self ..)
  have hr:Qk9 r:=fun y hy=>hl y (List.mem_cons_of_mem _ hy)
  unfold Znc at h
  split at h
  ·rename_i h1
   obtain ⟨u,hu,hp,ht,hj⟩:=Zot k (i+1) _ _ r w n (by omega) hr h
   have hn:=Znx k (i+1) _ _ r w n hr h
   have hu0:=hp (by omega)
   refine ⟨x.toNat % 128+128*u,?_,fun _=>by omega,?_,fun j hj'=>?_⟩
   ·rw [hu,Nat.add_mul,Nat.add_assoc]
    congr 2
    rw [Nat.mul_comm b 128,← Nat.mul_assoc,Nat.mul_comm u 128]
   ·rw [show n - i=n - (i+1)+1 by omega,List.take_succ_cons,ht]
    rw [Z1b,if_neg (by omega)]
    have e1:(x.toNat % 128+128*u) / 128=u:=by omega
    have e2:(((x.toNat % 128+128*u) % 128+128:Nat):Int)=x:=by omega
    rw [e1,e2]
   ·obtain ⟨j,rfl⟩:∃ j',j=j'+1:=⟨j - 1,by omega⟩
    have e1:(x.toNat % 128+128*u) / 128=u:=by omega
    rw [Z1b,Z1b,if_neg (by omega),if_neg (by omega),e1,hj j (by omega)]
  ·rename_i h1
   split at h
   ·cases h
   ·rename_i h2
    simp only [Option.some.injEq,Prod.mk.injEq] at h
    obtain ⟨rfl,rfl⟩:=h
    refine ⟨x.toNat,rfl,fun hi=>by omega,?_,fun j hj'=>?_⟩
    ·rw [show i+1 - i=0+1 by omega,List.take_succ_cons,Z1b,if_pos (by omega)]
     have:((x.toNat:Nat):Int)=x:=by omega
     rw [this];rfl
    ·obtain ⟨j,rfl⟩:∃ j',j=j'+1:=⟨j - 1,by omega⟩
     rw [Z1b,Z1b,if_pos (by omega),if_pos (by omega)]
theorem Zry {l:List Int} {w n:Nat} (hl:Qk9 l) (h:dec l=some (w,n)):l.take n=enc w:=by
 obtain ⟨u,hu,_,ht,hj⟩:=Zot 5 0 0 1 l w n (by decide) hl h
 have:u=w:=by omega
 subst this
 rw [show n - 0=n by omega] at ht
 rw [ht,enc,hj 10 (by decide)]
theorem Zp2:∀ (k j i v b u:Nat) (r:List Int),k+i=5→k≤j→u<128 ^ k→0<b→(0<i→0<u)→v+u*b≤1073741824→Znc k i v b (Zc6 j u++r)=some (v+u*b,i+(Zc6 j u).length)
 | 0,j,i,v,b,u,r,h5,hj,hu,hb,hi,hw=>by
  have:u=0:=by simpa using hu
  have:=hi (by omega)
  omega
 | k+1,j,i,v,b,u,r,h5,hj,hu,hb,hi,hw=>by
  obtain ⟨j,rfl⟩:∃ j',j=j'+1:=⟨j - 1,by omega⟩
  unfold Zc6
  by_cases h1:u<128
  ·rw [if_pos h1,List.singleton_append]
   unfold Znc
   have e:((u:Nat):Int).toNat=u:=rfl
   rw [if_neg (by omega),e,if_neg (by omega)]
   rfl
  ·rw [if_neg h1,List.cons_append]
   unfold Znc
   have e:(((u % 128+128:Nat):Int).toNat) % 128=u % 128:=by omega
   rw [if_pos (by omega),e]
   have e2:v+u % 128*b+u / 128*(b*128)=v+u*b:=by
    have:u*b=(u % 128+128*(u / 128))*b:=by rw [Nat.mod_add_div]
    rw [this,Nat.add_mul,Nat.add_assoc]
    congr 2
    rw [Nat.mul_comm b 128,← Nat.mul_assoc,Nat.mul_comm (u / 128) 128]
   rw [Zp2 k j (i+1) _ (b*128) (u / 128) r (by omega) (by omega) (by rw [Nat.pow_succ] at hu;exact Nat.div_lt_of_lt_mul (by rw [Nat.mul_comm];exact hu)) (by omega) (fun _=>by omega) (by rw [e2];exact hw),e2]
   simp only [List.length_cons]
   rw [show i+1+(Zc6 j (u / 128)).length=i+((Zc6 j (u / 128)).length+1) by omega]
theorem Zoc (u:Nat) (r:List Int) (h:u≤1073741824):dec (enc u++r)=some (u,(enc u).length):=by
 have:=Zp2 5 10 0 0 1 u r rfl (by decide) (Nat.lt_of_le_of_lt h (by decide)) (by decide) (by omega) (by omega)
 rw [show 0+u*1=u by omega,show 0+(Zc6 10 u).length=(Zc6 10 u).length by omega] at this
 exact this
theorem Zp1:∀ (k j i v b u:Nat) (r:List Int),(∃ q,q≠[]∧r++q=Zc6 j u)→Znc k i v b r=none
 | 0,j,i,v,b,u,r,h=>rfl
 | k+1,j,i,v,b,u,[],h=>rfl
 | k+1,0,i,v,b,u,x::r,⟨q,hq,e⟩=>by cases e
 | k+1,j+1,i,v,b,u,x::r,⟨q,hq,e⟩=>by
  rw [Z1b] at e
  split at e
  ·rw [List.cons_append] at e
   have:=(List.cons.inj e).2
   exact absurd (List.append_eq_nil_iff.1 this).2 hq
  ·rw [List.cons_append] at e
   obtain ⟨e1,e2⟩:=List.cons.inj e
   unfold Znc
   rw [if_pos (by omega)]
   exact Zp1 k j _ _ _ (u / 128) r ⟨q,hq,e2⟩
theorem Zs8 (u n:Nat) (h:n<(enc u).length):dec ((enc u).take n)=none:=
 Zp1 5 10 0 0 1 u _ ⟨(enc u).drop n,by rw [Ne,List.drop_eq_nil_iff];omega,List.take_append_drop n _⟩
def Zpl (l:List Int):Option (List Int × Nat):=
 match dec l with
 | some (v,n)=>if v≤l.length - n then some ((l.drop n).take v,n+v) else none
 | none=>none
def Zpo (r:Option (List Int × Nat)):ByteArray × Int × Bool × Unit:=
 match r with
 | some (t,n)=>(Q5g t,(n:Int),true,())
 | none=>(⟨#[]⟩,0,false,())
theorem Zk7:Zpo none=(⟨#[]⟩,0,false,()):=rfl
theorem Zju (t:List Int) (n:Nat):Zpo (some (t,n))=(Q5g t,(n:Int),true,()):=rfl
theorem Zim (b:List Int) (hb:Qk9 b) (hl:b.length≤4611686018427387904) {T:Option ((Int × Int × Bool × Unit) × Unit)} (hT:T=some (Zs3 (dec b),())) :
  (Option.bind T fun (r1:(Int × Int × Bool × Unit) × Unit)=>
 bif !r1.1.2.2.1 then
 some (((⟨#[]⟩:ByteArray),(0:Int),false,()),())
 else
 bif decide (r1.1.1>IntKind.wrap .i64 ((b.length:Int) - r1.1.2.1)) then
 some (((⟨#[]⟩:ByteArray),(0:Int),false,()),())
 else
 bif (decide (0≤r1.1.2.1)&&decide (r1.1.2.1≤IntKind.wrap .i64 (r1.1.2.1+r1.1.1)))&&decide (IntKind.wrap .i64 (r1.1.2.1+r1.1.1)≤(b.length:Int)) then
 some ((Q5g (List.drop r1.1.2.1.toNat (List.take ((IntKind.wrap .i64 (r1.1.2.1+r1.1.1)).toNat) b)),IntKind.wrap .i64 (r1.1.2.1+r1.1.1),true,()),())
 else none)=some (Zpo (Zpl b),()):=by
 subst hT
 unfold Zpl
 cases hd:dec b with
 | none=>rfl
 | some p=>
  obtain ⟨v,n⟩:=p
  obtain ⟨h0,h1,h2,h3⟩:=Zjt hb hd
  simp only [Option.bind_some,Zs3,Bool.not_true,cond_false]
  rw [Qsk (x:=(b.length:Int) - (n:Int)) (by omega) (by omega),Qsk (x:=(n:Int)+(v:Int)) (by omega) (by omega)]
  by_cases hc:v≤b.length - n
  ·rw [cdn (by omega)]
   simp only [Z9t]
   rw [cdp (by omega),cdp (by omega),cdp (by omega),if_pos hc]
   have e1:((n:Int)+(v:Int)).toNat=n+v:=by omega
   have e2:(n:Int).toNat=n:=rfl
   rw [e1,e2]
   have e3:List.drop n (List.take (n+v) b)=List.take v (List.drop n b):=by
    rw [List.take_drop]
   rw [e3]
   simp only [Zpo]
   have e4:(n:Int)+(v:Int)=((n+v:Nat):Int):=by omega
   rw [e4]
  ·rw [cdp (by omega),if_neg hc];rfl
theorem Ze8 (b:List Int) (hb:Qk9 b) (hl:b.length≤4611686018427387904):Z63 b=some (Zpo (Zpl b),()):=
 Zim b hb hl (Zc9 b hb hl)
theorem Zg7 (b:List Int) (hb:Qk9 b) (hl:b.length≤4611686018427387904):Qu6 b=some (Zpo (Zpl b),()):=
 Zim b hb hl (Z82 b hb hl)
def Zc8 (t:List Int):List Int:=enc t.length++t
theorem Zrr (t r:List Int) (h:t.length≤1073741824):Zpl (Zc8 t++r)=some (t,(Zc8 t).length):=by
 unfold Zpl Zc8
 rw [List.append_assoc,Zoc _ _ h]
 simp only [List.length_append]
 rw [if_pos (by omega),List.drop_left,List.take_left]
theorem Zte (t:List Int) (n:Nat) (ht:Qk9 t) (hl:t.length≤1073741824) (h:n<(Zc8 t).length):Zpl ((Zc8 t).take n)=none:=by
 unfold Zpl Zc8
 by_cases hn:n<(enc t.length).length
 ·rw [List.take_append_of_le_length (by omega),Zs8 _ _ hn]
 ·have e:(enc t.length++t).take n=enc t.length++t.take (n - (enc t.length).length):=by
   rw [List.take_append,List.take_of_length_le (by omega)]
  rw [e,Zoc _ _ hl]
  simp only [List.length_append,List.length_take]
  unfold Zc8 at h
  rw [List.length_append] at h
  rw [if_neg (by omega)]
theorem Zr1 {l t:List Int} {n:Nat} (hl:Qk9 l) (h:Zpl l=some (t,n)):0<n∧n≤l.length∧t.length≤1073741824∧Qk9 t∧l.take n=Zc8 t:=by
 unfold Zpl at h
 cases hd:dec l with
 | none=>rw [hd] at h;cases h
 | some p=>
  obtain ⟨v,m⟩:=p
  rw [hd] at h
  simp only at h
  obtain ⟨h0,h1,h2,h3⟩:=Zjt hl hd
  split at h
  ·rename_i hc
   simp only [Option.some.injEq,Prod.mk.injEq] at h
   obtain ⟨rfl,rfl⟩:=h
   have hlen:((l.drop m).take v).length=v:=by rw [List.length_take,List.length_drop];omega
   refine ⟨by omega,by omega,by omega,Z84 (Qvd hl m) v,?_⟩
   unfold Zc8
   rw [hlen,← Zry hl hd,List.take_add]
  ·cases h
end Go.PE
