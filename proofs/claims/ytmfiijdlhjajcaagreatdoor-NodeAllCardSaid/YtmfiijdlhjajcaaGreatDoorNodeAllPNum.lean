/-
  Plain lemmas on the functions.
  Conditions: none.
-/
import Derived.Test.YtmfiijdlhjajcaaGreatDoorNodeAllF2
set_option linter.unusedVariables false
set_option linter.unusedSimpArgs false
set_option maxRecDepth 20000
namespace Go.PE
theorem cdp {α:Type} {p:Prop} {i:Decidable p} {a b:α} (h:p):(bif decide p then a else b)=a:=by rw [decide_eq_true h];rfl
theorem cdn {α:Type} {p:Prop} {i:Decidable p} {a b:α} (h:¬ p):(bif decide p then a else b)=b:=by rw [decide_eq_false h];rfl
theorem cbp {α:Type} {m n:Nat} {a b:α} (h:m≤n):(bif Nat.ble m n then a else b)=a:=by rw [Nat.ble_eq_true_of_le h];rfl
theorem nt:(!true)=false:=rfl
theorem nf:(!false)=true:=rfl
theorem Zb1 {α:Type} {p q:Bool} {a b:α}:(bif p&&q then a else b)=bif p then bif q then a else b else b:=by cases p<;>rfl
theorem X0g {α:Type} {p:Bool} {a b:α}:(bif !p then a else b)=bif p then b else a:=by cases p<;>rfl
theorem Z65 {α:Type} {x y:Int} {a b:α} (h:x=y):(bif x==y then a else b)=a:=by rw [h,beq_self_eq_true];rfl
theorem Z3n {α:Type} {x y:Int} {a b:α} (h:x≠y):(bif x==y then a else b)=b:=by rw [beq_eq_false_iff_ne.2 h];rfl
theorem Ztu {α:Type} {x y:Int} {a b:α} (h:x≠y):(bif x != y then a else b)=a:=by rw [bne_iff_ne.2 h];rfl
theorem Zqu {α:Type} {x y:Int} {a b:α} (h:x=y):(bif x != y then a else b)=b:=by rw [h];simp
theorem Qor {x:Int} (h1:-9223372036854775808≤x) (h2:x≤9223372036854775807):wJ x=x:=by
 rw [wJ,IntKind.wrap_i64];omega
theorem X1h {x:Int} (h1:0≤x) (h2:x<18446744073709551616):IntKind.wrap .u64 x=x:=by
 simp [IntKind.wrap,IntKind.signed,IntKind.bits];omega
theorem X0r {x:Int} (h1:0≤x) (h2:x<4294967296):IntKind.wrap .u32 x=x:=by
 simp [IntKind.wrap,IntKind.signed,IntKind.bits];omega
theorem wu8 {x:Int} (h1:0≤x) (h2:x<256):IntKind.wrap .u8 x=x:=by
 simp [IntKind.wrap,IntKind.signed,IntKind.bits];omega
theorem Zyg (x:Int):IntKind.wrap .u8 x=x % 256:=by
 simp [IntKind.wrap,IntKind.signed,IntKind.bits]
theorem Zyy {x:Int}:(Lit.int .u8 x).wf=true↔0≤x∧x<256:=by
 simp [Lit.wf,IntKind.has,IntKind.min,IntKind.max,IntKind.signed,IntKind.bits];omega
theorem X1d (u:Int) (h:0≤u):IntKind.wrap .u8 ((BitVec.ofInt 8 (IntKind.wrap .u8 u) ||| BitVec.ofInt 8 128).toNat)=u % 128+128:=by
 have key:∀ a:BitVec 8,(a ||| 128#8).toNat=a.toNat % 128+128:=by decide
 have e:BitVec.ofInt 8 128=128#8:=by decide
 rw [Zyg u,e,key,BitVec.toNat_ofInt]
 rw [wu8 (by omega) (by omega)]
 omega
theorem X0x (x:Int) (h:0≤x) (h2:x<256):IntKind.wrap .u8 ((BitVec.ofInt 8 x &&& BitVec.ofInt 8 127).toNat)=x % 128:=by
 have key:∀ a:BitVec 8,(a &&& 127#8).toNat=a.toNat % 128:=by decide
 have e:BitVec.ofInt 8 127=127#8:=by decide
 rw [e,key,BitVec.toNat_ofInt]
 rw [wu8 (by omega) (by omega)]
 omega
theorem X06 (v x i:Nat) (hv:v<2 ^ i) (hx:x*2 ^ i<9223372036854775808) (hi:i<63):wJ ((BitVec.ofInt 64 (v:Int) ||| BitVec.ofInt 64 (wJ ((x:Int)*2 ^ (min i 64)))).toNat)=((v+x*2 ^ i:Nat):Int):=by
 have hm:min i 64=i:=by omega
 have hp:(2:Nat) ^ i≤2 ^ 62:=Nat.pow_le_pow_right (by decide) (by omega)
 have b:(2:Nat) ^ 62=4611686018427387904:=by decide
 have e1:((x:Int)*2 ^ i)=((x*2 ^ i:Nat):Int):=by rw [Int.natCast_mul,Int.natCast_pow];rfl
 have hw:wJ ((x*2 ^ i:Nat):Int)=((x*2 ^ i:Nat):Int):=Qor (by omega) (by omega)
 rw [hm,e1,hw,BitVec.toNat_or,BitVec.toNat_ofInt,BitVec.toNat_ofInt]
 have e2:(((v:Nat):Int) % ((2 ^ 64:Nat):Int)).toNat=v:=by
  have:((2 ^ 64:Nat):Int)=18446744073709551616:=by decide
  omega
 have e3:(((x*2 ^ i:Nat):Int) % ((2 ^ 64:Nat):Int)).toNat=x*2 ^ i:=by
  have:((2 ^ 64:Nat):Int)=18446744073709551616:=by decide
  omega
 rw [e2,e3,← Nat.shiftLeft_eq,Nat.or_comm,← Nat.shiftLeft_add_eq_or_of_lt hv,Nat.shiftLeft_eq,Nat.add_comm]
 by_cases a:x=0
 ·subst a;rw [Qor (by omega) (by omega)]
 ·have c:2 ^ i≤x*2 ^ i:=Nat.le_mul_of_pos_left _ (by omega)
  have h4:((v+x*2 ^ i:Nat):Int)=(v:Int)+((x*2 ^ i:Nat):Int):=by omega
  have hb:v+x*2 ^ i<9223372036854775808:=by
   have h5:x*2 ^ i+2 ^ i≤9223372036854775808:=by
    have e6:(9223372036854775808:Nat)=2 ^ (63 - i)*2 ^ i:=by rw [← Nat.pow_add,show 63 - i+i=63 by omega]
    rw [e6] at hx ⊢
    have h7:=Nat.lt_of_mul_lt_mul_right hx
    have:=Nat.mul_le_mul_right (2 ^ i) (Nat.succ_le_of_lt h7)
    rwa [Nat.succ_mul] at this
   omega
  rw [Qor (by omega) (by omega)]
theorem Ziv {a b:ByteArray}:Qek a b=true↔a=b:=by
 unfold Qek
 constructor
 ·intro h
  have:=eq_of_beq h
  obtain ⟨⟨x⟩⟩:=a
  obtain ⟨⟨y⟩⟩:=b
  have:x=y:=this
  rw [this]
 ·intro h;rw [h];exact beq_self_eq_true _
theorem Zkv (a:ByteArray):Qek a a=true:=Ziv.2 rfl
def Qzn (s:ByteArray):List Int:=s.data.toList.map fun b=>(b.toNat:Int)
theorem Qu6 (s:ByteArray):(Qzn s).length=s.size:=by simp [Qzn]
def Qkf (l:List Int):Prop:=∀ x∈l,0≤x∧x<256
theorem Zb2 (s:ByteArray):Qkf (Qzn s):=by
 intro x hx
 obtain ⟨b,_,rfl⟩:=List.mem_map.1 hx
 have:=b.toNat_lt
 omega
theorem Zrn (s:ByteArray):Q58 (Qzn s)=s:=by
 unfold Q58 Qzn
 rw [List.map_map]
 have:((fun n:Int=>UInt8.ofNat n.toNat) ∘ fun b:UInt8=>(b.toNat:Int))=id:=by funext b;simp
 rw [this,List.map_id]
theorem Zik {l:List Int} (h:Qkf l):Qzn (Q58 l)=l:=by
 unfold Q58 Qzn
 rw [List.map_map]
 conv=>rhs;rw [← List.map_id l]
 apply List.map_congr_left
 intro x hx
 have:=h x hx
 simp only [Function.comp,id,UInt8.toNat_ofNat']
 omega
theorem Zuy {a b:List Int} (ha:Qkf a) (hb:Qkf b) (h:Q58 a=Q58 b):a=b:=by
 rw [← Zik ha,← Zik hb,h]
theorem Qr1 {a b:List Int}:Qkf (a++b)↔Qkf a∧Qkf b:=by
 unfold Qkf
 constructor
 ·intro h;exact ⟨fun x hx=>h x (List.mem_append_left _ hx),fun x hx=>h x (List.mem_append_right _ hx)⟩
 ·rintro ⟨h1,h2⟩ x hx;exact (List.mem_append.1 hx).elim (h1 x) (h2 x)
theorem Zee {l:List Int} (h:Qkf l) (n:Nat):Qkf (l.take n):=fun x hx=>h x (List.mem_of_mem_take hx)
theorem Qyx {l:List Int} (h:Qkf l) (n:Nat):Qkf (l.drop n):=fun x hx=>h x (List.mem_of_mem_drop hx)
theorem Zs9 {l:List Int} {i:Nat} (h:i<l.length):l.drop i=List.getD l i 0::l.drop (i+1):=by
 rw [List.getD_eq_getElem?_getD,List.getElem?_eq_getElem h,Option.getD_some,List.drop_eq_getElem_cons h]
theorem Zoj {l:List Int} (h:Qkf l) {i:Nat} (hi:i<l.length):0≤List.getD l i 0∧List.getD l i 0<256:=by
 rw [List.getD_eq_getElem?_getD,List.getElem?_eq_getElem hi,Option.getD_some]
 exact h _ (List.getElem_mem hi)
def Zls:Nat→Nat→List Int
 | 0,_=>[]
 | k+1,v=>if v<128 then [(v:Int)] else ((v % 128+128:Nat):Int)::Zls k (v / 128)
theorem Za4 (k v:Nat):Zls (k+1) v=if v<128 then [(v:Int)] else ((v % 128+128:Nat):Int)::Zls k (v / 128):=rfl
def enc (v:Nat):List Int:=Zls 10 v
def Zue:Nat→Nat→Nat→Nat→List Int→Option (Nat × Nat)
 | 0,_,_,_,_=>none
 | _+1,_,_,_,[]=>none
 | k+1,i,v,b,x::r=>
  if 128≤x then Zue k (i+1) (v+(x.toNat % 128)*b) (b*128) r
  else if (0<i∧x=0)∨1073741824<v+x.toNat*b then none else some (v+x.toNat*b,i+1)
def dec (l:List Int):Option (Nat × Nat):=Zue 5 0 0 1 l
theorem Zn3:∀ (k v:Nat),(Zls k v).length≤k
 | 0,_=>by simp [Zls]
 | k+1,v=>by
  unfold Zls
  split
  ·simp
  ·simp only [List.length_cons];have:=Zn3 k (v / 128);omega
theorem Zqe:∀ (k v:Nat),Qkf (Zls k v)
 | 0,_=>by intro x hx;simp [Zls] at hx
 | k+1,v=>by
  unfold Zls
  split
  ·intro x hx;simp at hx;omega
  ·intro x hx
   rcases List.mem_cons.1 hx with rfl | hx
   ·omega
   ·exact Zqe k _ x hx
theorem Zhw (v:Nat):Qkf (enc v):=Zqe _ _
theorem Qz6 (v:Nat):(enc v).length≤10:=Zn3 _ _
theorem Zj3 (n:Nat):∀ (k m v:Nat) (xs:List Int),k<m→v<2 ^ (7*(k+1))→xs.length+(k+1)≤1073741824 →
  Z6u n m (v:Int) xs=some ((xs++Zls (k+1) v,()),())
 | k,0,v,xs,h,_,_=>by omega
 | k,m+1,v,xs,h,hv,hl=>by
  show Zbd (Z6u n m) (v:Int) xs=_
  unfold Zbd
  by_cases hc:v<128
  ·rw [cdn (by omega),cbp (by omega),wu8 (by omega) (by omega)]
   unfold Zls;rw [if_pos hc]
  ·rw [cdp (by omega),cbp (by omega),X1d _ (by omega)]
   have e1:Int.fdiv (v:Int) (2 ^ 7)=((v / 128:Nat):Int):=by
    rw [Int.fdiv_eq_ediv_of_nonneg _ (by decide)];rfl
   have e2:(v:Int) % 128+128=((v % 128+128:Nat):Int):=by omega
   rw [e1,e2]
   cases k with
   | zero=>simp at hv;omega
   | succ k=>
    rw [Zj3 n k m (v / 128) _ (by omega) ?_ (by rw [List.length_append,List.length_singleton];omega)]
    ·conv=>rhs;unfold Zls
     rw [if_neg hc,List.append_assoc,List.singleton_append]
    ·have e3:2 ^ (7*(k+1+1))=2 ^ (7*(k+1))*128:=by rw [show 7*(k+1+1)=7*(k+1)+7 by omega,Nat.pow_add]
     rw [e3] at hv
     exact Nat.div_lt_of_lt_mul (by rw [Nat.mul_comm];exact hv)
theorem Zl9 (b:List Int) (v:Nat) (hv:v<9223372036854775808) (hl:b.length≤1000000000):Zmn b (v:Int)=some ((b++enc v,()),()):=by
 show Zex (Z6u 1099511627776 1099511627776) b v=_
 unfold Zex Qx6
 rw [cbp (by omega)]
 simp only [Option.bind_some]
 rw [X1h (by omega) (by omega)]
 exact Zj3 _ 9 _ v b (by omega) (Nat.lt_of_lt_of_le hv (by decide)) (by omega)
theorem Zlz (b:List Int) (s:ByteArray) (hs:s.size≤1000000) (hl:b.length≤1000000):Z7b b s=some ((b++(enc s.size++Qzn s),()),()):=by
 unfold Z7b
 rw [Zl9 b s.size (by omega) (by omega)]
 simp only [Option.bind_some]
 have:=Qz6 s.size
 have h2:=Qu6 s
 rw [cbp (by
  show (b++enc s.size).length+(Qzn s).length≤_
  rw [List.length_append];omega),List.append_assoc]
 rfl
theorem Zcx (n:Nat):∀ (k m v:Nat) (xs:List Int),k<m→v<2 ^ (7*(k+1))→v<9223372036854775808→xs.length+(k+1)≤1073741824 →
  Qph n m (v:Int) xs=some ((xs++Zls (k+1) v,()),())
 | k,0,v,xs,h,_,_,_=>by omega
 | k,m+1,v,xs,h,hv,a,hl=>by
  show Qsr (Qph n m) (v:Int) xs=_
  unfold Qsr
  by_cases hc:v<128
  ·rw [cdn (by omega),cbp (by omega),wu8 (by omega) (by omega)]
   unfold Zls;rw [if_pos hc]
  ·have t1:Int.tdiv (v:Int) 128=((v / 128:Nat):Int):=by rw [Int.tdiv_eq_ediv_of_nonneg (by omega)];omega
   have t2:Int.tmod (v:Int) 128=((v % 128:Nat):Int):=by rw [Int.tmod_eq_emod_of_nonneg (by omega)];omega
   rw [cdp (by omega),cbp (by omega),t1,t2,Qor (x:=((v / 128:Nat):Int)) (by omega) (by omega),Qor (by omega) (by omega),wu8 (by omega) (by omega)]
   have e2:((v % 128:Nat):Int)+128=((v % 128+128:Nat):Int):=by omega
   rw [e2]
   cases k with
   | zero=>simp at hv;omega
   | succ k=>
    rw [Zcx n k m (v / 128) _ (by omega) ?_ (by omega) (by rw [List.length_append,List.length_singleton];omega)]
    ·conv=>rhs;unfold Zls
     rw [if_neg hc,List.append_assoc,List.singleton_append]
    ·have e3:2 ^ (7*(k+1+1))=2 ^ (7*(k+1))*128:=by rw [show 7*(k+1+1)=7*(k+1)+7 by omega,Nat.pow_add]
     rw [e3] at hv
     exact Nat.div_lt_of_lt_mul (by rw [Nat.mul_comm];exact hv)
theorem Zgk (b:List Int) (v:Nat) (hv:v<9223372036854775808) (hl:b.length≤1000000000):Qw0 b (v:Int)=some ((b++enc v,()),()):=by
 show Qt9 (Qph 1099511627776 1099511627776) b v=_
 unfold Qt9
 rw [cbp (by omega),List.nil_append]
 exact Zcx _ 9 _ v b (by omega) (Nat.lt_of_lt_of_le hv (by decide)) hv (by omega)
theorem Zop (b:List Int) (s:ByteArray) (hs:s.size≤1000000) (hl:b.length≤1000000):Qun b s=some ((b++(enc s.size++Qzn s),()),()):=by
 unfold Qun
 rw [Zgk b s.size (by omega) (by omega)]
 simp only [Option.bind_some]
 have:=Qz6 s.size
 have h2:=Qu6 s
 rw [cbp (by
  show (b++enc s.size).length+(Qzn s).length≤_
  rw [List.length_append];omega),List.append_assoc]
 rfl
def Zxi (r:Option (Nat × Nat)):(Int × Int × IV × Unit) × Unit:=
 match r with
 | some (v,n)=>(((v:Int),(n:Int),IV.nil,()),())
 | none=>((0,0,IV.mk 216 [],()),())
theorem Zg9 (n:Nat) (b:List Int) (hb:Qkf b) (hl:b.length≤4611686018427387904):∀ (k m i v:Nat),k+i=5→k<m→v<128 ^ i →
  Z8d n m b (v:Int) (i:Int)=some (Zxi (Zue k i v (128 ^ i) (b.drop i)))
 | k,0,i,v,_,h,_=>by omega
 | k,m+1,i,v,hk,h,hv=>by
  show Z8m (Z8d n m) b (v:Int) (i:Int)=_
  unfold Z8m
  by_cases h1:i<b.length
  ·rw [cdp (by omega)]
   by_cases h2:i<5
   ·obtain ⟨k,rfl⟩:∃ k',k=k'+1:=⟨k - 1,by omega⟩
    rw [cdp (by omega),Zb1,cdp (by omega),cdp (by omega),Qor (x:=7*(i:Int)) (by omega) (by omega),cdp (by omega)]
    have hd:=Zs9 h1
    obtain ⟨x0,x1⟩:=Zoj hb h1
    rw [hd]
    have ei:(i:Int).toNat=i:=rfl
    rw [ei]
    generalize hx:List.getD b i 0=x at *
    rw [X0x x x0 x1,Qor (x:=x % 128) (by omega) (by omega),Qor (x:=(i:Int)+1) (by omega) (by omega)]
    have hp:(128:Nat) ^ i=2 ^ (7*i):=by rw [Nat.pow_mul]
    have e:(128:Nat) ^ i≤268435456:=by
     have:=Nat.pow_le_pow_right (n:=128) (by decide) (show i≤4 by omega)
     exact Nat.le_trans this (by decide)
    have e7:(7*(i:Int)).toNat=7*i:=by omega
    have ex:x % 128=((x.toNat % 128:Nat):Int):=by omega
    have a:x.toNat % 128*2 ^ (7*i)≤127*268435456:=by
     rw [← hp];exact Nat.mul_le_mul (by omega) e
    rw [e7,ex,X06 v (x.toNat % 128) (7*i) (by rw [← hp];exact hv) (by omega) (by omega),← hp]
    have d:x.toNat % 128*128 ^ i≤127*268435456:=by rw [hp];exact a
    generalize hw:v+x.toNat % 128*128 ^ i=w at *
    by_cases h3:128≤x
    ·rw [cdp (by omega)]
     have e8:(i:Int)+1=((i+1:Nat):Int):=by omega
     rw [e8,Zg9 n b hb hl k m (i+1) w (by omega) (by omega) ?_]
     ·conv=>rhs;unfold Zue
      rw [if_pos h3,hw,Nat.pow_succ]
     ·rw [Nat.pow_succ,← hw]
      have:(x.toNat % 128+1)*128 ^ i≤128*128 ^ i:=Nat.mul_le_mul_right _ (by omega)
      rw [Nat.succ_mul] at this
      omega
    ·have c:x.toNat % 128=x.toNat:=by omega
     rw [c] at hw
     rw [cdn (by omega)]
     conv=>rhs;unfold Zue
     rw [if_neg h3,hw]
     have e8:(i:Int)+1=((i+1:Nat):Int):=by omega
     by_cases h4:0<i
     ·rw [cdp (by omega)]
      by_cases h5:x=0
      ·rw [Z65 h5,if_pos (.inl ⟨h4,h5⟩)];rfl
      ·rw [Z3n h5]
       by_cases h6:1073741824<w
       ·rw [cdp (by omega),if_pos (.inr h6)];rfl
       ·rw [cdn (by omega),if_neg (by omega),e8];rfl
     ·rw [cdn (by omega)]
      by_cases h6:1073741824<w
      ·rw [cdp (by omega),if_pos (.inr h6)];rfl
      ·rw [cdn (by omega),if_neg (by omega),e8];rfl
   ·rw [cdn (by omega)]
    obtain rfl:k=0:=by omega
    rfl
  ·rw [cdn (by omega),List.drop_eq_nil_of_le (by omega)]
   cases k<;>rfl
def X02 (r:Option (Nat × Nat)):Int × Int × Bool × Unit:=
 match r with
 | some (v,n)=>((v:Int),(n:Int),true,())
 | none=>(0,0,false,())
theorem Zt7:X02 none=(0,0,false,()):=rfl
theorem Zsf (v n:Nat):X02 (some (v,n))=((v:Int),(n:Int),true,()):=rfl
theorem Zjn (b:List Int) (hb:Qkf b) (hl:b.length≤4611686018427387904):Zdb b=some (X02 (dec b),()):=by
 unfold Zdb
 have h:Zn1 b=some (Zxi (dec b)):=Zg9 1099511627776 b hb hl 5 1099511627776 0 0 rfl (by omega) (by decide)
 rw [h]
 cases dec b with
 | none=>rfl
 | some p=>rfl
theorem Zbw (n:Nat) (b:List Int) (hb:Qkf b) (hl:b.length≤4611686018427387904):∀ (k m i v:Nat),k+i=5→k<m→v<128 ^ i →
  Qrw n m b (v:Int) ((128 ^ i:Nat):Int) (i:Int)=some (X02 (Zue k i v (128 ^ i) (b.drop i)),())
 | k,0,i,v,_,h,_=>by omega
 | k,m+1,i,v,hk,h,hv=>by
  show Qry (Qrw n m) b (v:Int) ((128 ^ i:Nat):Int) (i:Int)=_
  unfold Qry
  by_cases h1:i<b.length
  ·rw [cdp (by omega)]
   by_cases h2:i<5
   ·obtain ⟨k,rfl⟩:∃ k',k=k'+1:=⟨k - 1,by omega⟩
    simp only [Zb1]
    rw [cdp (by omega),cdp (by omega),cdp (by omega),cdp (by omega),cdp (by omega)]
    have hd:=Zs9 h1
    obtain ⟨x0,x1⟩:=Zoj hb h1
    rw [hd]
    have ei:(i:Int).toNat=i:=rfl
    rw [ei]
    generalize hx:List.getD b i 0=x at *
    have c:(128:Nat) ^ i≤268435456:=by
     have:=Nat.pow_le_pow_right (n:=128) (by decide) (show i≤4 by omega)
     exact Nat.le_trans this (by decide)
    have ex:Int.tmod x 128=((x.toNat % 128:Nat):Int):=by rw [Int.tmod_eq_emod_of_nonneg (by omega)];omega
    have d:x.toNat % 128*128 ^ i≤127*268435456:=Nat.mul_le_mul (by omega) c
    have em:((x.toNat % 128:Nat):Int)*((128 ^ i:Nat):Int)=((x.toNat % 128*128 ^ i:Nat):Int):=(Int.natCast_mul _ _).symm
    rw [ex,Qor (x:=((x.toNat % 128:Nat):Int)) (by omega) (by omega),em,Qor (x:=((x.toNat % 128*128 ^ i:Nat):Int)) (by omega) (by omega)]
    have ew:(v:Int)+((x.toNat % 128*128 ^ i:Nat):Int)=((v+x.toNat % 128*128 ^ i:Nat):Int):=by omega
    rw [ew]
    generalize hw:v+x.toNat % 128*128 ^ i=w at *
    rw [Qor (x:=(w:Int)) (by omega) (by omega),Qor (x:=(i:Int)+1) (by omega) (by omega)]
    have e8:(i:Int)+1=((i+1:Nat):Int):=by omega
    by_cases h3:128≤x
    ·rw [cdn (by omega)]
     have e9:wJ (((128 ^ i:Nat):Int)*128)=((128 ^ (i+1):Nat):Int):=by
      rw [Qor (by omega) (by omega),Nat.pow_succ,Int.natCast_mul];rfl
     rw [e8,e9,Zbw n b hb hl k m (i+1) w (by omega) (by omega) ?_]
     ·conv=>rhs;unfold Zue
      rw [if_pos h3,hw,Nat.pow_succ]
     ·rw [Nat.pow_succ,← hw]
      have:(x.toNat % 128+1)*128 ^ i≤128*128 ^ i:=Nat.mul_le_mul_right _ (by omega)
      rw [Nat.succ_mul] at this
      omega
    ·have a:x.toNat % 128=x.toNat:=by omega
     rw [a] at hw
     rw [cdp (by omega)]
     conv=>rhs;unfold Zue
     rw [if_neg h3,hw]
     by_cases h4:0<i
     ·rw [cdp (by omega),cdp (by omega),cdp (by omega)]
      by_cases h5:x=0
      ·rw [Z65 h5,if_pos (.inl ⟨h4,h5⟩)];rfl
      ·rw [Z3n h5]
       by_cases h6:1073741824<w
       ·rw [cdp (by omega),if_pos (.inr h6)];rfl
       ·rw [cdn (by omega),if_neg (by omega),e8];rfl
     ·rw [cdn (by omega)]
      by_cases h6:1073741824<w
      ·rw [cdp (by omega),if_pos (.inr h6)];rfl
      ·rw [cdn (by omega),if_neg (by omega),e8];rfl
   ·rw [cdn (by omega)]
    obtain rfl:k=0:=by omega
    rfl
  ·rw [cdn (by omega),List.drop_eq_nil_of_le (by omega)]
   cases k<;>rfl
theorem Ze7 (b:List Int) (hb:Qkf b) (hl:b.length≤4611686018427387904):Qub b=some (X02 (dec b),()):=
 Zbw 1099511627776 b hb hl 5 1099511627776 0 0 rfl (by omega) (by decide)
theorem Zv8:∀ (k i v b:Nat) (l:List Int) (w n:Nat),Qkf l→Zue k i v b l=some (w,n)→i<n∧n≤i+k∧n≤i+l.length∧w≤1073741824∧v≤w
 | 0,i,v,b,l,w,n,hl,h=>by cases h
 | k+1,i,v,b,[],w,n,hl,h=>by cases h
 | k+1,i,v,b,x::r,w,n,hl,h=>by
  have hx:=hl x (List.mem_cons_self ..)
  unfold Zue at h
  split at h
  ·have:=Zv8 k (i+1) _ _ r w n (fun y hy=>hl y (List.mem_cons_of_mem _ hy)) h
   simp only [List.length_cons]
   have h0:0≤x.toNat % 128*b:=Nat.zero_le _
   omega
  ·split at h
   ·cases h
   ·rename_i hn
    simp only [Option.some.injEq,Prod.mk.injEq] at h
    obtain ⟨rfl,rfl⟩:=h
    simp only [List.length_cons]
    have h0:0≤x.toNat*b:=Nat.zero_le _
    omega
theorem Zqq {l:List Int} {w n:Nat} (hl:Qkf l) (h:dec l=some (w,n)):0<n∧n≤5∧n≤l.length∧w≤1073741824:=by
 have:=Zv8 5 0 0 1 l w n hl h;omega
theorem Zvi:∀ (k i v b:Nat) (l:List Int) (w n:Nat),0<b→Qkf l→Zue k i v b l=some (w,n) →
  ∃ u,w=v+u*b∧(0<i→0<u)∧l.take (n - i)=Zls k u∧(∀ j,k≤j→Zls j u=Zls k u)
 | 0,i,v,b,l,w,n,hb,hl,h=>by cases h
 | k+1,i,v,b,[],w,n,hb,hl,h=>by cases h
 | k+1,i,v,b,x::r,w,n,hb,hl,h=>by
  have hx:=hl x (List.mem_cons_self ..)
  have hr:Qkf r:=fun y hy=>hl y (List.mem_cons_of_mem _ hy)
  unfold Zue at h
  split at h
  ·rename_i h1
   obtain ⟨u,hu,hp,ht,hj⟩:=Zvi k (i+1) _ _ r w n (by omega) hr h
   have hn:=Zv8 k (i+1) _ _ r w n hr h
   have c:=hp (by omega)
   refine ⟨x.toNat % 128+128*u,?_,fun _=>by omega,?_,fun j a=>?_⟩
   ·rw [hu,Nat.add_mul,Nat.add_assoc]
    congr 2
    rw [Nat.mul_comm b 128,← Nat.mul_assoc,Nat.mul_comm u 128]
   ·rw [show n - i=n - (i+1)+1 by omega,List.take_succ_cons,ht]
    rw [Za4,if_neg (by omega)]
    have e1:(x.toNat % 128+128*u) / 128=u:=by omega
    have e2:(((x.toNat % 128+128*u) % 128+128:Nat):Int)=x:=by omega
    rw [e1,e2]
   ·obtain ⟨j,rfl⟩:∃ j',j=j'+1:=⟨j - 1,by omega⟩
    have e1:(x.toNat % 128+128*u) / 128=u:=by omega
    rw [Za4,Za4,if_neg (by omega),if_neg (by omega),e1,hj j (by omega)]
  ·rename_i h1
   split at h
   ·cases h
   ·rename_i h2
    simp only [Option.some.injEq,Prod.mk.injEq] at h
    obtain ⟨rfl,rfl⟩:=h
    refine ⟨x.toNat,rfl,fun hi=>by omega,?_,fun j a=>?_⟩
    ·rw [show i+1 - i=0+1 by omega,List.take_succ_cons,Za4,if_pos (by omega)]
     have:((x.toNat:Nat):Int)=x:=by omega
     rw [this];rfl
    ·obtain ⟨j,rfl⟩:∃ j',j=j'+1:=⟨j - 1,by omega⟩
     rw [Za4,Za4,if_pos (by omega),if_pos (by omega)]
theorem X09 {l:List Int} {w n:Nat} (hl:Qkf l) (h:dec l=some (w,n)):l.take n=enc w:=by
 obtain ⟨u,hu,_,ht,hj⟩:=Zvi 5 0 0 1 l w n (by decide) hl h
 have:u=w:=by omega
 subst this
 rw [show n - 0=n by omega] at ht
 rw [ht,enc,hj 10 (by decide)]
theorem Zvp:∀ (k j i v b u:Nat) (r:List Int),k+i=5→k≤j→u<128 ^ k→0<b→(0<i→0<u)→v+u*b≤1073741824→Zue k i v b (Zls j u++r)=some (v+u*b,i+(Zls j u).length)
 | 0,j,i,v,b,u,r,h5,hj,hu,hb,hi,hw=>by
  have:u=0:=by simpa using hu
  have:=hi (by omega)
  omega
 | k+1,j,i,v,b,u,r,h5,hj,hu,hb,hi,hw=>by
  obtain ⟨j,rfl⟩:∃ j',j=j'+1:=⟨j - 1,by omega⟩
  unfold Zls
  by_cases h1:u<128
  ·rw [if_pos h1,List.singleton_append]
   unfold Zue
   have e:((u:Nat):Int).toNat=u:=rfl
   rw [if_neg (by omega),e,if_neg (by omega)]
   rfl
  ·rw [if_neg h1,List.cons_append]
   unfold Zue
   have e:(((u % 128+128:Nat):Int).toNat) % 128=u % 128:=by omega
   rw [if_pos (by omega),e]
   have e2:v+u % 128*b+u / 128*(b*128)=v+u*b:=by
    have:u*b=(u % 128+128*(u / 128))*b:=by rw [Nat.mod_add_div]
    rw [this,Nat.add_mul,Nat.add_assoc]
    congr 2
    rw [Nat.mul_comm b 128,← Nat.mul_assoc,Nat.mul_comm (u / 128) 128]
   rw [Zvp k j (i+1) _ (b*128) (u / 128) r (by omega) (by omega) (by rw [Nat.pow_succ] at hu;exact Nat.div_lt_of_lt_mul (by rw [Nat.mul_comm];exact hu)) (by omega) (fun _=>by omega) (by rw [e2];exact hw),e2]
   simp only [List.length_cons]
   rw [show i+1+(Zls j (u / 128)).length=i+((Zls j (u / 128)).length+1) by omega]
theorem Zy7 (u:Nat) (r:List Int) (h:u≤1073741824):dec (enc u++r)=some (u,(enc u).length):=by
 have:=Zvp 5 10 0 0 1 u r rfl (by decide) (Nat.lt_of_le_of_lt h (by decide)) (by decide) (by omega) (by omega)
 rw [show 0+u*1=u by omega,show 0+(Zls 10 u).length=(Zls 10 u).length by omega] at this
 exact this
def Zxz (l:List Int):Option (List Int × Nat):=
 match dec l with
 | some (v,n)=>if v≤l.length - n then some ((l.drop n).take v,n+v) else none
 | none=>none
def Zvz (r:Option (List Int × Nat)):ByteArray × Int × Bool × Unit:=
 match r with
 | some (t,n)=>(Q58 t,(n:Int),true,())
 | none=>(⟨#[]⟩,0,false,())
theorem Zpn:Zvz none=(⟨#[]⟩,0,false,()):=rfl
theorem Zpq (t:List Int) (n:Nat):Zvz (some (t,n))=(Q58 t,(n:Int),true,()):=rfl
theorem Zmx (b:List Int) (hb:Qkf b) (hl:b.length≤4611686018427387904) {T:Option ((Int × Int × Bool × Unit) × Unit)} (hT:T=some (X02 (dec b),())) :
  (Option.bind T fun (r1:(Int × Int × Bool × Unit) × Unit)=>
 bif !r1.1.2.2.1 then
 some ((zB,(0:Int),false,()),())
 else
 bif decide (r1.1.1>wJ ((b.length:Int) - r1.1.2.1)) then
 some ((zB,(0:Int),false,()),())
 else
 bif (decide (0≤r1.1.2.1)&&decide (r1.1.2.1≤wJ (r1.1.2.1+r1.1.1)))&&decide (wJ (r1.1.2.1+r1.1.1)≤(b.length:Int)) then
 some ((Q58 (List.drop r1.1.2.1.toNat (List.take ((wJ (r1.1.2.1+r1.1.1)).toNat) b)),wJ (r1.1.2.1+r1.1.1),true,()),())
 else none)=some (Zvz (Zxz b),()):=by
 subst hT
 unfold Zxz
 cases hd:dec b with
 | none=>rfl
 | some p=>
  obtain ⟨v,n⟩:=p
  obtain ⟨h0,h1,h2,h3⟩:=Zqq hb hd
  simp only [Option.bind_some,X02,Bool.not_true,cond_false]
  rw [Qor (x:=(b.length:Int) - (n:Int)) (by omega) (by omega),Qor (x:=(n:Int)+(v:Int)) (by omega) (by omega)]
  by_cases hc:v≤b.length - n
  ·rw [cdn (by omega)]
   simp only [Zb1]
   rw [cdp (by omega),cdp (by omega),cdp (by omega),if_pos hc]
   have e1:((n:Int)+(v:Int)).toNat=n+v:=by omega
   have e2:(n:Int).toNat=n:=rfl
   rw [e1,e2]
   have e3:List.drop n (List.take (n+v) b)=List.take v (List.drop n b):=by
    rw [List.take_drop]
   rw [e3]
   simp only [Zvz]
   have e4:(n:Int)+(v:Int)=((n+v:Nat):Int):=by omega
   rw [e4]
  ·rw [cdp (by omega),if_neg hc];rfl
theorem Zki (b:List Int) (hb:Qkf b) (hl:b.length≤4611686018427387904):Zbq b=some (Zvz (Zxz b),()):=
 Zmx b hb hl (Zjn b hb hl)
theorem Zm2 (b:List Int) (hb:Qkf b) (hl:b.length≤4611686018427387904):Qxo b=some (Zvz (Zxz b),()):=
 Zmx b hb hl (Ze7 b hb hl)
def Zme (t:List Int):List Int:=enc t.length++t
theorem Zz5 (t r:List Int) (h:t.length≤1073741824):Zxz (Zme t++r)=some (t,(Zme t).length):=by
 unfold Zxz Zme
 rw [List.append_assoc,Zy7 _ _ h]
 simp only [List.length_append]
 rw [if_pos (by omega),List.drop_left,List.take_left]
theorem Zxc {l t:List Int} {n:Nat} (hl:Qkf l) (h:Zxz l=some (t,n)):0<n∧n≤l.length∧t.length≤1073741824∧Qkf t∧l.take n=Zme t:=by
 unfold Zxz at h
 cases hd:dec l with
 | none=>rw [hd] at h;cases h
 | some p=>
  obtain ⟨v,m⟩:=p
  rw [hd] at h
  simp only at h
  obtain ⟨h0,h1,h2,h3⟩:=Zqq hl hd
  split at h
  ·rename_i hc
   simp only [Option.some.injEq,Prod.mk.injEq] at h
   obtain ⟨rfl,rfl⟩:=h
   have a:((l.drop m).take v).length=v:=by rw [List.length_take,List.length_drop];omega
   refine ⟨by omega,by omega,by omega,Zee (Qyx hl m) v,?_⟩
   unfold Zme
   rw [a,← X09 hl hd,List.take_add]
  ·cases h
theorem Qkq {α:Type} {l:List α} {i:Nat} (h:i<l.length) (d:α):List.getD l i d=l[i]:=by
 rw [List.getD_eq_getElem?_getD,List.getElem?_eq_getElem h];rfl
theorem Qoq {i:Nat} (h:i<4611686018427387904):wJ ((i:Int)+1)=((i+1:Nat):Int):=by rw [Qor (by omega) (by omega)];omega
theorem Qkb (i:Nat):(i:Int).toNat=i:=rfl
theorem Z8q {α:Type} {x y:Int} {a b:α}:(bif x != y then a else b)=if x=y then b else a:=by
 by_cases h:x=y
 ·rw [Zqu h,if_pos h]
 ·rw [Ztu h,if_neg h]
theorem ceq {α:Type} {x y:Int} {a b:α}:(bif x==y then a else b)=if x=y then a else b:=by
 by_cases h:x=y
 ·rw [Z65 h,if_pos h]
 ·rw [Z3n h,if_neg h]
theorem Zfy (n:Nat) (a b:List Int) (hl:a.length=b.length) (h6:a.length≤4000000000000):∀ (k m i:Nat),i+k=a.length→k<m →
  Qow n m a b (a.length:Int) (i:Int)=some ((decide (a.drop i=b.drop i),()),())
 | k,0,i,_,h=>by omega
 | 0,m+1,i,hk,h=>by
  show Qou (Qow n m) a b (a.length:Int) (i:Int)=_
  unfold Qou
  rw [cdn (by omega),List.drop_eq_nil_of_le (by omega),List.drop_eq_nil_of_le (by omega)];simp
 | k+1,m+1,i,hk,h=>by
  show Qou (Qow n m) a b (a.length:Int) (i:Int)=_
  unfold Qou
  have hi:i<a.length:=by omega
  have d:i<b.length:=by omega
  rw [cdp (by omega)]
  simp only [Zb1]
  rw [cdp (by omega),cdp (by omega),cdp (by omega),cdp (by omega),Qkb,Qkq hi,Qkq d,List.drop_eq_getElem_cons hi,List.drop_eq_getElem_cons d,Qoq (by omega)]
  generalize a[i]=x
  generalize b[i]=y
  rw [Z8q]
  by_cases c:x=y
  ·rw [if_pos c,Zfy n a b hl h6 k m (i+1) (by omega) (by omega),c];simp
  ·rw [if_neg c];simp [c]
theorem Zxo (a b:List Int) (h6:a.length≤4000000000000) (h7:b.length≤4000000000000) (hf:a.length<1099511627776):Z3s a b=some ((decide (a=b),()),()):=by
 show Qw1 (Qow 1099511627776 1099511627776) a b=_
 unfold Qw1
 by_cases hl:a.length=b.length
 ·rw [Zqu (by omega)]
  have:=Zfy 1099511627776 a b hl h6 a.length 1099511627776 0 (by omega) (by omega)
  simpa using this
 ·rw [Ztu (by omega),decide_eq_false (fun h=>hl (by rw [h]))]
theorem Zdh (n:Nat) (a b:List Int) (hl:a.length=b.length) (h6:a.length≤4000000000000):∀ (k m i:Nat),i+k=a.length→k<m →
  Qob n m a b (a.length:Int) (i:Int)=some ((decide (a.drop i=b.drop i),()),())
 | k,0,i,_,h=>by omega
 | 0,m+1,i,hk,h=>by
  show Qod (Qob n m) a b (a.length:Int) (i:Int)=_
  unfold Qod
  rw [cdn (by omega),List.drop_eq_nil_of_le (by omega),List.drop_eq_nil_of_le (by omega)];simp
 | k+1,m+1,i,hk,h=>by
  show Qod (Qob n m) a b (a.length:Int) (i:Int)=_
  unfold Qod
  have hi:i<a.length:=by omega
  have d:i<b.length:=by omega
  rw [cdp (by omega)]
  simp only [Zb1]
  rw [cdp (by omega),cdp (by omega),cdp (by omega),cdp (by omega),Qkb,Qkq hi,Qkq d,List.drop_eq_getElem_cons hi,List.drop_eq_getElem_cons d,Qoq (by omega)]
  generalize a[i]=x
  generalize b[i]=y
  rw [Z8q]
  by_cases c:x=y
  ·rw [if_pos c,Zdh n a b hl h6 k m (i+1) (by omega) (by omega),c];simp
  ·rw [if_neg c];simp [c]
theorem Zw8 (a b:List Int) (h6:a.length≤1000000000) (h7:b.length≤1000000000):Qx5 a b=some ((decide (a=b),()),()):=by
 show Qux (Qob 1099511627776 1099511627776) a b=_
 unfold Qux
 by_cases hl:a.length=b.length
 ·rw [Zqu (by omega)]
  have:=Zdh 1099511627776 a b hl (by omega) a.length 1099511627776 0 (by omega) (by omega)
  simpa using this
 ·rw [Ztu (by omega),decide_eq_false (fun h=>hl (by rw [h]))]
theorem Zi8 (n:Nat) (a b:List Int) (hl:a.length=b.length) (h6:a.length≤4000000000000):∀ (k m i:Nat),i+k=a.length→k<m →
  Qn7 n m a b (i:Int)=some ((decide (a.drop i=b.drop i),()),())
 | k,0,i,_,h=>by omega
 | 0,m+1,i,hk,h=>by
  show Qn1 (Qn7 n m) a b (i:Int)=_
  unfold Qn1
  rw [cdn (by omega),List.drop_eq_nil_of_le (by omega),List.drop_eq_nil_of_le (by omega)];simp
 | k+1,m+1,i,hk,h=>by
  show Qn1 (Qn7 n m) a b (i:Int)=_
  unfold Qn1
  have hi:i<a.length:=by omega
  have d:i<b.length:=by omega
  rw [cdp (by omega)]
  simp only [Zb1]
  rw [cdp (by omega),cdp (by omega),cdp (by omega),cdp (by omega),Qkb,Qkq hi,Qkq d,List.drop_eq_getElem_cons hi,List.drop_eq_getElem_cons d,Qoq (by omega)]
  generalize a[i]=x
  generalize b[i]=y
  rw [Z8q]
  by_cases c:x=y
  ·rw [if_pos c,Zi8 n a b hl h6 k m (i+1) (by omega) (by omega),c];simp
  ·rw [if_neg c];simp [c]
theorem Zvt (a b:List Int) (h6:a.length≤1000000000) (h7:b.length≤1000000000):Qv4 a b=some ((decide (a=b),()),()):=by
 show Qsn (Qn7 1099511627776 1099511627776) a b=_
 unfold Qsn
 by_cases hl:a.length=b.length
 ·rw [Zqu (by omega)]
  have:=Zi8 1099511627776 a b hl (by omega) a.length 1099511627776 0 (by omega) (by omega)
  simpa using this
 ·rw [Ztu (by omega),decide_eq_false (fun h=>hl (by rw [h]))]
theorem Zg1 (n:Nat) (l:List Int) (v:Int) (h6:l.length≤1000000000):∀ (k m i:Nat),i+k=l.length→k<m →
  ∃ r:Int,Qnj n m l v (l.length:Int) (i:Int)=some ((r,()),())∧(0≤r↔v∈l.drop i)
 | k,0,i,_,h=>by omega
 | 0,m+1,i,hk,h=>by
  refine ⟨-1,?_,?_⟩
  ·show Qp9 (Qnj n m) l v (l.length:Int) (i:Int)=_
   unfold Qp9
   rw [cdn (by omega)]
  ·rw [List.drop_eq_nil_of_le (by omega)];simp
 | k+1,m+1,i,hk,h=>by
  have hi:i<l.length:=by omega
  have e:Qnj n (m+1) l v (l.length:Int) (i:Int)=if v=l[i] then some (((i:Int),()),()) else Qnj n m l v (l.length:Int) ((i+1:Nat):Int):=by
   show Qp9 (Qnj n m) l v (l.length:Int) (i:Int)=_
   unfold Qp9
   rw [cdp (by omega),Zb1,cdp (by omega),cdp (by omega),Qkb,Qkq hi,Qoq (by omega),ceq]
  rw [e,List.drop_eq_getElem_cons hi]
  by_cases hv:v=l[i]
  ·exact ⟨(i:Int),if_pos hv,⟨fun _=>hv▸List.mem_cons_self ..,fun _=>by omega⟩⟩
  ·obtain ⟨r,h1,h2⟩:=Zg1 n l v h6 k m (i+1) (by omega) (by omega)
   exact ⟨r,by rw [if_neg hv,h1],by rw [h2,List.mem_cons];exact ⟨.inr,fun h=>h.elim (fun e=>absurd e hv) id⟩⟩
theorem Zln (l:List Int) (v:Int) (h6:l.length≤1000000000):Qrm l v=some ((decide (v∈l),()),()):=by
 obtain ⟨r,h1,h2⟩:=Zg1 1099511627776 l v h6 l.length 1099511627776 0 (by omega) (by omega)
 unfold Qrm
 have e:Z3u l v=some ((r,()),()):=h1
 rw [e]
 dsimp only [Option.bind_some]
 rw [List.drop_zero] at h2
 congr 3
 exact decide_eq_decide.2 h2
theorem Zvc (n:Nat) (l:List Int) (v:Int) (h6:l.length≤1000000000):∀ (k m i:Nat),i+k=l.length→k<m →
  Qtu n m l v (i:Int)=some ((decide (v∈l.drop i),()),())
 | k,0,i,_,h=>by omega
 | 0,m+1,i,hk,h=>by
  show Qr7 (Qtu n m) l v (i:Int)=_
  unfold Qr7
  rw [cdn (by omega),List.drop_eq_nil_of_le (by omega)];simp
 | k+1,m+1,i,hk,h=>by
  show Qr7 (Qtu n m) l v (i:Int)=_
  have hi:i<l.length:=by omega
  unfold Qr7
  rw [cdp (by omega),Zb1,cdp (by omega),cdp (by omega),Qkb,Qkq hi,Qoq (by omega),ceq,List.drop_eq_getElem_cons hi]
  by_cases hv:l[i]=v
  ·rw [if_pos hv];simp [hv]
  ·rw [if_neg hv,Zvc n l v h6 k m (i+1) (by omega) (by omega)]
   congr 3
   exact decide_eq_decide.2 (by rw [List.mem_cons];exact ⟨.inr,fun h=>h.elim (fun e=>absurd e.symm hv) id⟩)
theorem Zzr (l:List Int) (v:Int) (h6:l.length≤1000000000):Qt2 l v=some ((decide (v∈l),()),()):=by
 have:=Zvc 1099511627776 l v h6 l.length 1099511627776 0 (by omega) (by omega)
 rw [List.drop_zero] at this
 exact this
theorem Zg0 (n:Nat) (l:List Int) (f:Int × Unit→Option (Bool × Unit)) (p:Int→Bool) (hf:∀ x,f (x,())=some (p x,())) (h6:l.length≤1000000000):∀ (k m i:Nat),i+k=l.length→k<m →
  ∃ r:Int,Qlj n m l f (l.length:Int) (i:Int)=some ((r,()),())∧(0≤r↔∃ x∈l.drop i,p x=true)
 | k,0,i,_,h=>by omega
 | 0,m+1,i,hk,h=>by
  refine ⟨-1,?_,?_⟩
  ·show Qmi (Qlj n m) l f (l.length:Int) (i:Int)=_
   unfold Qmi
   rw [cdn (by omega)]
  ·rw [List.drop_eq_nil_of_le (by omega)];simp
 | k+1,m+1,i,hk,h=>by
  have hi:i<l.length:=by omega
  have e:Qlj n (m+1) l f (l.length:Int) (i:Int)=bif p l[i] then some (((i:Int),()),()) else Qlj n m l f (l.length:Int) ((i+1:Nat):Int):=by
   show Qmi (Qlj n m) l f (l.length:Int) (i:Int)=_
   unfold Qmi
   rw [cdp (by omega),Zb1,cdp (by omega),cdp (by omega),Qkb,Qkq hi,Qoq (by omega),hf]
   rfl
  rw [e,List.drop_eq_getElem_cons hi]
  cases hv:p l[i] with
  | true=>exact ⟨(i:Int),rfl,⟨fun _=>⟨_,List.mem_cons_self ..,hv⟩,fun _=>by omega⟩⟩
  | false=>
   obtain ⟨r,h1,h2⟩:=Zg0 n l f p hf h6 k m (i+1) (by omega) (by omega)
   refine ⟨r,by rw [cond_false,h1],?_⟩
   rw [h2]
   constructor
   ·rintro ⟨x,hx,hp⟩;exact ⟨x,List.mem_cons_of_mem _ hx,hp⟩
   ·rintro ⟨x,hx,hp⟩
    rcases List.mem_cons.1 hx with rfl | hx
    ·rw [hv] at hp;cases hp
    ·exact ⟨x,hx,hp⟩
theorem Zmb (l:List Int) (f:Int × Unit→Option (Bool × Unit)) (p:Int→Bool) (hf:∀ x,f (x,())=some (p x,())) (h6:l.length≤1000000000):Qqm l f=some ((l.any p,()),()):=by
 obtain ⟨r,h1,h2⟩:=Zg0 1099511627776 l f p hf h6 l.length 1099511627776 0 (by omega) (by omega)
 unfold Qqm
 have e:Qxq l f=some ((r,()),()):=h1
 rw [e]
 dsimp only [Option.bind_some]
 rw [List.drop_zero] at h2
 congr 3
 rw [Bool.eq_iff_iff,decide_eq_true_eq,List.any_eq_true]
 exact h2
def Zaq (c:Nat):Nat:=if c % 2=1 then (c / 2) ^^^ 3988292384 else c / 2
def Zzc:Nat→Nat→Nat
 | 0,c=>c
 | k+1,c=>Zzc k (Zaq c)
def X0s:Nat→List Int→Nat
 | c,[]=>c
 | c,x::r=>X0s (Zzc 8 (c ^^^ x.toNat)) r
def Zzw (l:List Int):Nat:=X0s 4294967295 l ^^^ 4294967295
theorem Zw9 {a b:Nat} (ha:a<4294967296) (hb:b<4294967296):a ^^^ b<4294967296:=Nat.xor_lt_two_pow (n:=32) ha hb
theorem Zkt {c:Nat} (h:c<4294967296):Zaq c<4294967296:=by
 unfold Zaq;split
 ·exact Zw9 (by omega) (by omega)
 ·omega
theorem Zra:∀ (k:Nat) {c:Nat},c<4294967296→Zzc k c<4294967296
 | 0,c,h=>h
 | k+1,c,h=>Zra k (Zkt h)
theorem Zxa:∀ (l:List Int) {c:Nat},Qkf l→c<4294967296→X0s c l<4294967296
 | [],c,_,h=>h
 | x::r,c,hb,h=>Zxa r (fun y hy=>hb y (List.mem_cons_of_mem _ hy)) (Zra 8 (Zw9 h (by have:=hb x (List.mem_cons_self ..);omega)))
theorem Zxy {l:List Int} (h:Qkf l):Zzw l<4294967296:=Zw9 (Zxa l h (by omega)) (by omega)
def Zr7 (s:Nat):List Int:=[((s / 16777216 % 256:Nat):Int),((s / 65536 % 256:Nat):Int),((s / 256 % 256:Nat):Int),((s % 256:Nat):Int)]
theorem Ztw (s:Nat):Qkf (Zr7 s):=by
 intro x hx
 simp only [Zr7,List.mem_cons,List.not_mem_nil,or_false] at hx
 omega
theorem X0o {a b:Nat} (ha:a<4294967296) (hb:b<4294967296):IntKind.wrap .u32 ((BitVec.ofInt 32 (a:Int) ^^^ BitVec.ofInt 32 (b:Int)).toNat)=((a ^^^ b:Nat):Int):=by
 have h:=Zw9 ha hb
 rw [BitVec.toNat_xor,BitVec.toNat_ofInt,BitVec.toNat_ofInt]
 have e1:((a:Int) % ((2 ^ 32:Nat):Int)).toNat=a:=by omega
 have e2:((b:Int) % ((2 ^ 32:Nat):Int)).toNat=b:=by omega
 rw [e1,e2,X0r (by omega) (by omega)]
theorem X1g {a:Nat} (ha:a<4294967296):IntKind.wrap .u32 ((BitVec.ofInt 32 (a:Int) &&& BitVec.ofInt 32 1).toNat)=((a % 2:Nat):Int):=by
 rw [BitVec.toNat_and,BitVec.toNat_ofInt]
 have e1:((a:Int) % ((2 ^ 32:Nat):Int)).toNat=a:=by omega
 have e2:(BitVec.ofInt 32 1).toNat=1:=by decide
 rw [e1,e2,Nat.and_one_is_mod,X0r (by omega) (by omega)]
theorem Zmz (n:Nat) (L:Int→List Int→Int→Int→Option ((Int × Unit) × Unit)) (m1:Nat) (l:List Int) (len i:Int):∀ (k m c j:Nat),j+k=8→k<m→c<4294967296 →
  Z2h n m1 L m (c:Int) l len i (j:Int)=L ((Zzc k c:Nat):Int) l len (wJ (i+1))
 | k,0,c,j,_,h,_=>by omega
 | 0,m+1,c,j,hk,h,hc=>by
  show Z5f (Z2h n m1 L m) L (c:Int) l len i (j:Int)=_
  unfold Z5f
  rw [cdn (by omega)];rfl
 | k+1,m+1,c,j,hk,h,hc=>by
  show Z5f (Z2h n m1 L m) L (c:Int) l len i (j:Int)=_
  unfold Z5f
  have e1:Int.fdiv (c:Int) (2 ^ 1)=((c / 2:Nat):Int):=by
   rw [Int.fdiv_eq_ediv_of_nonneg _ (by decide)];rfl
  have e2:IntKind.wrap .u32 ((BitVec.ofInt 32 ((c / 2:Nat):Int) ^^^ BitVec.ofInt 32 3988292384).toNat)=((c / 2 ^^^ 3988292384:Nat):Int):=X0o (b:=3988292384) (by omega) (by omega)
  rw [cdp (by omega),X1g hc,e1,e2,Qoq (by omega),ceq]
  have ec:Zzc (k+1) c=Zzc k (Zaq c):=rfl
  rw [ec]
  by_cases hp:c % 2=1
  ·have es:Zaq c=c / 2 ^^^ 3988292384:=if_pos hp
   rw [if_pos (by omega),es]
   exact Zmz n L m1 l len i k m _ (j+1) (by omega) (by omega) (es▸Zkt hc)
  ·have es:Zaq c=c / 2:=if_neg hp
   rw [if_neg (by omega),es]
   exact Zmz n L m1 l len i k m _ (j+1) (by omega) (by omega) (by omega)
theorem Zsi (l:List Int) (hb:Qkf l) (h6:l.length≤1000000000):∀ (k m i c:Nat),i+k=l.length→k<m→c<4294967296 →
  Z5m 1099511627776 m (c:Int) l (l.length:Int) (i:Int)=some ((((X0s c (l.drop i) ^^^ 4294967295:Nat):Int),()),())
 | k,0,i,c,_,h,_=>by omega
 | 0,m+1,i,c,hk,h,hc=>by
  show Z5i (Z2h 1099511627776 m (Z5m 1099511627776 m) 1099511627776) (c:Int) l (l.length:Int) (i:Int)=_
  unfold Z5i
  have e2:IntKind.wrap .u32 ((BitVec.ofInt 32 (c:Int) ^^^ BitVec.ofInt 32 4294967295).toNat)=((c ^^^ 4294967295:Nat):Int):=X0o (b:=4294967295) hc (by omega)
  rw [cdn (by omega),e2,List.drop_eq_nil_of_le (by omega)];rfl
 | k+1,m+1,i,c,hk,h,hc=>by
  show Z5i (Z2h 1099511627776 m (Z5m 1099511627776 m) 1099511627776) (c:Int) l (l.length:Int) (i:Int)=_
  unfold Z5i
  have hi:i<l.length:=by omega
  have hx:=hb l[i] (List.getElem_mem hi)
  rw [cdp (by omega),Zb1,cdp (by omega),cdp (by omega),Qkb,Qkq hi,List.drop_eq_getElem_cons hi]
  generalize l[i]=x at *
  obtain ⟨x,rfl⟩:∃ y:Nat,x=(y:Int):=⟨x.toNat,by omega⟩
  rw [X0r (x:=(x:Int)) (by omega) (by omega),X0o hc (by omega)]
  have a:c ^^^ x<4294967296:=Zw9 hc (by omega)
  have:=Zmz 1099511627776 (Z5m 1099511627776 m) m l (l.length:Int) (i:Int) 8 1099511627776 (c ^^^ x) 0 rfl (by omega) a
  have e0:((0:Nat):Int)=0:=rfl
  rw [e0] at this
  rw [this,Qoq (by omega),Zsi l hb h6 k m (i+1) _ (by omega) (by omega) (Zra 8 a)]
  rfl
theorem X0w (l:List Int) (hb:Qkf l) (h6:l.length≤1000000000):Zuv l=some ((((Zzw l:Nat):Int),()),()):=by
 have:=Zsi l hb h6 l.length 1099511627776 0 4294967295 (by omega) (by omega) (by omega)
 rw [List.drop_zero] at this
 exact this
theorem Zvj {s:Nat} (h:s<4294967296):[IntKind.wrap .u8 (Int.fdiv (s:Int) (2 ^ 24)),IntKind.wrap .u8 (Int.fdiv (s:Int) (2 ^ 16)),IntKind.wrap .u8 (Int.fdiv (s:Int) (2 ^ 8)),IntKind.wrap .u8 (s:Int)]=Zr7 s:=by
 simp only [Zyg,Int.fdiv_eq_ediv_of_nonneg _ (show (0:Int)≤2 ^ 24 by decide),Int.fdiv_eq_ediv_of_nonneg _ (show (0:Int)≤2 ^ 16 by decide),Int.fdiv_eq_ediv_of_nonneg _ (show (0:Int)≤2 ^ 8 by decide)]
 rfl
abbrev Qka:=Int × Int × Int × Int × Int × Int × List Int × Int × Int × ByteArray
def Qka.kd (m:Qka):Int:=m.1
def Qka.fr (m:Qka):Int:=m.2.1
def Qka.to (m:Qka):Int:=m.2.2.1
def Qka.inc (m:Qka):Int:=m.2.2.2.1
def Qka.ep (m:Qka):Int:=m.2.2.2.2.1
def Qka.ag (m:Qka):Int:=m.2.2.2.2.2.1
def Qka.pa (m:Qka):List Int:=m.2.2.2.2.2.2.1
def Qka.lo (m:Qka):Int:=m.2.2.2.2.2.2.2.1
def Qka.hi (m:Qka):Int:=m.2.2.2.2.2.2.2.2.1
def Qka.tx (m:Qka):ByteArray:=m.2.2.2.2.2.2.2.2.2
theorem Z9m {a b:Bool}:(bif a then some ((b,()),()) else some ((false,()),()))=some ((a&&b,()),()):=by cases a<;>rfl
def eqM (a b:Qka):Bool:=(a.1==b.1)&&((a.2.1==b.2.1)&&((a.2.2.1==b.2.2.1)&&((a.2.2.2.1==b.2.2.2.1)&&((a.2.2.2.2.1==b.2.2.2.2.1)&&((a.2.2.2.2.2.1==b.2.2.2.2.2.1)&&(decide (a.2.2.2.2.2.2.1=b.2.2.2.2.2.2.1) &&
 ((a.2.2.2.2.2.2.2.1==b.2.2.2.2.2.2.2.1)&&((a.2.2.2.2.2.2.2.2.1==b.2.2.2.2.2.2.2.2.1)&&Qek a.2.2.2.2.2.2.2.2.2 b.2.2.2.2.2.2.2.2.2))))))))
theorem Z00 {a b:Qka}:eqM a b=true↔a=b:=by
 obtain ⟨a1,a2,a3,a4,a5,a6,a7,a8,a9,c⟩:=a
 obtain ⟨b1,b2,b3,b4,b5,b6,b7,b8,b9,d⟩:=b
 simp only [eqM,Bool.and_eq_true,beq_iff_eq,Ziv,Prod.mk.injEq,decide_eq_true_eq]
theorem Zz2 (a:Qka):eqM a a=true:=Z00.2 rfl
theorem Zsd (a b:Qka) (ha:a.pa.length≤1000000000) (hb:b.pa.length≤1000000000):Qru a b=some ((eqM a b,()),()):=by
 unfold Qru
 have:=Zxo a.pa b.pa (by omega) (by omega) (by omega)
 simp only [Qka.pa] at this
 rw [this]
 simp only [Option.bind_some,Z9m]
 rfl
theorem Zo9 (a b:Qka) (ha:a.pa.length≤1000000000) (hb:b.pa.length≤1000000000):Qkd a b=some ((eqM a b,()),()):=by
 unfold Qkd
 have:=Zvt a.pa b.pa ha hb
 simp only [Qka.pa] at this
 rw [this]
 simp only [Option.bind_some,Z9m]
 congr 3
 rw [Bool.eq_iff_iff]
 simp only [eqM,Bool.and_eq_true]
 constructor
 ·rintro ⟨h1,h2,h3,h4,h5,h6,h7,h8,h9,c⟩;exact ⟨h1,h2,h3,h4,h5,h6,c,h7,h8,h9⟩
 ·rintro ⟨h1,h2,h3,h4,h5,h6,c,h7,h8,h9⟩;exact ⟨h1,h2,h3,h4,h5,h6,h7,h8,h9,c⟩
def inR (lo hi v:Int):Bool:=decide (lo≤v)&&decide (v≤hi)
theorem Qkt {lo hi v:Int}:inR lo hi v=true↔lo≤v∧v≤hi:=by unfold inR;rw [Bool.and_eq_true,decide_eq_true_eq,decide_eq_true_eq]
def Zim:List Int→List Int→Bool
 | _,[]=>true
 | a,x::r=>(inR 1 8 x&&!(decide (x∈a)))&&Zim (a++[x]) r
def Qqz (p:List Int):Bool:=decide (1≤p.length)&&(decide (p.length≤10)&&(decide (List.getD p 0 0=1)&&Zim [] p))
theorem Zlf {l:List Int} {i:Nat} (h:i<l.length):l.take (i+1)=l.take i++[l[i]]:=List.take_succ_eq_append_getElem h
theorem Ztr (n:Nat) (p:List Int) (h6:p.length≤1000000000):∀ (k m i:Nat),i+k=p.length→k<m →
  ∃ e:IV,Qu7 n m p p (p.length:Int) (i:Int)=some ((e,()),())∧(!(IV.is e 222))=Zim (p.take i) (p.drop i)
 | k,0,i,_,h=>by omega
 | 0,m+1,i,hk,h=>by
  refine ⟨IV.nil,?_,?_⟩
  ·show Qz1 (Qu7 n m) p p (p.length:Int) (i:Int)=_
   unfold Qz1
   rw [cdn (by omega)]
  ·rw [List.drop_eq_nil_of_le (by omega)];rfl
 | k+1,m+1,i,hk,h=>by
  have hi:i<p.length:=by omega
  have e:Qu7 n (m+1) p p (p.length:Int) (i:Int)=bif inR 1 8 p[i]&&!(decide (p[i]∈p.take i)) then Qu7 n m p p (p.length:Int) ((i+1:Nat):Int) else some ((IV.mk 222 [.int .i64 (i:Int)],()),()):=by
   show Qz1 (Qu7 n m) p p (p.length:Int) (i:Int)=_
   unfold Qz1
   simp only [Zb1]
   rw [cdp (by omega),cdp (by omega),cdp (by omega),Qkb,Qkq hi,List.drop_zero,Zln _ _ (by rw [List.length_take];omega),Qoq (by omega)]
   dsimp only [Option.bind_some]
   rw [cdp (show (0:Int)≤(i:Int) by omega),cdp (show (i:Int)≤(p.length:Int) by omega)]
   generalize p[i]=x
   by_cases h1:x<1
   ·rw [cdp h1]
    have:inR 1 8 x=false:=by unfold inR;rw [decide_eq_false (by omega)];rfl
    rw [this];rfl
   ·rw [cdn h1]
    by_cases h2:x>8
    ·rw [cdp h2]
     have:inR 1 8 x=false:=by unfold inR;rw [decide_eq_false (show ¬ x≤8 by omega),Bool.and_false]
     rw [this];rfl
    ·rw [cdn h2]
     have:inR 1 8 x=true:=Qkt.2 (by omega)
     rw [this]
     cases decide (x∈p.take i)<;>rfl
  rw [e,List.drop_eq_getElem_cons hi]
  cases hc:(inR 1 8 p[i]&&!(decide (p[i]∈p.take i))) with
  | true=>
   obtain ⟨e',h1,h2⟩:=Ztr n p h6 k m (i+1) (by omega) (by omega)
   refine ⟨e',h1,?_⟩
   rw [h2,Zlf hi]
   conv=>rhs;unfold Zim
   rw [hc];rfl
  | false=>
   refine ⟨_,rfl,?_⟩
   unfold Zim
   rw [hc]
   simp [IV.is]
theorem Zl8 (p:List Int) (h6:p.length≤1000000000):Z56 p=some ((Qqz p,()),()):=by
 unfold Z56
 have key:∃ e:IV,Zni p=some ((e,()),())∧(!(IV.is e 222))=Qqz p:=by
  show ∃ e:IV,Zbi (Qu7 1099511627776 1099511627776) p=_∧_
  unfold Zbi
  by_cases h1:p.length<1
  ·rw [cdp (by omega)]
   refine ⟨_,rfl,?_⟩
   unfold Qqz;rw [decide_eq_false (show ¬ 1≤p.length by omega)];simp [IV.is]
  rw [cdn (by omega)]
  by_cases h2:p.length>10
  ·rw [cdp (by omega)]
   refine ⟨_,rfl,?_⟩
   unfold Qqz;rw [decide_eq_false (show ¬ p.length≤10 by omega)];simp [IV.is]
  rw [cdn (by omega),cdp (by omega),Z8q]
  by_cases h3:List.getD p 0 0=1
  ·rw [if_pos h3]
   obtain ⟨e,a1,a2⟩:=Ztr 1099511627776 p h6 p.length 1099511627776 0 (by omega) (by omega)
   refine ⟨e,a1,?_⟩
   rw [a2,List.take_zero,List.drop_zero]
   unfold Qqz
   rw [decide_eq_true (show 1≤p.length by omega),decide_eq_true (show p.length≤10 by omega),decide_eq_true h3]
   simp
  ·rw [if_neg h3]
   refine ⟨_,rfl,?_⟩
   unfold Qqz;rw [decide_eq_false h3];simp [IV.is]
 obtain ⟨e,h1,h2⟩:=key
 rw [h1]
 dsimp only [Option.bind_some]
 rw [h2]
theorem Qr0 (lo hi:Int) (l:List Int) (h6:l.length≤1000):Qpu lo hi l=some ((l.all (inR lo hi),()),()):=by
 unfold Qpu
 rw [Zmb l _ (fun x=>!(inR lo hi x)) (fun x=>?_) (by omega)]
 ·dsimp only [Option.bind_some]
  congr 3
  rw [Bool.eq_iff_iff]
  simp
 ·dsimp only
  unfold Ze8
  by_cases h:x<lo
  ·rw [cdp h]
   have:inR lo hi x=false:=by unfold inR;rw [decide_eq_false (by omega)];rfl
   rw [this];rfl
  ·rw [cdn h]
   dsimp only [Option.bind_some]
   congr 2
   unfold inR
   rw [decide_eq_true (show lo≤x by omega),Bool.true_and,← decide_not]
   exact decide_eq_decide.2 (by omega)
def eb:ByteArray:=⟨#[]⟩
def Qyr (m:Qka):Bool:=
 if m.1=2 then (inR 0 1073741824 m.ep&&inR 0 1073741824 m.ag)&&(Qqz m.pa&&(inR 0 1000000 m.lo&&eqM m (m.1,m.2.1,m.2.2.1,m.2.2.2.1,m.2.2.2.2.1,m.2.2.2.2.2.1,m.2.2.2.2.2.2.1,m.2.2.2.2.2.2.2.1,0,eb)))
 else if m.1=5 then (inR 0 1073741824 m.ep&&inR 0 1073741824 m.ag)&&(Qqz m.pa&&(inR 0 1000000 m.hi&&eqM m (m.1,m.2.1,m.2.2.1,m.2.2.2.1,m.2.2.2.2.1,m.2.2.2.2.2.1,m.2.2.2.2.2.2.1,0,m.2.2.2.2.2.2.2.2.1,eb)))
 else if m.1=7 then inR 1 1000000 m.lo&&(decide ((m.tx.size:Int)≤12)&&eqM m (m.1,m.2.1,m.2.2.1,m.2.2.2.1,0,0,[],m.2.2.2.2.2.2.2.1,0,m.2.2.2.2.2.2.2.2.2))
 else if m.1=8∨m.1=9 then decide (m.lo≤m.hi)&&((inR 1 1000000 m.lo&&inR 1 1000000 m.hi)&&eqM m (m.1,m.2.1,m.2.2.1,m.2.2.2.1,0,0,[],m.2.2.2.2.2.2.2.1,m.2.2.2.2.2.2.2.2.1,eb))
 else eqM m (m.1,m.2.1,m.2.2.1,m.2.2.2.1,0,0,[],0,0,eb)
def Zoz (m:Qka):Bool:=inR 1 9 m.1&&((inR 1 8 m.2.1&&inR 1 8 m.2.2.1)&&((m.2.1 != m.2.2.1)&&(inR 1 1073741824 m.2.2.2.1&&Qyr m)))
theorem X18 (p:Int→Bool) (a:Int):[a].all p=p a:=by simp
theorem X0m (p:Int→Bool) (a b:Int):[a,b].all p=(p a&&p b):=by simp
theorem X0t:inR 0 1000000 0=true:=by decide
theorem Zp9 (m:Qka) (h6:m.pa.length≤1000000000):Zen m=some ((Qyr m,()),()):=by
 have hs:∀ b:Qka,b.pa.length≤1000000000→Qru m b=some ((eqM m b,()),()):=fun b hb=>Zsd m b h6 hb
 have hp:Z56 m.2.2.2.2.2.2.1=some ((Qqz m.pa,()),()):=Zl8 m.pa h6
 have a:m.2.2.2.2.2.2.1.length≤1000000000:=h6
 unfold Zen Zr5 Qyr
 dsimp only [Option.bind_some]
 simp only [ceq]
 by_cases k2:m.1=2
 ·simp only [if_pos k2]
  rw [Qr0 _ _ _ (by simp),hp,Qr0 _ _ _ (by simp),hs _ (by simpa [Qka.pa] using a)]
  simp only [Option.bind_some,Z9m,X0m,X0t,Bool.and_true]
  rfl
 by_cases k5:m.1=5
 ·have e2:¬ m.1=2:=k2
  simp only [if_pos k5,if_neg e2]
  rw [Qr0 _ _ _ (by simp),hp,Qr0 _ _ _ (by simp),hs _ (by simpa [Qka.pa] using a)]
  simp only [Option.bind_some,Z9m,X0m,X0t,Bool.true_and]
  rfl
 by_cases k7:m.1=7
 ·simp only [if_pos k7,if_neg k2,if_neg k5]
  rw [Qr0 _ _ _ (by simp),hs _ (by simp [Qka.pa])]
  simp only [Option.bind_some,Z9m,X18]
  rfl
 by_cases k8:m.1=8
 ·simp only [if_pos k8,if_neg k2,if_neg k5,if_neg k7,if_pos (show m.1=8∨m.1=9 from Or.inl k8)]
  rw [Qr0 _ _ _ (by simp),hs _ (by simp [Qka.pa])]
  simp only [Option.bind_some,Z9m,X0m]
  rfl
 by_cases k9:m.1=9
 ·simp only [if_pos k9,if_neg k2,if_neg k5,if_neg k7,if_neg k8,if_pos (show m.1=8∨m.1=9 from Or.inr k9)]
  rw [Qr0 _ _ _ (by simp),hs _ (by simp [Qka.pa])]
  simp only [Option.bind_some,Z9m,X0m]
  rfl
 ·simp only [if_neg k2,if_neg k5,if_neg k7,if_neg k8,if_neg k9,if_neg (show ¬ (m.1=8∨m.1=9) from fun h=>h.elim k8 k9)]
  rw [hs _ (by simp [Qka.pa])]
  simp only [Option.bind_some]
  rfl
theorem Zv3 (m:Qka) (h6:m.pa.length≤1000000000):Zrk m=some ((Zoz m,()),()):=by
 unfold Zrk
 rw [Qr0 _ _ _ (by simp),Qr0 _ _ _ (by simp),Qr0 _ _ _ (by simp),Zp9 m h6]
 simp only [Option.bind_some,Z9m,X18,X0m]
 rfl
theorem Zq0:∀ (p s:List Int),Zim s p=true→∀ x∈p,1≤x∧x≤8
 | [],_,_,x,hx=>by cases hx
 | y::r,s,h,x,hx=>by
  unfold Zim at h
  rw [Bool.and_eq_true,Bool.and_eq_true] at h
  rcases List.mem_cons.1 hx with rfl | hx
  ·exact Qkt.1 h.1.1
  ·exact Zq0 r _ h.2 x hx
theorem Qqb {p:List Int} (h:Qqz p=true):p.length≤10∧∀ x∈p,1≤x∧x≤8:=by
 unfold Qqz at h
 simp only [Bool.and_eq_true,decide_eq_true_eq] at h
 exact ⟨h.2.1,Zq0 p [] h.2.2.2⟩
structure OkM (m:Qka):Prop where
 kd:1≤m.kd∧m.kd≤9
 fr:1≤m.fr∧m.fr≤8
 to:1≤m.to∧m.to≤8
 inc:1≤m.inc∧m.inc≤1073741824
 ep:0≤m.ep∧m.ep≤1073741824
 ag:0≤m.ag∧m.ag≤1073741824
 pl:m.pa.length≤10
 pa:∀ x∈m.pa,1≤x∧x≤8
 lo:0≤m.lo∧m.lo≤1000000
 hi:0≤m.hi∧m.hi≤1000000
 tx:m.tx.size≤12
theorem Z3w {m:Qka} (h:Zoz m=true):OkM m:=by
 unfold Zoz at h
 simp only [Bool.and_eq_true,bne_iff_ne] at h
 obtain ⟨h1,⟨h2,h3⟩,h4,h5,h6⟩:=h
 have b:eb.size=0:=rfl
 obtain ⟨kd,fr,to,inc,ep,ag,pa,lo,hi,tx⟩:=m
 unfold Qyr at h6
 by_cases k2:kd=2
 ·rw [if_pos k2] at h6
  simp only [Bool.and_eq_true,Z00,Prod.mk.injEq,Qka.ep,Qka.ag,Qka.pa,Qka.lo,Qka.hi] at h6
  obtain ⟨⟨a1,a2⟩,a3,a4,a5⟩:=h6
  have ⟨p1,p2⟩:=Qqb a3
  have e9:=a5.2.2.2.2.2.2.2.2.1;have a:=a5.2.2.2.2.2.2.2.2.2
  exact ⟨Qkt.1 h1,Qkt.1 h2,Qkt.1 h3,Qkt.1 h5,Qkt.1 a1,Qkt.1 a2,p1,p2,Qkt.1 a4,by show 0≤hi∧hi≤1000000;omega,by show tx.size≤12;rw [a,b];omega⟩
 rw [if_neg k2] at h6
 by_cases k5:kd=5
 ·rw [if_pos k5] at h6
  simp only [Bool.and_eq_true,Z00,Prod.mk.injEq,Qka.ep,Qka.ag,Qka.pa,Qka.lo,Qka.hi] at h6
  obtain ⟨⟨a1,a2⟩,a3,a4,a5⟩:=h6
  have ⟨p1,p2⟩:=Qqb a3
  have e8:=a5.2.2.2.2.2.2.2.1;have a:=a5.2.2.2.2.2.2.2.2.2
  exact ⟨Qkt.1 h1,Qkt.1 h2,Qkt.1 h3,Qkt.1 h5,Qkt.1 a1,Qkt.1 a2,p1,p2,by show 0≤lo∧lo≤1000000;omega,Qkt.1 a4,by show tx.size≤12;rw [a,b];omega⟩
 rw [if_neg k5] at h6
 by_cases k7:kd=7
 ·rw [if_pos k7] at h6
  simp only [Bool.and_eq_true,Z00,Prod.mk.injEq,Qka.ep,Qka.ag,Qka.pa,Qka.lo,Qka.hi,Qka.tx,decide_eq_true_eq] at h6
  obtain ⟨a1,a2,a5⟩:=h6
  have a1:=Qkt.1 a1
  have e5:=a5.2.2.2.2.1;have e6:=a5.2.2.2.2.2.1;have e7:=a5.2.2.2.2.2.2.1;have e9:=a5.2.2.2.2.2.2.2.2.1
  subst e7
  exact ⟨Qkt.1 h1,Qkt.1 h2,Qkt.1 h3,Qkt.1 h5,by show 0≤ep∧ep≤_;omega,by show 0≤ag∧ag≤_;omega,by simp [Qka.pa],by intro x hx;simp [Qka.pa] at hx,by show 0≤lo∧lo≤1000000;omega,by show 0≤hi∧hi≤_;omega,by show tx.size≤12;have a2:(tx.size:Int)≤12:=of_decide_eq_true a2;omega⟩
 rw [if_neg k7] at h6
 by_cases k8:kd=8∨kd=9
 ·rw [if_pos k8] at h6
  simp only [Bool.and_eq_true,Z00,Prod.mk.injEq,Qka.ep,Qka.ag,Qka.pa,Qka.lo,Qka.hi,Qka.tx,decide_eq_true_eq] at h6
  obtain ⟨a0,⟨a1,a2⟩,a5⟩:=h6
  have a1:=Qkt.1 a1;have a2:=Qkt.1 a2
  have e5:=a5.2.2.2.2.1;have e6:=a5.2.2.2.2.2.1;have e7:=a5.2.2.2.2.2.2.1;have a:=a5.2.2.2.2.2.2.2.2.2
  subst e7
  exact ⟨Qkt.1 h1,Qkt.1 h2,Qkt.1 h3,Qkt.1 h5,by show 0≤ep∧ep≤_;omega,by show 0≤ag∧ag≤_;omega,by simp [Qka.pa],by intro x hx;simp [Qka.pa] at hx,by show 0≤lo∧lo≤1000000;omega,by show 0≤hi∧hi≤_;omega,by show tx.size≤12;rw [a,b];omega⟩
 rw [if_neg k8] at h6
 simp only [Z00,Prod.mk.injEq] at h6
 have e5:=h6.2.2.2.2.1;have e6:=h6.2.2.2.2.2.1;have e7:=h6.2.2.2.2.2.2.1;have e8:=h6.2.2.2.2.2.2.2.1;have e9:=h6.2.2.2.2.2.2.2.2.1;have a:=h6.2.2.2.2.2.2.2.2.2
 subst e7
 exact ⟨Qkt.1 h1,Qkt.1 h2,Qkt.1 h3,Qkt.1 h5,by show 0≤ep∧ep≤_;omega,by show 0≤ag∧ag≤_;omega,by simp [Qka.pa],by intro x hx;simp [Qka.pa] at hx,by show 0≤lo∧lo≤1000000;omega,by show 0≤hi∧hi≤_;omega,by show tx.size≤12;rw [a,b];omega⟩
def Zlh (x:Int):List Int:=enc x.toNat
def Zjt:List Int→List Int
 | []=>[]
 | x::r=>Zlh x++Zjt r
theorem Ziq:∀ (a b:List Int),Zjt (a++b)=Zjt a++Zjt b
 | [],b=>rfl
 | x::r,b=>by show Zlh x++Zjt (r++b)=_;rw [Ziq r b,← List.append_assoc];rfl
theorem Znb:∀ (a:List Int),(Zjt a).length≤10*a.length
 | []=>by simp [Zjt]
 | x::r=>by
  show (Zlh x++Zjt r).length≤_
  rw [List.length_append,List.length_cons]
  have:=Znb r;have:=Qz6 x.toNat
  unfold Zlh
  omega
theorem Zq9:∀ (a:List Int),Qkf (Zjt a)
 | []=>by intro x hx;cases hx
 | x::r=>Qr1.2 ⟨Zhw _,Zq9 r⟩
def Zj7 (m:Qka):List Int:=([m.kd,m.fr,m.to,m.inc,m.ep,m.ag,(m.pa.length:Int)]++m.pa)++[m.lo,m.hi]
def body (m:Qka):List Int:=Zjt (Zj7 m)++Zme (Qzn m.tx)
def Zfu (m:Qka):List Int:=if Zoz m=true then body m++Zr7 (Zzw (body m)) else []
theorem Zkz {t:List Int} (h:Qkf t):Qkf (Zme t):=Qr1.2 ⟨Zhw _,h⟩
theorem Zw6 (m:Qka):Qkf (body m):=Qr1.2 ⟨Zq9 _,Zkz (Zb2 _)⟩
theorem OkM.nums {m:Qka} (h:OkM m):(Zj7 m).length=m.pa.length+9∧∀ x∈Zj7 m,0≤x∧x≤1073741824:=by
 refine ⟨by simp [Zj7,Qka.pa],?_⟩
 intro x hx
 unfold Zj7 at hx
 simp only [List.mem_append,List.mem_cons,List.not_mem_nil,or_false] at hx
 have:=h.kd;have:=h.fr;have:=h.to;have:=h.inc;have:=h.ep;have:=h.ag;have:=h.pl;have:=h.lo;have:=h.hi
 rcases hx with (hx | hx) | hx
 ·omega
 ·have:=h.pa x hx;omega
 ·omega
theorem OkM.body_len {m:Qka} (h:OkM m):(body m).length≤1000:=by
 unfold body Zme
 rw [List.length_append,List.length_append]
 have h1:=Znb (Zj7 m);have h2:=h.nums.1;have h3:=Qz6 (Qzn m.tx).length;have h4:=Qu6 m.tx
 have:=h.pl;have:=h.tx
 omega
theorem Zpi (m:Qka):Qkf (Zfu m):=by
 unfold Zfu;split
 ·exact Qr1.2 ⟨Zw6 m,Ztw _⟩
 ·intro x hx;cases hx
theorem Zo2 (s:Nat):(Zr7 s).length=4:=rfl
theorem Zvw (m:Qka):(Zfu m).length≤1004:=by
 unfold Zfu;split
 ·rename_i h;have:=(Z3w h).body_len;rw [List.length_append,Zo2];omega
 ·simp
theorem Zl6 (n:Nat) (tx:ByteArray) (ht:tx.size≤100) (l:List Int) (hl:∀ x∈l,0≤x∧x≤1073741824) (h6:l.length≤1000) (a b c d e f:Int) (p:List Int) (g j:Int):∀ (k m i:Nat) (xs:List Int),Qkf xs→i+k=l.length→k<m→xs.length+10*k≤100000 →
  Z5j n m (l.length:Int) (i:Int) a b c d e f p g j tx xs l=some ((xs++Zjt (l.drop i)++Zme (Qzn tx)++Zr7 (Zzw (xs++Zjt (l.drop i)++Zme (Qzn tx))),()),())
 | k,0,i,xs,_,_,h,_=>by omega
 | 0,m+1,i,xs,hb,hk,h,hx=>by
  show Z5k (Z5j n m) (l.length:Int) (i:Int) a b c d e f p g j tx xs l=_
  unfold Z5k
  have q:(xs++Zme (Qzn tx)).length≤200000:=by
   unfold Zme
   rw [List.length_append,List.length_append];have:=Qz6 (Qzn tx).length;have:=Qu6 tx;omega
  have o:Qkf (xs++Zme (Qzn tx)):=Qr1.2 ⟨hb,Zkz (Zb2 _)⟩
  have e0:xs++(enc tx.size++Qzn tx)=xs++Zme (Qzn tx):=by unfold Zme;rw [Qu6]
  rw [cdn (by omega),Zlz xs tx (by omega) (by omega),List.drop_eq_nil_of_le (by omega),e0]
  dsimp only [Option.bind_some]
  rw [X0w _ o (by omega)]
  dsimp only [Option.bind_some]
  rw [cbp (by omega),Zvj (Zxy o)]
  simp only [Zjt,List.append_nil]
 | k+1,m+1,i,xs,hb,hk,h,hx=>by
  show Z5k (Z5j n m) (l.length:Int) (i:Int) a b c d e f p g j tx xs l=_
  unfold Z5k
  have hi:i<l.length:=by omega
  have hv:=hl l[i] (List.getElem_mem hi)
  rw [cdp (by omega),Zb1,cdp (by omega),cdp (by omega),Zb1,cdp (by omega),cdp (by omega),Qkb,Qkq hi,List.drop_eq_getElem_cons hi]
  generalize l[i]=x at *
  obtain ⟨x,rfl⟩:∃ y:Nat,x=(y:Int):=⟨x.toNat,by omega⟩
  rw [Zl9 xs x (by omega) (by omega)]
  dsimp only [Option.bind_some]
  have:=Qz6 x
  rw [Qoq (by omega),Zl6 n tx ht l hl h6 a b c d e f p g j k m (i+1) (xs++enc x) (Qr1.2 ⟨hb,Zhw x⟩) (by omega) (by omega) (by rw [List.length_append];omega)]
  have e1:xs++enc x++Zjt (l.drop (i+1))=xs++Zjt ((x:Int)::l.drop (i+1)):=by rw [List.append_assoc];rfl
  rw [e1]
theorem Zub (m:Qka) (h6:m.pa.length≤1000000000):Zu1 m=some ((Zfu m,()),()):=by
 show Zi1 (Z5j 1099511627776 1099511627776) m=_
 unfold Zi1
 rw [Zv3 m h6]
 dsimp only [Option.bind_some]
 unfold Zfu
 cases hm:Zoz m with
 | false=>rfl
 | true=>
  have ho:=Z3w hm
  have hp:m.2.2.2.2.2.2.1.length≤10:=ho.pl
  have h1:=Zl6 1099511627776 m.tx (by have:=ho.tx;omega) (Zj7 m) ho.nums.2 (by have:=ho.nums.1;have:=ho.pl;omega) m.1 m.2.1 m.2.2.1 m.2.2.2.1 m.2.2.2.2.1 m.2.2.2.2.2.1 m.2.2.2.2.2.2.1 m.2.2.2.2.2.2.2.1 m.2.2.2.2.2.2.2.2.1 (Zj7 m).length 1099511627776 0 [] (by intro x hx;cases hx) (by omega) (by have:=ho.nums.1;have:=ho.pl;omega) (by have:=ho.nums.1;have:=ho.pl;simp;omega)
  rw [nt,if_pos rfl]
  simp only [cond_false]
  rw [cbp (by omega),cbp (by rw [List.length_append];simp;omega)]
  rw [List.drop_zero] at h1
  exact h1
def Qnk (o:Option (List Int)):Nat × Option (List Int):=
 match o with
 | none=>(0,none)
 | some l=>match dec l with
  | none=>(0,none)
  | some (v,n)=>(v,some (l.drop n))
def Zp5 (o:Option (List Int)):ByteArray × Option (List Int):=
 match o with
 | none=>(⟨#[]⟩,none)
 | some l=>match Zxz l with
  | none=>(⟨#[]⟩,none)
  | some (t,n)=>(Q58 t,some (l.drop n))
def Qu9:Nat→Option (List Int)→List Int→List Int × Option (List Int)
 | 0,o,a=>(a,o)
 | k+1,none,a=>(a,none)
 | k+1,some l,a=>Qu9 k (Qnk (some l)).2 (a++[((Qnk (some l)).1:Int)])
structure RS (s:List Int × IV) (o:Option (List Int)):Prop where
 by':Qkf s.1
 len:s.1.length≤1000000000
 is':match o with | some l=>s.1=l∧s.2=IV.nil | none=>∃ a,s.2=IV.mk 134 a
theorem Qvg {s:List Int × IV} {o:Option (List Int)} (h:RS s o) (b:ByteArray) :
  ∃ s',Qke s b=some ((((Qnk o).1:Int),()),(s',()))∧RS s' (Qnk o).2:=by
 obtain ⟨hb,hl,hs⟩:=h
 obtain ⟨l,e⟩:=s
 cases o with
 | none=>
  obtain ⟨a,rfl⟩:=hs
  exact ⟨_,rfl,hb,hl,a,rfl⟩
 | some l'=>
  obtain ⟨h1,h2⟩:=hs
  simp only at h1 h2 hb hl
  subst h1 h2
  have eT:=Zjn l hb (by omega)
  have e1:((l.length:Int)).toNat=l.length:=rfl
  unfold Qke Qnk
  dsimp only [IV.isNil]
  cases hd:dec l with
  | none=>
   rw [hd,Zt7] at eT
   rw [eT]
   dsimp only [Option.bind_some,nt,nf,cond_false,cond_true]
   rw [Zb1,Zb1]
   rw [cdp (by omega),cdp (by omega),cdp (by omega)]
   refine ⟨_,rfl,?_,?_,?_⟩
   ·rw [e1,List.take_length];exact hb
   ·rw [e1,List.take_length];exact hl
   ·exact ⟨_,rfl⟩
  | some p=>
   obtain ⟨v,n⟩:=p
   obtain ⟨h0,h1,h2,h3⟩:=Zqq hb hd
   rw [hd,Zsf] at eT
   rw [eT]
   dsimp only [Option.bind_some,nt,nf,cond_false,cond_true]
   rw [Zb1,Zb1]
   rw [cdp (by omega),cdp (by omega),cdp (by omega),e1,List.take_length,Qkb]
   exact ⟨_,rfl,Qyx hb n,by simp only [List.length_drop];omega,rfl,rfl⟩
theorem Zux {s:List Int × IV} {o:Option (List Int)} (h:RS s o) (b:ByteArray) :
  ∃ s',Qnf s b=some (((Zp5 o).1,()),(s',()))∧RS s' (Zp5 o).2:=by
 obtain ⟨hb,hl,hs⟩:=h
 obtain ⟨l,e⟩:=s
 cases o with
 | none=>
  obtain ⟨a,rfl⟩:=hs
  exact ⟨_,rfl,hb,hl,a,rfl⟩
 | some l'=>
  obtain ⟨h1,h2⟩:=hs
  simp only at h1 h2 hb hl
  subst h1 h2
  have eT:=Zki l hb (by omega)
  have e1:((l.length:Int)).toNat=l.length:=rfl
  unfold Qnf Zp5
  dsimp only [IV.isNil]
  cases hd:Zxz l with
  | none=>
   rw [hd,Zpn] at eT
   rw [eT]
   dsimp only [Option.bind_some,nt,nf,cond_false,cond_true]
   rw [Zb1,Zb1]
   rw [cdp (by omega),cdp (by omega),cdp (by omega)]
   refine ⟨_,rfl,?_,?_,?_⟩
   ·rw [e1,List.take_length];exact hb
   ·rw [e1,List.take_length];exact hl
   ·exact ⟨_,rfl⟩
  | some p=>
   obtain ⟨t,n⟩:=p
   obtain ⟨h0,h1,h2⟩:=Zxc hb hd
   rw [hd,Zpq] at eT
   rw [eT]
   dsimp only [Option.bind_some,nt,nf,cond_false,cond_true]
   rw [Zb1,Zb1]
   rw [cdp (by omega),cdp (by omega),cdp (by omega),e1,List.take_length,Qkb]
   exact ⟨_,rfl,Qyx hb n,by simp only [List.length_drop];omega,rfl,rfl⟩
def Zp2 (o:Option (List Int)):(Int × Int × ByteArray) × Option (List Int):=
 let a:=Qnk o;let b:=Qnk a.2;let t:=Zp5 b.2
 (((a.1:Int),(b.1:Int),t.1),t.2)
theorem Zpz {s:List Int × IV} {o:Option (List Int)} (h:RS s o) (w1 w2 w3:ByteArray) {R:Type} (K:Int→Int→ByteArray→(List Int × IV)→Option R) :
  ∃ s',(Option.bind (Qke s w1) fun (a:(Int × Unit) × (Zma × Unit))=>
 Option.bind (Qke a.2.1 w2) fun (b:(Int × Unit) × (Zma × Unit))=>
 Option.bind (Qnf b.2.1 w3) fun (c:Zwm × (Zma × Unit))=>
 K a.1.1 b.1.1 c.1.1 c.2.1)=K (Zp2 o).1.1 (Zp2 o).1.2.1 (Zp2 o).1.2.2 s'∧RS s' (Zp2 o).2:=by
 obtain ⟨s1,e1,h1⟩:=Qvg h w1
 obtain ⟨s2,e2,h2⟩:=Qvg h1 w2
 obtain ⟨s3,e3,h3⟩:=Zux h2 w3
 refine ⟨s3,?_,h3⟩
 rw [e1];dsimp only [Option.bind_some]
 rw [e2];dsimp only [Option.bind_some]
 rw [e3];rfl
theorem Zcv (n:Nat) (a b c d e f g j:Int) (tx:ByteArray):∀ (k m:Nat) (s:List Int × IV) (o:Option (List Int)) (i:List Int),RS s o→k<m→i.length+k≤1073741824 →
  ∃ s',Qp5 n m (k:Int) s.1 s.2 a b c d e f g j tx i =
   some (((a,b,c,d,e,f,(Qu9 k o i).1,(Zp2 (Qu9 k o i).2).1.1,(Zp2 (Qu9 k o i).2).1.2.1,(Zp2 (Qu9 k o i).2).1.2.2),()),(s',()))∧RS s' (Zp2 (Qu9 k o i).2).2
 | k,0,s,o,i,_,h,_=>by omega
 | 0,m+1,s,o,i,hs,h,hl=>by
  show ∃ s',Qra (Qp5 n m) ((0:Nat):Int) s.1 s.2 a b c d e f g j tx i=_∧_
  unfold Qra
  rw [cdn (by omega)]
  exact Zpz hs _ _ _ (fun x y z w=>some (((a,b,c,d,e,f,i,x,y,z),()),(w,())))
 | k+1,m+1,s,o,i,hs,h,hl=>by
  show ∃ s',Qra (Qp5 n m) ((k+1:Nat):Int) s.1 s.2 a b c d e f g j tx i=_∧_
  unfold Qra
  rw [cdp (by omega)]
  cases o with
  | none=>
   obtain ⟨x,hx⟩:=hs.is'
   have e0:(s.1,s.2)=s:=rfl
   rw [hx]
   simp only [IV.isNil,cond_false]
   have:=Zpz hs (⟨#[108,111]⟩:ByteArray) (⟨#[104,105]⟩:ByteArray) (⟨#[116,101,120,116]⟩:ByteArray) (fun x y z w=>some (((a,b,c,d,e,f,i,x,y,z),()),(w,())))
   have e1:s=(s.1,IV.mk 134 x):=by rw [← hx]
   rw [e1] at this
   exact this
  | some l=>
   obtain ⟨h1,h2⟩:=hs.is'
   obtain ⟨s1,e1,r1⟩:=Qvg hs (⟨#[115,116,101,112]⟩:ByteArray)
   have e0:s=(s.1,s.2):=rfl
   rw [e0] at e1
   rw [e1]
   rw [h2]
   simp only [IV.isNil,cond_true,Option.bind_some]
   rw [cbp (by omega),Qor (by omega) (by omega)]
   have ek:((k+1:Nat):Int) - 1=(k:Int):=by omega
   rw [ek]
   exact Zcv n a b c d e f g j tx k m s1 _ _ r1 (by omega) (by rw [List.length_append,List.length_singleton];omega)
theorem X19 (n m:Nat) (v:Int) (w:Bool) (l:List Int) (e:IV) (a b c d x f g j:Int) (tx:ByteArray) (h:List Int) :
  Qx8 n (m+1) v w l e a b c d x f g j tx h=Qp5 n (m+1) v l e a b c d x f g j tx h:=rfl
def Zz7 (l:List Int):Qka × Option (List Int):=
 let a1:=Qnk (some l);let a2:=Qnk a1.2;let a3:=Qnk a2.2;let a4:=Qnk a3.2;let a5:=Qnk a4.2;let a6:=Qnk a5.2;let a7:=Qnk a6.2
 let p:=if a7.1>64 then ([],none) else Qu9 a7.1 a7.2 []
 let e:=Zp2 p.2
 (((a1.1:Int),(a2.1:Int),(a3.1:Int),(a4.1:Int),(a5.1:Int),(a6.1:Int),p.1,e.1.1,e.1.2.1,e.1.2.2),e.2)
theorem Zuw:∀ (k:Nat) (a:List Int),Qu9 k none a=(a,none)
 | 0,_=>rfl
 | _+1,_=>rfl
theorem Zpl:∀ (k:Nat) (o:Option (List Int)) (a:List Int),(Qu9 k o a).1.length≤a.length+k
 | 0,o,a=>by simp [Qu9]
 | k+1,none,a=>by simp [Qu9]
 | k+1,some l,a=>by
  have:=Zpl k (Qnk (some l)).2 (a++[((Qnk (some l)).1:Int)])
  rw [List.length_append,List.length_singleton] at this
  show (Qu9 k (Qnk (some l)).2 (a++[((Qnk (some l)).1:Int)])).1.length≤_
  omega
theorem Zze (l:List Int):(Zz7 l).1.pa.length≤64:=by
 unfold Zz7 Qka.pa
 dsimp only
 split
 ·simp
 ·rename_i h
  have:=Zpl (Qnk (Qnk (Qnk (Qnk (Qnk (Qnk (Qnk (some l)).2).2).2).2).2).2).1 (Qnk (Qnk (Qnk (Qnk (Qnk (Qnk (Qnk (some l)).2).2).2).2).2).2).2 []
  simp only [List.length_nil] at this
  omega
theorem Zx3 (o:Option (List Int)) (h:∀ l,o=some l→Qkf l):(Qnk o).1≤1073741824:=by
 unfold Qnk
 split
 ·simp
 ·rename_i l
  split
  ·simp
  ·rename_i v n hd
   exact (Zqq (h l rfl) hd).2.2.2
theorem RS.byo {s:List Int × IV} {o:Option (List Int)} (h:RS s o):∀ l,o=some l→Qkf l:=by
 intro l e;subst e
 obtain ⟨h1,h2⟩:=h.is'
 rw [← h1];exact h.by'
theorem Zwn (l:List Int) (hb:Qkf l) (hl:l.length≤1000000000) :
  ∃ s',Z95 (l,IV.nil)=some (((Zz7 l).1,()),(s',()))∧RS s' (Zz7 l).2:=by
 have h0:RS (l,IV.nil) (some l):=⟨hb,hl,rfl,rfl⟩
 show ∃ s',Qy8 (Qp5 1099511627776 1099511627776) (Qx8 1099511627776 1099511627776) (l,IV.nil)=_∧_
 unfold Qy8 Zz7
 dsimp only
 obtain ⟨s1,e1,h1⟩:=Qvg h0 (⟨#[107,105,110,100]⟩:ByteArray)
 rw [e1];dsimp only [Option.bind_some]
 obtain ⟨s2,e2,h2⟩:=Qvg h1 (⟨#[102,114,111,109]⟩:ByteArray)
 rw [e2];dsimp only [Option.bind_some]
 obtain ⟨s3,e3,h3⟩:=Qvg h2 (⟨#[116,111]⟩:ByteArray)
 rw [e3];dsimp only [Option.bind_some]
 obtain ⟨s4,e4,h4⟩:=Qvg h3 (⟨#[105,110,99]⟩:ByteArray)
 rw [e4];dsimp only [Option.bind_some]
 obtain ⟨s5,e5,h5⟩:=Qvg h4 (⟨#[101,112,111,99,104]⟩:ByteArray)
 rw [e5];dsimp only [Option.bind_some]
 obtain ⟨s6,e6,h6⟩:=Qvg h5 (⟨#[97,103,101]⟩:ByteArray)
 rw [e6];dsimp only [Option.bind_some]
 obtain ⟨s7,e7,h7⟩:=Qvg h6 (⟨#[119,97,121]⟩:ByteArray)
 rw [e7];dsimp only [Option.bind_some]
 generalize hq:Qnk (Qnk (Qnk (Qnk (Qnk (Qnk (Qnk (some l)).2).2).2).2).2).2=q at *
 have hv:q.1≤1073741824:=by rw [← hq];exact Zx3 _ h6.byo
 by_cases hc:q.1>64
 ·rw [cdp (by omega),if_pos hc]
  have hn:RS (s7.1,IV.mk 134 [.str (⟨#[119,97,121]⟩:ByteArray)]) none:=⟨h7.by',h7.len,_,rfl⟩
  have:=Zcv 1099511627776 ((Qnk (some l)).1:Int) ((Qnk (Qnk (some l)).2).1:Int) ((Qnk (Qnk (Qnk (some l)).2).2).1:Int) ((Qnk (Qnk (Qnk (Qnk (some l)).2).2).2).1:Int) ((Qnk (Qnk (Qnk (Qnk (Qnk (some l)).2).2).2).2).1:Int) ((Qnk (Qnk (Qnk (Qnk (Qnk (Qnk (some l)).2).2).2).2).2).1:Int) 0 0 zB q.1 1099511627776 _ none [] hn (by omega) (by simp;omega)
  rw [Zuw] at this
  exact this
 ·rw [cdn (by omega),if_neg hc,X19 1099511627776 1099511627775]
  exact Zcv 1099511627776 ((Qnk (some l)).1:Int) ((Qnk (Qnk (some l)).2).1:Int) ((Qnk (Qnk (Qnk (some l)).2).2).1:Int) ((Qnk (Qnk (Qnk (Qnk (some l)).2).2).2).1:Int) ((Qnk (Qnk (Qnk (Qnk (Qnk (some l)).2).2).2).2).1:Int) ((Qnk (Qnk (Qnk (Qnk (Qnk (Qnk (some l)).2).2).2).2).2).1:Int) 0 0 zB q.1 1099511627776 s7 q.2 [] h7 (by omega) (by simp;omega)
theorem Qqr (x:Int) (r:List Int) (h:0≤x∧x≤1073741824):Qnk (some (Zlh x++r))=(x.toNat,some r):=by
 unfold Qnk Zlh
 simp only
 rw [Zy7 _ _ (by omega)]
 simp only [List.drop_left]
theorem Zk6:∀ (p a r:List Int),(∀ x∈p,0≤x∧x≤1073741824)→Qu9 p.length (some (Zjt p++r)) a=(a++p,some r)
 | [],a,r,_=>by simp [Qu9,Zjt]
 | x::p,a,r,h=>by
  have hx:=h x (List.mem_cons_self ..)
  show Qu9 p.length (Qnk (some ((Zlh x++Zjt p)++r))).2 (a++[((Qnk (some ((Zlh x++Zjt p)++r))).1:Int)])=_
  rw [List.append_assoc,Qqr _ _ hx]
  simp only
  rw [Zk6 p _ r (fun y hy=>h y (List.mem_cons_of_mem _ hy)),Int.toNat_of_nonneg hx.1,List.append_assoc];rfl
theorem Zsb (t:ByteArray) (r:List Int) (h:t.size≤1000):Zp5 (some (Zme (Qzn t)++r))=(t,some r):=by
 unfold Zp5
 simp only
 rw [Zz5 _ _ (by rw [Qu6];omega)]
 simp only [List.drop_left,Zrn]
theorem Zxn (m:Qka) (h:OkM m) (r:List Int):Zz7 (body m++r)=(m,some r):=by
 have h1:=h.kd;have h2:=h.fr;have h3:=h.to;have h4:=h.inc;have h5:=h.ep;have h6:=h.ag;have h7:=h.pl;have h8:=h.pa;have h9:=h.lo;have a:=h.hi;have b:=h.tx
 obtain ⟨kd,fr,to,inc,ep,ag,pa,lo,hi,tx⟩:=m
 simp only [Qka.kd,Qka.fr,Qka.to,Qka.inc,Qka.ep,Qka.ag,Qka.pa,Qka.lo,Qka.hi,Qka.tx] at h1 h2 h3 h4 h5 h6 h7 h8 h9 a b
 have e:body (kd,fr,to,inc,ep,ag,pa,lo,hi,tx)++r =
   Zlh kd++(Zlh fr++(Zlh to++(Zlh inc++(Zlh ep++(Zlh ag++(Zlh (pa.length:Int)++(Zjt pa++(Zlh lo++(Zlh hi++(Zme (Qzn tx)++r)))))))))):=by
  unfold body Zj7
  rw [Ziq,Ziq]
  simp only [Zjt,List.append_nil,List.append_assoc,Qka.kd,Qka.fr,Qka.to,Qka.inc,Qka.ep,Qka.ag,Qka.pa,Qka.lo,Qka.hi,Qka.tx]
 rw [e]
 unfold Zz7
 dsimp only
 rw [Qqr kd _ (by omega)];dsimp only
 rw [Qqr fr _ (by omega)];dsimp only
 rw [Qqr to _ (by omega)];dsimp only
 rw [Qqr inc _ (by omega)];dsimp only
 rw [Qqr ep _ (by omega)];dsimp only
 rw [Qqr ag _ (by omega)];dsimp only
 rw [Qqr (pa.length:Int) _ (by omega)];dsimp only
 rw [Qkb,if_neg (by omega),Zk6 pa [] _ (fun x hx=>by have:=h8 x hx;omega)]
 unfold Zp2
 dsimp only
 rw [Qqr lo _ (by omega)];dsimp only
 rw [Qqr hi _ (by omega)];dsimp only
 rw [Zsb tx r (by omega)];dsimp only
 rw [Int.toNat_of_nonneg (by omega),Int.toNat_of_nonneg (by omega),Int.toNat_of_nonneg (by omega),Int.toNat_of_nonneg (by omega),Int.toNat_of_nonneg (by omega),Int.toNat_of_nonneg (by omega),Int.toNat_of_nonneg (by omega),Int.toNat_of_nonneg (by omega)]
 rfl
def Zjz (b:List Int):Option Qka:=
 if b.length<4 then none else
 match Zz7 (b.take (b.length - 4)) with
 | (m,some _)=>if Zfu m=b then some m else none
 | (_,none)=>none
theorem Ztl {m:Qka} (h:4≤(Zfu m).length):Zoz m=true:=by
 unfold Zfu at h
 split at h
 ·assumption
 ·simp at h
theorem Zwz {m:Qka} (h:Zoz m=true):Zjz (Zfu m)=some m:=by
 have e:Zfu m=body m++Zr7 (Zzw (body m)):=by unfold Zfu;rw [if_pos h]
 unfold Zjz
 have el:(Zfu m).length=(body m).length+4:=by rw [e,List.length_append,Zo2]
 have e2:(Zfu m).take ((Zfu m).length - 4)=body m++[]:=by
  rw [el,e,show (body m).length+4 - 4=(body m).length by omega,List.take_left,List.append_nil]
 rw [e2,Zxn m (Z3w h),if_neg (by omega)]
 simp only
 rw [if_pos trivial]
theorem Z9n {b:List Int} {m:Qka} (h:Zjz b=some m):Zoz m=true∧b=Zfu m:=by
 unfold Zjz at h
 split at h
 ·cases h
 ·rename_i hl
  split at h
  ·split at h
   ·rename_i h2
    have h3:_=m:=Option.some.inj h
    subst h3
    exact ⟨Ztl (by rw [h2];omega),h2.symm⟩
   ·cases h
  ·cases h
theorem Zx0 {R:Type} (i:DecidableEq R) (a:Option R):@Qa5 R i a a=a:=if_pos rfl
def X01:Qka:=Z15
def Zup (o:Option Qka):(Qka × Bool × Unit) × Unit:=
 match o with
 | some m=>((m,true,()),())
 | none=>((X01,false,()),())
theorem Zdp (b:List Int) (hb:Qkf b) (hl:b.length≤1000000000):Zjf b=some (Zup (Zjz b)):=by
 unfold Zjf Z89 Zjz
 by_cases h4:b.length<4
 ·rw [cdp (by omega),if_pos h4];rfl
 rw [cdn (by omega),if_neg h4,Qor (by omega) (by omega),Zb1,cdp (by omega),cdp (by omega)]
 have e1:((b.length:Int) - 4).toNat=b.length - 4:=by omega
 rw [e1,List.drop_zero]
 obtain ⟨s',h1,h2⟩:=Zwn (b.take (b.length - 4)) (Zee hb _) (by rw [List.length_take];omega)
 rw [h1]
 have h3:=Zze (b.take (b.length - 4))
 generalize Zz7 (b.take (b.length - 4))=q at *
 obtain ⟨m,o⟩:=q
 simp only at h2 h3
 dsimp only [Option.bind_some]
 rw [Zub m (by omega)]
 dsimp only [Option.bind_some]
 rw [Zw8 _ _ (by have:=Zvw m;omega) hl]
 cases o with
 | none=>
  obtain ⟨a,ha⟩:=h2.is'
  rw [ha]
  simp only [IV.is,beq_self_eq_true,cond_true]
  rfl
 | some l=>
  obtain ⟨h5,h6⟩:=h2.is'
  rw [h6]
  simp only [IV.is,cond_false,Option.bind_some]
  have hd:(List.isEmpty (Zfu m))=true→decide (Zfu m=b)=false:=by
   intro he
   rw [List.isEmpty_iff] at he
   rw [decide_eq_false]
   intro e
   rw [he] at e
   rw [← e] at h4
   simp at h4
  cases d:List.isEmpty (Zfu m) with
  | true=>
   rw [hd d]
   have c:=hd d
   rw [decide_eq_false_iff_not] at c
   simp only [nt,nf,cond_true,cond_false]
   rw [Zx0,if_neg c]
   rfl
  | false=>
   simp only [nt,nf,cond_true,cond_false]
   by_cases he:Zfu m=b
   ·rw [decide_eq_true he,if_pos he];rfl
   ·rw [decide_eq_false he,if_neg he];rfl
theorem X1a {α:Type} {x y:Int} {a b:α} (h:x≠y):(bif !(x==y) then a else b)=a:=by rw [beq_eq_false_iff_ne.2 h];rfl
structure Zce (s:List Int × Int):Prop where
 by':Qkf s.1
 len:s.1.length≤1000000000
 at':0≤s.2∧s.2≤(s.1.length:Int)
theorem Qne {s:List Int × Int} (h:Zce s) (m:Int) (hm:1≤m∧m≤1000) :
  ∃ (r:Nat) (s':List Int × Int),Qk8 s m=some (((r:Int),()),(s',()))∧(r:Int)<m∧Zce s':=by
 obtain ⟨hb,hl,ha⟩:=h
 obtain ⟨l,n⟩:=s
 simp only at hb hl ha
 unfold Qk8
 by_cases h1:n ≥ (l.length:Int)
 ·rw [cdp h1]
  exact ⟨0,(l,n),rfl,by omega,hb,hl,ha⟩
 ·rw [cdn h1,cdn (show ¬ m<1 by omega)]
  dsimp only
  rw [Qor (x:=n+1) (by omega) (by omega),Qor (x:=n+1 - 1) (by omega) (by omega),Zb1,cdp (by omega),cdp (by omega),X1a (by omega)]
  have hx:=Zoj hb (i:=(n+1 - 1).toNat) (by omega)
  generalize List.getD l (n+1 - 1).toNat 0=x at *
  rw [Qor (x:=x) (by omega) (by omega),Int.tmod_eq_emod_of_nonneg hx.1]
  have h5:=Int.emod_nonneg x (show m≠0 by omega)
  have h6:=Int.emod_lt_of_pos x (show 0<m by omega)
  refine ⟨(x % m).toNat,(l,n+1),?_,by omega,hb,hl,by show 0≤n+1;omega,by show n+1≤(l.length:Int);omega⟩
  rw [Int.toNat_of_nonneg h5]
theorem Zyi {l:List Int} (hb:Qkf l) (hl:l.length≤1000000000):Zce (l,0):=⟨hb,hl,by show (0:Int)≤0;omega,by show (0:Int)≤_;omega⟩
theorem Zyf {s:List Int × Int} (h:Zce s):∃ (t:ByteArray) (s':List Int × Int),Qmc s=some ((t,()),(s',()))∧t.size≤12∧Zce s':=by
 obtain ⟨r,s',e,hr,hs⟩:=Qne h 5 (by omega)
 unfold Qmc
 rw [e];dsimp only [Option.bind_some]
 rw [Zb1,cdp (by omega),cdp (by omega),Zb1,cdp (by omega),cdp (by omega),Qkb]
 refine ⟨_,s',rfl,?_,hs⟩
 have:r=0∨r=1∨r=2∨r=3∨r=4:=by omega
 rcases this with rfl | rfl | rfl | rfl | rfl<;>decide
theorem Zlk (n:Nat) (p:List Int) (h6:p.length≤1000000000):∀ (k m i:Nat),i+k=p.length→k<m →
  Qnr n m p (i:Int)=some ((Zim (p.take i) (p.drop i),()),())
 | k,0,i,_,h=>by omega
 | 0,m+1,i,hk,h=>by
  show Qo0 (Qnr n m) p (i:Int)=_
  unfold Qo0
  rw [cdn (by omega),List.drop_eq_nil_of_le (by omega)];rfl
 | k+1,m+1,i,hk,h=>by
  have hi:i<p.length:=by omega
  show Qo0 (Qnr n m) p (i:Int)=_
  unfold Qo0
  have c1:decide ((0:Int)≤(i:Int))=true:=decide_eq_true (by omega)
  have c2:decide ((i:Int)<(p.length:Int))=true:=decide_eq_true (by omega)
  have c3:decide ((i:Int)≤(p.length:Int))=true:=decide_eq_true (by omega)
  simp only [c1,c2,c3,Bool.and_self,cond_true]
  rw [Qkb,Qkq hi,List.drop_zero,Zzr _ _ (by rw [List.length_take];omega),Qoq (by omega)]
  dsimp only [Option.bind_some]
  rw [Zlk n p h6 k m (i+1) (by omega) (by omega),List.drop_eq_getElem_cons hi,Zlf hi]
  conv=>rhs;unfold Zim
  generalize p[i]=x
  by_cases h1:x<1
  ·rw [cdp h1]
   have:inR 1 8 x=false:=by unfold inR;rw [decide_eq_false (by omega)];rfl
   rw [this];rfl
  ·rw [cdn h1]
   by_cases h2:x>8
   ·rw [cdp h2]
    have:inR 1 8 x=false:=by unfold inR;rw [decide_eq_false (show ¬ x≤8 by omega),Bool.and_false]
    rw [this];rfl
   ·rw [cdn h2]
    have:inR 1 8 x=true:=Qkt.2 (by omega)
    rw [this]
    cases decide (x∈p.take i)<;>simp
theorem Zdt (p:List Int) (h6:p.length≤1000000000):Qpw p=some ((Qqz p,()),()):=by
 show Qt6 (Qnr 1099511627776 1099511627776) p=_
 unfold Qt6 Qqz
 by_cases h1:p.length<1
 ·rw [cdp (by omega),decide_eq_false (show ¬ 1≤p.length by omega)];rfl
 rw [cdn (by omega)]
 by_cases h2:p.length>10
 ·rw [cdp (by omega),decide_eq_false (show ¬ p.length≤10 by omega)];simp
 rw [cdn (by omega),cdp (by omega),Z8q]
 by_cases h3:List.getD p 0 0=1
 ·rw [if_pos h3]
  have:=Zlk 1099511627776 p h6 p.length 1099511627776 0 (by omega) (by omega)
  rw [List.take_zero,List.drop_zero] at this
  rw [decide_eq_true (show 1≤p.length by omega),decide_eq_true (show p.length≤10 by omega),decide_eq_true h3]
  simp only [Bool.true_and]
  exact this
 ·rw [if_neg h3,decide_eq_false h3];simp
def Qn0 (p:List Int) (x:Int):List Int × Bool:=if Qqz (p++[x])=true then (p++[x],true) else ([],false)
theorem Z5s (p:List Int) (x:Int) (h6:p.length≤100000000):Qo7 p x=some (((Qn0 p x).1,(Qn0 p x).2,()),()):=by
 unfold Qo7 Qn0
 rw [List.nil_append,cbp (by omega),cbp (by omega),Zdt _ (by rw [List.length_append];simp;omega)]
 dsimp only [Option.bind_some]
 cases Qqz (p++[x])<;>rfl
theorem Zkp (n:Nat):∀ (k m:Nat) (s:List Int × Int) (p:List Int),Zce s→Qqz p=true→k<m→k≤1000000 →
  ∃ (q:List Int) (s':List Int × Int),Qm9 n m (k:Int) s.1 s.2 p=some ((q,()),(s',()))∧Qqz q=true∧Zce s'
 | k,0,s,p,_,_,h,_=>by omega
 | 0,m+1,s,p,hs,hp,h,_=>by
  show ∃ q s',Qm3 (Qm9 n m) ((0:Nat):Int) s.1 s.2 p=_∧_
  unfold Qm3
  rw [cdn (by omega)]
  exact ⟨p,s,rfl,hp,hs⟩
 | k+1,m+1,s,p,hs,hp,h,hm=>by
  show ∃ q s',Qm3 (Qm9 n m) ((k+1:Nat):Int) s.1 s.2 p=_∧_
  unfold Qm3
  obtain ⟨r,s1,e,hr,h1⟩:=Qne hs 7 (by omega)
  have e0:s=(s.1,s.2):=rfl
  rw [e0] at e
  rw [cdp (by omega),e]
  dsimp only [Option.bind_some]
  rw [Z5s p _ (by have:=(Qqb hp).1;omega)]
  dsimp only [Option.bind_some]
  have ek:wJ (((k+1:Nat):Int) - 1)=(k:Int):=by rw [Qor (by omega) (by omega)];omega
  unfold Qn0
  cases hq:Qqz (p++[wJ (2+(r:Int))]) with
  | true=>
   rw [if_pos rfl]
   rw [ek]
   exact Zkp n k m s1 _ h1 hq (by omega) (by omega)
  | false=>
   rw [if_neg (by decide)]
   rw [ek]
   exact Zkp n k m s1 _ h1 hp (by omega) (by omega)
theorem Zr3 {s:List Int × Int} (h:Zce s):∃ (p:List Int) (s':List Int × Int),Qkn s=some ((p,()),(s',()))∧Qqz p=true∧Zce s':=by
 show ∃ p s',Qql (Qm9 1099511627776 1099511627776) s=_∧_
 unfold Qql
 obtain ⟨r,s1,e,hr,h1⟩:=Qne h 4 (by omega)
 rw [e];dsimp only [Option.bind_some]
 exact Zkp 1099511627776 r 1099511627776 s1 [1] h1 (by decide) (by omega) (by omega)
def Zxw (m:Qka):Prop:=∀ x∈Zj7 m,0≤x∧x<128
noncomputable def Zr8 (to fr:Int) (s:List Int × Int):Option ((Qka × Unit) × ((List Int × Int) × Unit)):=
 Option.bind (Qk8 s 9) fun (r2:(Int × Unit) × (Z4n × Unit))=>
 Option.bind (Qk8 r2.2.1 3) fun (r3:(Int × Unit) × (Z4n × Unit))=>
 bif (wJ (1+r2.1.1))==2 then
  Option.bind (Qk8 r3.2.1 20) fun (r4:(Int × Unit) × (Z4n × Unit))=>
  Option.bind (Qk8 r4.2.1 25) fun (r5:(Int × Unit) × (Z4n × Unit))=>
  Option.bind (Qkn r5.2.1) fun (r6:((List Int) × Unit) × (Z4n × Unit))=>
  Option.bind (Qk8 r6.2.1 9) fun (r7:(Int × Unit) × (Z4n × Unit))=>
  some (((wJ (1+r2.1.1),fr,to,wJ (1+r3.1.1),r4.1.1,r5.1.1,r6.1.1,r7.1.1,0,zB),()),(r7.2.1,()))
 else
 bif (wJ (1+r2.1.1))==5 then
  Option.bind (Qk8 r3.2.1 20) fun (r8:(Int × Unit) × (Z4n × Unit))=>
  Option.bind (Qk8 r8.2.1 25) fun (r9:(Int × Unit) × (Z4n × Unit))=>
  Option.bind (Qkn r9.2.1) fun (c:((List Int) × Unit) × (Z4n × Unit))=>
  Option.bind (Qk8 c.2.1 12) fun (d:(Int × Unit) × (Z4n × Unit))=>
  some (((wJ (1+r2.1.1),fr,to,wJ (1+r3.1.1),r8.1.1,r9.1.1,c.1.1,0,d.1.1,zB),()),(d.2.1,()))
 else
 bif (wJ (1+r2.1.1))==7 then
  Option.bind (Qk8 r3.2.1 12) fun (e:(Int × Unit) × (Z4n × Unit))=>
  Option.bind (Qmc e.2.1) fun (f:Zwm × (Z4n × Unit))=>
  some (((wJ (1+r2.1.1),fr,to,wJ (1+r3.1.1),0,0,[],wJ (1+e.1.1),0,f.1.1),()),(f.2.1,()))
 else
 bif (wJ (1+r2.1.1))==8 then
  bif (wJ (1+r2.1.1))==8 then
  Option.bind (Qk8 r3.2.1 9) fun (a:(Int × Unit) × (Z4n × Unit))=>
  Option.bind (Qk8 a.2.1 6) fun (g:(Int × Unit) × (Z4n × Unit))=>
  some (((wJ (1+r2.1.1),fr,to,wJ (1+r3.1.1),0,0,[],wJ (1+a.1.1),wJ ((wJ (1+a.1.1))+g.1.1),zB),()),(g.2.1,()))
  else
  some (((wJ (1+r2.1.1),fr,to,wJ (1+r3.1.1),0,0,[],0,0,zB),()),(r3.2.1,()))
 else
 bif (wJ (1+r2.1.1))==9 then
  Option.bind (Qk8 r3.2.1 9) fun (b:(Int × Unit) × (Z4n × Unit))=>
  Option.bind (Qk8 b.2.1 6) fun (h:(Int × Unit) × (Z4n × Unit))=>
  some (((wJ (1+r2.1.1),fr,to,wJ (1+r3.1.1),0,0,[],wJ (1+b.1.1),wJ ((wJ (1+b.1.1))+h.1.1),zB),()),(h.2.1,()))
 else
  some (((wJ (1+r2.1.1),fr,to,wJ (1+r3.1.1),0,0,[],0,0,zB),()),(r3.2.1,()))
theorem Zxu (s:List Int × Int) (to:Int):Qkx s to=Option.bind (Qk8 s 8) fun (r1:(Int × Unit) × (Z4n × Unit))=>
  bif (wJ (1+r1.1.1))==to then Zr8 to (wJ (1+(Int.tmod to 8))) r1.2.1 else Zr8 to (wJ (1+r1.1.1)) r1.2.1:=rfl
theorem Zjv {m:Qka} (h1:inR 1 9 m.1=true) (h2:inR 1 8 m.2.1=true) (h3:inR 1 8 m.2.2.1=true) (h4:m.2.1≠m.2.2.1) (h5:inR 1 1073741824 m.2.2.2.1=true) (h6:Qyr m=true):Zoz m=true:=by
 unfold Zoz;rw [h1,h2,h3,h5,h6,bne_iff_ne.2 h4];rfl
theorem Zps (to fr:Int) (g:1≤to∧to≤8) (f:1≤fr∧fr≤8) (d:fr≠to) {s:List Int × Int} (h:Zce s) :
  ∃ (m:Qka) (s':List Int × Int),Zr8 to fr s=some ((m,()),(s',()))∧Zoz m=true∧m.to=to∧Zxw m∧Zce s':=by
 unfold Zr8
 obtain ⟨k,s2,e2,hk,h2⟩:=Qne h 9 (by omega)
 rw [e2];dsimp only [Option.bind_some]
 obtain ⟨i,s3,e3,hi,h3⟩:=Qne h2 3 (by omega)
 rw [e3];dsimp only [Option.bind_some]
 rw [Qor (x:=1+(k:Int)) (by omega) (by omega),Qor (x:=1+(i:Int)) (by omega) (by omega)]
 have q1:inR 1 9 (1+(k:Int))=true:=Qkt.2 (by omega)
 have q2:inR 1 8 fr=true:=Qkt.2 f
 have q3:inR 1 8 to=true:=Qkt.2 g
 have q5:inR 1 1073741824 (1+(i:Int))=true:=Qkt.2 (by omega)
 have Zuj:∀ (e a:Int) (p:List Int) (lo hi:Int) (tx:ByteArray),0≤e∧e<128→0≤a∧a<128→p.length≤10→(∀ x∈p,1≤x∧x≤8)→0≤lo∧lo<128→0≤hi∧hi<128→Zxw (1+(k:Int),fr,to,1+(i:Int),e,a,p,lo,hi,tx):=by
  intro e a p lo hi tx a1 a2 a3 a4 a5 a6 x hx
  unfold Zj7 at hx
  simp only [List.mem_append,List.mem_cons,List.not_mem_nil,or_false,Qka.kd,Qka.fr,Qka.to,Qka.inc,Qka.ep,Qka.ag,Qka.pa,Qka.lo,Qka.hi] at hx
  rcases hx with (hx | hx) | hx
  ·omega
  ·have:=a4 x hx;omega
  ·omega
 simp only [ceq]
 by_cases k2:1+(k:Int)=2
 ·rw [if_pos k2]
  obtain ⟨a,s4,e4,ha,h4⟩:=Qne h3 20 (by omega)
  rw [e4];dsimp only [Option.bind_some]
  obtain ⟨b,s5,e5,hb,h5⟩:=Qne h4 25 (by omega)
  rw [e5];dsimp only [Option.bind_some]
  obtain ⟨p,s6,e6,hp,h6⟩:=Zr3 h5
  rw [e6];dsimp only [Option.bind_some]
  obtain ⟨c,s7,e7,hc,h7⟩:=Qne h6 9 (by omega)
  rw [e7];dsimp only [Option.bind_some]
  refine ⟨_,s7,rfl,Zjv q1 q2 q3 d q5 ?_,rfl,Zuj _ _ _ _ _ _ (by omega) (by omega) (Qqb hp).1 (Qqb hp).2 (by omega) (by omega),h7⟩
  unfold Qyr
  rw [if_pos k2]
  simp only [Bool.and_eq_true,Z00,Qkt,Qka.ep,Qka.ag,Qka.pa,Qka.lo]
  exact ⟨⟨by omega,by omega⟩,hp,by omega,rfl⟩
 rw [if_neg k2]
 by_cases k5:1+(k:Int)=5
 ·rw [if_pos k5]
  obtain ⟨a,s4,e4,ha,h4⟩:=Qne h3 20 (by omega)
  rw [e4];dsimp only [Option.bind_some]
  obtain ⟨b,s5,e5,hb,h5⟩:=Qne h4 25 (by omega)
  rw [e5];dsimp only [Option.bind_some]
  obtain ⟨p,s6,e6,hp,h6⟩:=Zr3 h5
  rw [e6];dsimp only [Option.bind_some]
  obtain ⟨c,s7,e7,hc,h7⟩:=Qne h6 12 (by omega)
  rw [e7];dsimp only [Option.bind_some]
  refine ⟨_,s7,rfl,Zjv q1 q2 q3 d q5 ?_,rfl,Zuj _ _ _ _ _ _ (by omega) (by omega) (Qqb hp).1 (Qqb hp).2 (by omega) (by omega),h7⟩
  unfold Qyr
  rw [if_neg k2,if_pos k5]
  simp only [Bool.and_eq_true,Z00,Qkt,Qka.ep,Qka.ag,Qka.pa,Qka.hi]
  exact ⟨⟨by omega,by omega⟩,hp,by omega,rfl⟩
 rw [if_neg k5]
 by_cases k7:1+(k:Int)=7
 ·rw [if_pos k7]
  obtain ⟨a,s4,e4,ha,h4⟩:=Qne h3 12 (by omega)
  rw [e4];dsimp only [Option.bind_some]
  obtain ⟨t,s5,e5,ht,h5⟩:=Zyf h4
  rw [e5];dsimp only [Option.bind_some]
  rw [Qor (x:=1+(a:Int)) (by omega) (by omega)]
  refine ⟨_,s5,rfl,Zjv q1 q2 q3 d q5 ?_,rfl,Zuj _ _ _ _ _ _ (by omega) (by omega) (by simp) (by simp) (by omega) (by omega),h5⟩
  unfold Qyr
  rw [if_neg k2,if_neg k5,if_pos k7]
  simp only [Bool.and_eq_true,Z00,Qkt,decide_eq_true_eq,Qka.lo,Qka.tx]
  refine ⟨?_,?_,?_⟩<;>first | omega | exact decide_eq_true (by omega) | rfl | trivial
 rw [if_neg k7]
 by_cases k8:1+(k:Int)=8
 ·rw [if_pos k8,if_pos k8]
  obtain ⟨a,s4,e4,ha,h4⟩:=Qne h3 9 (by omega)
  rw [e4];dsimp only [Option.bind_some]
  obtain ⟨b,s5,e5,hb,h5⟩:=Qne h4 6 (by omega)
  rw [e5];dsimp only [Option.bind_some]
  rw [Qor (x:=1+(a:Int)) (by omega) (by omega),Qor (x:=1+(a:Int)+(b:Int)) (by omega) (by omega)]
  refine ⟨_,s5,rfl,Zjv q1 q2 q3 d q5 ?_,rfl,Zuj _ _ _ _ _ _ (by omega) (by omega) (by simp) (by simp) (by omega) (by omega),h5⟩
  unfold Qyr
  rw [if_neg k2,if_neg k5,if_neg k7,if_pos (Or.inl k8)]
  simp only [Bool.and_eq_true,Z00,Qkt,decide_eq_true_eq,Qka.lo,Qka.hi]
  refine ⟨?_,⟨?_,?_⟩,?_⟩<;>first | omega | exact decide_eq_true (by omega) | rfl | trivial
 rw [if_neg k8]
 by_cases k9:1+(k:Int)=9
 ·rw [if_pos k9]
  obtain ⟨a,s4,e4,ha,h4⟩:=Qne h3 9 (by omega)
  rw [e4];dsimp only [Option.bind_some]
  obtain ⟨b,s5,e5,hb,h5⟩:=Qne h4 6 (by omega)
  rw [e5];dsimp only [Option.bind_some]
  rw [Qor (x:=1+(a:Int)) (by omega) (by omega),Qor (x:=1+(a:Int)+(b:Int)) (by omega) (by omega)]
  refine ⟨_,s5,rfl,Zjv q1 q2 q3 d q5 ?_,rfl,Zuj _ _ _ _ _ _ (by omega) (by omega) (by simp) (by simp) (by omega) (by omega),h5⟩
  unfold Qyr
  rw [if_neg k2,if_neg k5,if_neg k7,if_pos (Or.inr k9)]
  simp only [Bool.and_eq_true,Z00,Qkt,decide_eq_true_eq,Qka.lo,Qka.hi]
  refine ⟨?_,⟨?_,?_⟩,?_⟩<;>first | omega | exact decide_eq_true (by omega) | rfl | trivial
 rw [if_neg k9]
 refine ⟨_,s3,rfl,Zjv q1 q2 q3 d q5 ?_,rfl,Zuj _ _ _ _ _ _ (by omega) (by omega) (by simp) (by simp) (by omega) (by omega),h3⟩
 unfold Qyr
 rw [if_neg k2,if_neg k5,if_neg k7,if_neg (fun h=>h.elim k8 k9)]
 exact Z00.2 rfl
theorem Zvu {s:List Int × Int} (h:Zce s) (to:Int) (a:1≤to∧to≤8) :
  ∃ (m:Qka) (s':List Int × Int),Qkx s to=some ((m,()),(s',()))∧Zoz m=true∧m.to=to∧Zxw m∧Zce s':=by
 rw [Zxu]
 obtain ⟨r,s1,e,hr,h1⟩:=Qne h 8 (by omega)
 rw [e];dsimp only [Option.bind_some]
 have et:Int.tmod to 8=to % 8:=Int.tmod_eq_emod_of_nonneg (by omega)
 rw [Qor (x:=1+(r:Int)) (by omega) (by omega),et,Qor (x:=1+to % 8) (by omega) (by omega),ceq]
 by_cases hc:1+(r:Int)=to
 ·rw [if_pos hc]
  exact Zps to _ a (by omega) (by omega) h1
 ·rw [if_neg hc]
  exact Zps to _ a (by omega) hc h1
end Go.PE
