/-
  Plain lemmas on the functions.
  Conditions: none.
-/
import Derived.Test.YtmfiijdlhjajcaaGreatDoorNodeDeafPLoops
set_option linter.unusedVariables false
set_option linter.unusedSimpArgs false
set_option maxRecDepth 20000
namespace Go.PE
def Qwx (c:Nat):Nat:=if c % 2=1 then (c / 2) ^^^ 3988292384 else c / 2
def Zr3:Nat→Nat→Nat
 | 0,c=>c
 | k+1,c=>Zr3 k (Qwx c)
def Zr9:Nat→List Int→Nat
 | c,[]=>c
 | c,x::r=>Zr9 (Zr3 8 (c ^^^ x.toNat)) r
def Zj8 (l:List Int):Nat:=Zr9 4294967295 l ^^^ 4294967295
theorem Zb9 {a b:Nat} (ha:a<4294967296) (hb:b<4294967296):a ^^^ b<4294967296:=Nat.xor_lt_two_pow (n:=32) ha hb
theorem Z5a {c:Nat} (h:c<4294967296):Qwx c<4294967296:=by
 unfold Qwx;split
 ·exact Zb9 (by omega) (by omega)
 ·omega
theorem Z6e:∀ (k:Nat) {c:Nat},c<4294967296→Zr3 k c<4294967296
 | 0,c,h=>h
 | k+1,c,h=>Z6e k (Z5a h)
theorem Zqh:∀ (l:List Int) {c:Nat},Qk9 l→c<4294967296→Zr9 c l<4294967296
 | [],c,_,h=>h
 | x::r,c,hb,h=>Zqh r (fun y hy=>hb y (List.mem_cons_of_mem _ hy)) (Z6e 8 (Zb9 h (by have:=hb x (List.mem_cons_self ..);omega)))
theorem Zkz {l:List Int} (h:Qk9 l):Zj8 l<4294967296:=Zb9 (Zqh l h (by omega)) (by omega)
theorem Z9a {a b c:Nat} (h:a ^^^ c=b ^^^ c):a=b:=by
 have:=congrArg (· ^^^ c) h
 simpa [Nat.xor_assoc] using this
theorem Znm {a b c:Nat} (h:c ^^^ a=c ^^^ b):a=b:=by
 rw [Nat.xor_comm c a,Nat.xor_comm c b] at h;exact Z9a h
theorem Zgs {c:Nat} (h:c<4294967296):(Qwx c).testBit 31=decide (c % 2=1):=by
 have h1:(c / 2).testBit 31=false:=Nat.testBit_lt_two_pow (by omega)
 have h2:(3988292384:Nat).testBit 31=true:=by decide
 unfold Qwx
 split
 ·rename_i hc;rw [Nat.testBit_xor,h1,h2,decide_eq_true hc];rfl
 ·rename_i hc;rw [h1,decide_eq_false hc]
theorem Zoh {a b:Nat} (ha:a<4294967296) (hb:b<4294967296) (h:Qwx a=Qwx b):a=b:=by
 have ht:=Zgs ha
 rw [h,Zgs hb] at ht
 have hp:(b % 2=1)↔(a % 2=1):=decide_eq_decide.1 ht
 unfold Qwx at h
 by_cases hc:a % 2=1
 ·rw [if_pos hc,if_pos (hp.2 hc)] at h
  have:=Z9a h
  have:=hp.2 hc
  omega
 ·have hd:¬ b % 2=1:=fun x=>hc (hp.1 x)
  rw [if_neg hc,if_neg hd] at h
  omega
theorem Zks:∀ (k:Nat) {a b:Nat},a<4294967296→b<4294967296→Zr3 k a=Zr3 k b→a=b
 | 0,a,b,_,_,h=>h
 | k+1,a,b,ha,hb,h=>Zoh ha hb (Zks k (Z5a ha) (Z5a hb) h)
theorem Zp8:∀ (l:List Int) {a b:Nat},Qk9 l→a<4294967296→b<4294967296→Zr9 a l=Zr9 b l→a=b
 | [],a,b,_,_,_,h=>h
 | x::r,a,b,hl,ha,hb,h=>by
  have hx:=hl x (List.mem_cons_self ..)
  have hr:Qk9 r:=fun y hy=>hl y (List.mem_cons_of_mem _ hy)
  have h1:=Zp8 r hr (Z6e 8 (Zb9 ha (by omega))) (Z6e 8 (Zb9 hb (by omega))) h
  exact Z9a (Zks 8 (Zb9 ha (by omega)) (Zb9 hb (by omega)) h1)
theorem Zna:∀ (l:List Int) (i:Nat) (y:Int) {c:Nat},Qk9 l→c<4294967296→i<l.length→0≤y∧y<256→Zr9 c (l.set i y)=Zr9 c l→List.getD l i 0=y
 | [],i,y,c,_,_,h,_,_=>by simp at h
 | x::r,0,y,c,hl,hc,h,hy,e=>by
  have hx:=hl x (List.mem_cons_self ..)
  have hr:Qk9 r:=fun y hy=>hl y (List.mem_cons_of_mem _ hy)
  have h1:=Zp8 r hr (Z6e 8 (Zb9 hc (by omega))) (Z6e 8 (Zb9 hc (by omega))) e
  have h2:=Znm (Zks 8 (Zb9 hc (by omega)) (Zb9 hc (by omega)) h1)
  show x=y
  omega
 | x::r,i+1,y,c,hl,hc,h,hy,e=>by
  have hx:=hl x (List.mem_cons_self ..)
  have hr:Qk9 r:=fun y hy=>hl y (List.mem_cons_of_mem _ hy)
  exact Zna r i y hr (Z6e 8 (Zb9 hc (by omega))) (by simpa using h) hy e
theorem Zqv {l:List Int} {i:Nat} {y:Int} (hl:Qk9 l) (h:i<l.length) (hy:0≤y∧y<256) (e:Zj8 (l.set i y)=Zj8 l):List.getD l i 0=y:=
 Zna l i y hl (by omega) h hy (Z9a e)
def Z0n (s:Nat):List Int:=[((s / 16777216 % 256:Nat):Int),((s / 65536 % 256:Nat):Int),((s / 256 % 256:Nat):Int),((s % 256:Nat):Int)]
theorem Zqy {a b:Nat} (ha:a<4294967296) (hb:b<4294967296) (h:Z0n a=Z0n b):a=b:=by
 simp only [Z0n,List.cons.injEq,and_true] at h
 omega
theorem Zoe (s:Nat):Qk9 (Z0n s):=by
 intro x hx
 simp only [Z0n,List.mem_cons,List.not_mem_nil,or_false] at hx
 omega
theorem Zsn {a b:Nat} (ha:a<4294967296) (hb:b<4294967296):IntKind.wrap .u32 ((BitVec.ofInt 32 (a:Int) ^^^ BitVec.ofInt 32 (b:Int)).toNat)=((a ^^^ b:Nat):Int):=by
 have h:=Zb9 ha hb
 rw [BitVec.toNat_xor,BitVec.toNat_ofInt,BitVec.toNat_ofInt]
 have e1:((a:Int) % ((2 ^ 32:Nat):Int)).toNat=a:=by omega
 have e2:((b:Int) % ((2 ^ 32:Nat):Int)).toNat=b:=by omega
 rw [e1,e2,Zt9 (by omega) (by omega)]
theorem Zto {a:Nat} (ha:a<4294967296):IntKind.wrap .u32 ((BitVec.ofInt 32 (a:Int) &&& BitVec.ofInt 32 1).toNat)=((a % 2:Nat):Int):=by
 rw [BitVec.toNat_and,BitVec.toNat_ofInt]
 have e1:((a:Int) % ((2 ^ 32:Nat):Int)).toNat=a:=by omega
 have e2:(BitVec.ofInt 32 1).toNat=1:=by decide
 rw [e1,e2,Nat.and_one_is_mod,Zt9 (by omega) (by omega)]
theorem Zhd (n:Nat) (L:Int→List Int→Int→Int→Option ((Int × Unit) × Unit)) (m1:Nat) (l:List Int) (len i:Int):∀ (k m c j:Nat),j+k=8→k<m→c<4294967296 →
  Qxt n m1 L m (c:Int) l len i (j:Int)=L ((Zr3 k c:Nat):Int) l len (IntKind.wrap .i64 (i+1))
 | k,0,c,j,_,h,_=>by omega
 | 0,m+1,c,j,hk,h,hc=>by
  show Z0e (Qxt n m1 L m) L (c:Int) l len i (j:Int)=_
  unfold Z0e
  rw [cdn (by omega)];rfl
 | k+1,m+1,c,j,hk,h,hc=>by
  show Z0e (Qxt n m1 L m) L (c:Int) l len i (j:Int)=_
  unfold Z0e
  have e1:Int.fdiv (c:Int) (2 ^ 1)=((c / 2:Nat):Int):=by
   rw [Int.fdiv_eq_ediv_of_nonneg _ (by decide)];rfl
  have e2:IntKind.wrap .u32 ((BitVec.ofInt 32 ((c / 2:Nat):Int) ^^^ BitVec.ofInt 32 3988292384).toNat)=((c / 2 ^^^ 3988292384:Nat):Int):=Zsn (b:=3988292384) (by omega) (by omega)
  rw [cdp (by omega),Zto hc,e1,e2,Qwl (by omega),ceq]
  have ec:Zr3 (k+1) c=Zr3 k (Qwx c):=rfl
  rw [ec]
  by_cases hp:c % 2=1
  ·have es:Qwx c=c / 2 ^^^ 3988292384:=if_pos hp
   rw [if_pos (by omega),es]
   exact Zhd n L m1 l len i k m _ (j+1) (by omega) (by omega) (es▸Z5a hc)
  ·have es:Qwx c=c / 2:=if_neg hp
   rw [if_neg (by omega),es]
   exact Zhd n L m1 l len i k m _ (j+1) (by omega) (by omega) (by omega)
theorem Zmd (l:List Int) (hb:Qk9 l) (h6:l.length≤1000000000):∀ (k m i c:Nat),i+k=l.length→k<m→c<4294967296 →
  Z0d 1099511627776 m (c:Int) l (l.length:Int) (i:Int)=some ((((Zr9 c (l.drop i) ^^^ 4294967295:Nat):Int),()),())
 | k,0,i,c,_,h,_=>by omega
 | 0,m+1,i,c,hk,h,hc=>by
  show Z0h (Qxt 1099511627776 m (Z0d 1099511627776 m) 1099511627776) (c:Int) l (l.length:Int) (i:Int)=_
  unfold Z0h
  have e2:IntKind.wrap .u32 ((BitVec.ofInt 32 (c:Int) ^^^ BitVec.ofInt 32 4294967295).toNat)=((c ^^^ 4294967295:Nat):Int):=Zsn (b:=4294967295) hc (by omega)
  rw [cdn (by omega),e2,List.drop_eq_nil_of_le (by omega)];rfl
 | k+1,m+1,i,c,hk,h,hc=>by
  show Z0h (Qxt 1099511627776 m (Z0d 1099511627776 m) 1099511627776) (c:Int) l (l.length:Int) (i:Int)=_
  unfold Z0h
  have hi:i<l.length:=by omega
  have hx:=hb l[i] (List.getElem_mem hi)
  rw [cdp (by omega),Z9t,cdp (by omega),cdp (by omega),Qkl,Qms hi,List.drop_eq_getElem_cons hi]
  generalize l[i]=x at *
  obtain ⟨x,rfl⟩:∃ y:Nat,x=(y:Int):=⟨x.toNat,by omega⟩
  rw [Zt9 (x:=(x:Int)) (by omega) (by omega),Zsn hc (by omega)]
  have hlt:c ^^^ x<4294967296:=Zb9 hc (by omega)
  have:=Zhd 1099511627776 (Z0d 1099511627776 m) m l (l.length:Int) (i:Int) 8 1099511627776 (c ^^^ x) 0 rfl (by omega) hlt
  have e0:((0:Nat):Int)=0:=rfl
  rw [e0] at this
  rw [this,Qwl (by omega),Zmd l hb h6 k m (i+1) _ (by omega) (by omega) (Z6e 8 hlt)]
  rfl
theorem Zt4 (l:List Int) (hb:Qk9 l) (h6:l.length≤1000000000):Zol l=some ((((Zj8 l:Nat):Int),()),()):=by
 have:=Zmd l hb h6 l.length 1099511627776 0 4294967295 (by omega) (by omega) (by omega)
 rw [List.drop_zero] at this
 exact this
theorem Zp0 {s:Nat} (h:s<4294967296):[IntKind.wrap .u8 (Int.fdiv (s:Int) (2 ^ 24)),IntKind.wrap .u8 (Int.fdiv (s:Int) (2 ^ 16)),IntKind.wrap .u8 (Int.fdiv (s:Int) (2 ^ 8)),IntKind.wrap .u8 (s:Int)]=Z0n s:=by
 simp only [Znz,Int.fdiv_eq_ediv_of_nonneg _ (show (0:Int)≤2 ^ 24 by decide),Int.fdiv_eq_ediv_of_nonneg _ (show (0:Int)≤2 ^ 16 by decide),Int.fdiv_eq_ediv_of_nonneg _ (show (0:Int)≤2 ^ 8 by decide)]
 rfl
end Go.PE
