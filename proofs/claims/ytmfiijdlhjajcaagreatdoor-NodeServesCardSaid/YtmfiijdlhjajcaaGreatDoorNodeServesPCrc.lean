/-
  Plain lemmas on the functions.
  Conditions: none.
-/
import Derived.Test.YtmfiijdlhjajcaaGreatDoorNodeServesPLoops
set_option linter.unusedVariables false
set_option linter.unusedSimpArgs false
set_option maxRecDepth 20000
namespace Go.PE
def Z6m (c:Nat):Nat:=if c % 2=1 then (c / 2) ^^^ 3988292384 else c / 2
def Zqp:Nat→Nat→Nat
 | 0,c=>c
 | k+1,c=>Zqp k (Z6m c)
def Zsu:Nat→List Int→Nat
 | c,[]=>c
 | c,x::r=>Zsu (Zqp 8 (c ^^^ x.toNat)) r
def Zrm (l:List Int):Nat:=Zsu 4294967295 l ^^^ 4294967295
theorem Zny {a b:Nat} (ha:a<4294967296) (hb:b<4294967296):a ^^^ b<4294967296:=Nat.xor_lt_two_pow (n:=32) ha hb
theorem Ze1 {c:Nat} (h:c<4294967296):Z6m c<4294967296:=by
 unfold Z6m;split
 ·exact Zny (by omega) (by omega)
 ·omega
theorem Zjv:∀ (k:Nat) {c:Nat},c<4294967296→Zqp k c<4294967296
 | 0,c,h=>h
 | k+1,c,h=>Zjv k (Ze1 h)
theorem Zps:∀ (l:List Int) {c:Nat},Qkn l→c<4294967296→Zsu c l<4294967296
 | [],c,_,h=>h
 | x::r,c,hb,h=>Zps r (fun y hy=>hb y (List.mem_cons_of_mem _ hy)) (Zjv 8 (Zny h (by have:=hb x (List.mem_cons_self ..);omega)))
theorem Zp1 {l:List Int} (h:Qkn l):Zrm l<4294967296:=Zny (Zps l h (by omega)) (by omega)
def Zkj (s:Nat):List Int:=[((s / 16777216 % 256:Nat):Int),((s / 65536 % 256:Nat):Int),((s / 256 % 256:Nat):Int),((s % 256:Nat):Int)]
theorem Zlv (s:Nat):Qkn (Zkj s):=by
 intro x hx
 simp only [Zkj,List.mem_cons,List.not_mem_nil,or_false] at hx
 omega
theorem Zsa {a b:Nat} (ha:a<4294967296) (hb:b<4294967296):IntKind.wrap .u32 ((BitVec.ofInt 32 (a:Int) ^^^ BitVec.ofInt 32 (b:Int)).toNat)=((a ^^^ b:Nat):Int):=by
 have h:=Zny ha hb
 rw [BitVec.toNat_xor,BitVec.toNat_ofInt,BitVec.toNat_ofInt]
 have e1:((a:Int) % ((2 ^ 32:Nat):Int)).toNat=a:=by omega
 have e2:((b:Int) % ((2 ^ 32:Nat):Int)).toNat=b:=by omega
 rw [e1,e2,Zsq (by omega) (by omega)]
theorem Zt4 {a:Nat} (ha:a<4294967296):IntKind.wrap .u32 ((BitVec.ofInt 32 (a:Int) &&& BitVec.ofInt 32 1).toNat)=((a % 2:Nat):Int):=by
 rw [BitVec.toNat_and,BitVec.toNat_ofInt]
 have e1:((a:Int) % ((2 ^ 32:Nat):Int)).toNat=a:=by omega
 have e2:(BitVec.ofInt 32 1).toNat=1:=by decide
 rw [e1,e2,Nat.and_one_is_mod,Zsq (by omega) (by omega)]
theorem Zg3 (n:Nat) (L:Int→List Int→Int→Int→Option ((Int × Unit) × Unit)) (m1:Nat) (l:List Int) (len i:Int):∀ (k m c j:Nat),j+k=8→k<m→c<4294967296 →
  Qyc n m1 L m (c:Int) l len i (j:Int)=L ((Zqp k c:Nat):Int) l len (IntKind.wrap .i64 (i+1))
 | k,0,c,j,_,h,_=>by omega
 | 0,m+1,c,j,hk,h,hc=>by
  show Z16 (Qyc n m1 L m) L (c:Int) l len i (j:Int)=_
  unfold Z16
  rw [cdn (by omega)];rfl
 | k+1,m+1,c,j,hk,h,hc=>by
  show Z16 (Qyc n m1 L m) L (c:Int) l len i (j:Int)=_
  unfold Z16
  have e1:Int.fdiv (c:Int) (2 ^ 1)=((c / 2:Nat):Int):=by
   rw [Int.fdiv_eq_ediv_of_nonneg _ (by decide)];rfl
  have e2:IntKind.wrap .u32 ((BitVec.ofInt 32 ((c / 2:Nat):Int) ^^^ BitVec.ofInt 32 3988292384).toNat)=((c / 2 ^^^ 3988292384:Nat):Int):=Zsa (b:=3988292384) (by omega) (by omega)
  rw [cdp (by omega),Zt4 hc,e1,e2,Qqh (by omega),ceq]
  have ec:Zqp (k+1) c=Zqp k (Z6m c):=rfl
  rw [ec]
  by_cases hp:c % 2=1
  ·have es:Z6m c=c / 2 ^^^ 3988292384:=if_pos hp
   rw [if_pos (by omega),es]
   exact Zg3 n L m1 l len i k m _ (j+1) (by omega) (by omega) (es▸Ze1 hc)
  ·have es:Z6m c=c / 2:=if_neg hp
   rw [if_neg (by omega),es]
   exact Zg3 n L m1 l len i k m _ (j+1) (by omega) (by omega) (by omega)
theorem Zkn (l:List Int) (hb:Qkn l) (h6:l.length≤1000000000):∀ (k m i c:Nat),i+k=l.length→k<m→c<4294967296 →
  Z17 1099511627776 m (c:Int) l (l.length:Int) (i:Int)=some ((((Zsu c (l.drop i) ^^^ 4294967295:Nat):Int),()),())
 | k,0,i,c,_,h,_=>by omega
 | 0,m+1,i,c,hk,h,hc=>by
  show Z15 (Qyc 1099511627776 m (Z17 1099511627776 m) 1099511627776) (c:Int) l (l.length:Int) (i:Int)=_
  unfold Z15
  have e2:IntKind.wrap .u32 ((BitVec.ofInt 32 (c:Int) ^^^ BitVec.ofInt 32 4294967295).toNat)=((c ^^^ 4294967295:Nat):Int):=Zsa (b:=4294967295) hc (by omega)
  rw [cdn (by omega),e2,List.drop_eq_nil_of_le (by omega)];rfl
 | k+1,m+1,i,c,hk,h,hc=>by
  show Z15 (Qyc 1099511627776 m (Z17 1099511627776 m) 1099511627776) (c:Int) l (l.length:Int) (i:Int)=_
  unfold Z15
  have hi:i<l.length:=by omega
  have hx:=hb l[i] (List.getElem_mem hi)
  rw [cdp (by omega),Zab,cdp (by omega),cdp (by omega),Qk9,Qkm hi,List.drop_eq_getElem_cons hi]
  generalize l[i]=x at *
  obtain ⟨x,rfl⟩:∃ y:Nat,x=(y:Int):=⟨x.toNat,by omega⟩
  rw [Zsq (x:=(x:Int)) (by omega) (by omega),Zsa hc (by omega)]
  have hlt:c ^^^ x<4294967296:=Zny hc (by omega)
  have:=Zg3 1099511627776 (Z17 1099511627776 m) m l (l.length:Int) (i:Int) 8 1099511627776 (c ^^^ x) 0 rfl (by omega) hlt
  have e0:((0:Nat):Int)=0:=rfl
  rw [e0] at this
  rw [this,Qqh (by omega),Zkn l hb h6 k m (i+1) _ (by omega) (by omega) (Zjv 8 hlt)]
  rfl
theorem Zsd (l:List Int) (hb:Qkn l) (h6:l.length≤1000000000):Zmo l=some ((((Zrm l:Nat):Int),()),()):=by
 have:=Zkn l hb h6 l.length 1099511627776 0 4294967295 (by omega) (by omega) (by omega)
 rw [List.drop_zero] at this
 exact this
theorem Zng {s:Nat} (h:s<4294967296):[IntKind.wrap .u8 (Int.fdiv (s:Int) (2 ^ 24)),IntKind.wrap .u8 (Int.fdiv (s:Int) (2 ^ 16)),IntKind.wrap .u8 (Int.fdiv (s:Int) (2 ^ 8)),IntKind.wrap .u8 (s:Int)]=Zkj s:=by
 simp only [Zow,Int.fdiv_eq_ediv_of_nonneg _ (show (0:Int)≤2 ^ 24 by decide),Int.fdiv_eq_ediv_of_nonneg _ (show (0:Int)≤2 ^ 16 by decide),Int.fdiv_eq_ediv_of_nonneg _ (show (0:Int)≤2 ^ 8 by decide)]
 rfl
end Go.PE
