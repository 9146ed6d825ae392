/-
  Plain lemmas on the functions.
  Conditions: none.
-/
import Derived.Test.YtmfiijdlhjajcaaGreatDoorNodeDownPLoops
set_option linter.unusedVariables false
set_option linter.unusedSimpArgs false
set_option maxRecDepth 20000
namespace Go.PE
def Z4q (c:Nat):Nat:=if c % 2=1 then (c / 2) ^^^ 3988292384 else c / 2
def Zpc:Nat→Nat→Nat
 | 0,c=>c
 | k+1,c=>Zpc k (Z4q c)
def Zqu:Nat→List Int→Nat
 | c,[]=>c
 | c,x::r=>Zqu (Zpc 8 (c ^^^ x.toNat)) r
def Zqr (l:List Int):Nat:=Zqu 4294967295 l ^^^ 4294967295
theorem Zn6 {a b:Nat} (ha:a<4294967296) (hb:b<4294967296):a ^^^ b<4294967296:=Nat.xor_lt_two_pow (n:=32) ha hb
theorem Zbt {c:Nat} (h:c<4294967296):Z4q c<4294967296:=by
 unfold Z4q;split
 ·exact Zn6 (by omega) (by omega)
 ·omega
theorem Zhl:∀ (k:Nat) {c:Nat},c<4294967296→Zpc k c<4294967296
 | 0,c,h=>h
 | k+1,c,h=>Zhl k (Zbt h)
theorem Zo4:∀ (l:List Int) {c:Nat},Qki l→c<4294967296→Zqu c l<4294967296
 | [],c,_,h=>h
 | x::r,c,hb,h=>Zo4 r (fun y hy=>hb y (List.mem_cons_of_mem _ hy)) (Zhl 8 (Zn6 h (by have:=hb x (List.mem_cons_self ..);omega)))
theorem Znq {l:List Int} (h:Qki l):Zqr l<4294967296:=Zn6 (Zo4 l h (by omega)) (by omega)
def Zjs (s:Nat):List Int:=[((s / 16777216 % 256:Nat):Int),((s / 65536 % 256:Nat):Int),((s / 256 % 256:Nat):Int),((s % 256:Nat):Int)]
theorem Zk9 (s:Nat):Qki (Zjs s):=by
 intro x hx
 simp only [Zjs,List.mem_cons,List.not_mem_nil,or_false] at hx
 omega
theorem Zqt {a b:Nat} (ha:a<4294967296) (hb:b<4294967296):IntKind.wrap .u32 ((BitVec.ofInt 32 (a:Int) ^^^ BitVec.ofInt 32 (b:Int)).toNat)=((a ^^^ b:Nat):Int):=by
 have h:=Zn6 ha hb
 rw [BitVec.toNat_xor,BitVec.toNat_ofInt,BitVec.toNat_ofInt]
 have e1:((a:Int) % ((2 ^ 32:Nat):Int)).toNat=a:=by omega
 have e2:((b:Int) % ((2 ^ 32:Nat):Int)).toNat=b:=by omega
 rw [e1,e2,Zr3 (by omega) (by omega)]
theorem Zrk {a:Nat} (ha:a<4294967296):IntKind.wrap .u32 ((BitVec.ofInt 32 (a:Int) &&& BitVec.ofInt 32 1).toNat)=((a % 2:Nat):Int):=by
 rw [BitVec.toNat_and,BitVec.toNat_ofInt]
 have e1:((a:Int) % ((2 ^ 32:Nat):Int)).toNat=a:=by omega
 have e2:(BitVec.ofInt 32 1).toNat=1:=by decide
 rw [e1,e2,Nat.and_one_is_mod,Zr3 (by omega) (by omega)]
theorem Zes (n:Nat) (L:Int→List Int→Int→Int→Option ((Int × Unit) × Unit)) (m1:Nat) (l:List Int) (len i:Int):∀ (k m c j:Nat),j+k=8→k<m→c<4294967296 →
  Qx7 n m1 L m (c:Int) l len i (j:Int)=L ((Zpc k c:Nat):Int) l len (IntKind.wrap .i64 (i+1))
 | k,0,c,j,_,h,_=>by omega
 | 0,m+1,c,j,hk,h,hc=>by
  show Qzp (Qx7 n m1 L m) L (c:Int) l len i (j:Int)=_
  unfold Qzp
  rw [cdn (by omega)];rfl
 | k+1,m+1,c,j,hk,h,hc=>by
  show Qzp (Qx7 n m1 L m) L (c:Int) l len i (j:Int)=_
  unfold Qzp
  have e1:Int.fdiv (c:Int) (2 ^ 1)=((c / 2:Nat):Int):=by
   rw [Int.fdiv_eq_ediv_of_nonneg _ (by decide)];rfl
  have e2:IntKind.wrap .u32 ((BitVec.ofInt 32 ((c / 2:Nat):Int) ^^^ BitVec.ofInt 32 3988292384).toNat)=((c / 2 ^^^ 3988292384:Nat):Int):=Zqt (b:=3988292384) (by omega) (by omega)
  rw [cdp (by omega),Zrk hc,e1,e2,Qr9 (by omega),ceq]
  have ec:Zpc (k+1) c=Zpc k (Z4q c):=rfl
  rw [ec]
  by_cases hp:c % 2=1
  ·have es:Z4q c=c / 2 ^^^ 3988292384:=if_pos hp
   rw [if_pos (by omega),es]
   exact Zes n L m1 l len i k m _ (j+1) (by omega) (by omega) (es▸Zbt hc)
  ·have es:Z4q c=c / 2:=if_neg hp
   rw [if_neg (by omega),es]
   exact Zes n L m1 l len i k m _ (j+1) (by omega) (by omega) (by omega)
theorem Zj6 (l:List Int) (hb:Qki l) (h6:l.length≤1000000000):∀ (k m i c:Nat),i+k=l.length→k<m→c<4294967296 →
  Qzu 1099511627776 m (c:Int) l (l.length:Int) (i:Int)=some ((((Zqu c (l.drop i) ^^^ 4294967295:Nat):Int),()),())
 | k,0,i,c,_,h,_=>by omega
 | 0,m+1,i,c,hk,h,hc=>by
  show Qzx (Qx7 1099511627776 m (Qzu 1099511627776 m) 1099511627776) (c:Int) l (l.length:Int) (i:Int)=_
  unfold Qzx
  have e2:IntKind.wrap .u32 ((BitVec.ofInt 32 (c:Int) ^^^ BitVec.ofInt 32 4294967295).toNat)=((c ^^^ 4294967295:Nat):Int):=Zqt (b:=4294967295) hc (by omega)
  rw [cdn (by omega),e2,List.drop_eq_nil_of_le (by omega)];rfl
 | k+1,m+1,i,c,hk,h,hc=>by
  show Qzx (Qx7 1099511627776 m (Qzu 1099511627776 m) 1099511627776) (c:Int) l (l.length:Int) (i:Int)=_
  unfold Qzx
  have hi:i<l.length:=by omega
  have hx:=hb l[i] (List.getElem_mem hi)
  rw [cdp (by omega),Z86,cdp (by omega),cdp (by omega),Qk9,Qkl hi,List.drop_eq_getElem_cons hi]
  generalize l[i]=x at *
  obtain ⟨x,rfl⟩:∃ y:Nat,x=(y:Int):=⟨x.toNat,by omega⟩
  rw [Zr3 (x:=(x:Int)) (by omega) (by omega),Zqt hc (by omega)]
  have hlt:c ^^^ x<4294967296:=Zn6 hc (by omega)
  have:=Zes 1099511627776 (Qzu 1099511627776 m) m l (l.length:Int) (i:Int) 8 1099511627776 (c ^^^ x) 0 rfl (by omega) hlt
  have e0:((0:Nat):Int)=0:=rfl
  rw [e0] at this
  rw [this,Qr9 (by omega),Zj6 l hb h6 k m (i+1) _ (by omega) (by omega) (Zhl 8 hlt)]
  rfl
theorem Zr1 (l:List Int) (hb:Qki l) (h6:l.length≤1000000000):Zke l=some ((((Zqr l:Nat):Int),()),()):=by
 have:=Zj6 l hb h6 l.length 1099511627776 0 4294967295 (by omega) (by omega) (by omega)
 rw [List.drop_zero] at this
 exact this
theorem Zlo {s:Nat} (h:s<4294967296):[IntKind.wrap .u8 (Int.fdiv (s:Int) (2 ^ 24)),IntKind.wrap .u8 (Int.fdiv (s:Int) (2 ^ 16)),IntKind.wrap .u8 (Int.fdiv (s:Int) (2 ^ 8)),IntKind.wrap .u8 (s:Int)]=Zjs s:=by
 simp only [Zo0,Int.fdiv_eq_ediv_of_nonneg _ (show (0:Int)≤2 ^ 24 by decide),Int.fdiv_eq_ediv_of_nonneg _ (show (0:Int)≤2 ^ 16 by decide),Int.fdiv_eq_ediv_of_nonneg _ (show (0:Int)≤2 ^ 8 by decide)]
 rfl
end Go.PE
