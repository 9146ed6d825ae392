/-
  Plain lemmas on the functions.
  Conditions: none.
-/
import Derived.Test.YtmfiijdlhjajcaaGreatDoorNodeServesF2
set_option linter.unusedVariables false
set_option linter.unusedSimpArgs false
namespace Go.PE
theorem cdp {α:Type} {p:Prop} {i:Decidable p} {a b:α} (h:p):(bif decide p then a else b)=a:=by rw [decide_eq_true h];rfl
theorem cdn {α:Type} {p:Prop} {i:Decidable p} {a b:α} (h:¬ p):(bif decide p then a else b)=b:=by rw [decide_eq_false h];rfl
theorem cbp {α:Type} {m n:Nat} {a b:α} (h:m≤n):(bif Nat.ble m n then a else b)=a:=by rw [Nat.ble_eq_true_of_le h];rfl
theorem nt:(!true)=false:=rfl
theorem nf:(!false)=true:=rfl
theorem Zab {α:Type} {p q:Bool} {a b:α}:(bif p&&q then a else b)=bif p then bif q then a else b else b:=by cases p<;>rfl
theorem Zs5 {α:Type} {p:Bool} {a b:α}:(bif !p then a else b)=bif p then b else a:=by cases p<;>rfl
theorem Z2n {α:Type} {x y:Int} {a b:α} (h:x=y):(bif x==y then a else b)=a:=by rw [h,beq_self_eq_true];rfl
theorem Z0t {α:Type} {x y:Int} {a b:α} (h:x≠y):(bif x==y then a else b)=b:=by rw [beq_eq_false_iff_ne.2 h];rfl
theorem Znw {α:Type} {x y:Int} {a b:α} (h:x≠y):(bif x != y then a else b)=a:=by rw [bne_iff_ne.2 h];rfl
theorem Zk0 {α:Type} {x y:Int} {a b:α} (h:x=y):(bif x != y then a else b)=b:=by rw [h];simp
theorem Qq3 {x:Int} (h1:-9223372036854775808≤x) (h2:x≤9223372036854775807):IntKind.wrap .i64 x=x:=by
 rw [IntKind.wrap_i64];omega
theorem Zte {x:Int} (h1:0≤x) (h2:x<18446744073709551616):IntKind.wrap .u64 x=x:=by
 simp [IntKind.wrap,IntKind.signed,IntKind.bits];omega
theorem Zsq {x:Int} (h1:0≤x) (h2:x<4294967296):IntKind.wrap .u32 x=x:=by
 simp [IntKind.wrap,IntKind.signed,IntKind.bits];omega
theorem wu8 {x:Int} (h1:0≤x) (h2:x<256):IntKind.wrap .u8 x=x:=by
 simp [IntKind.wrap,IntKind.signed,IntKind.bits];omega
theorem Zow (x:Int):IntKind.wrap .u8 x=x % 256:=by
 simp [IntKind.wrap,IntKind.signed,IntKind.bits]
theorem Zpt {x:Int}:(Lit.int .u8 x).wf=true↔0≤x∧x<256:=by
 simp [Lit.wf,IntKind.has,IntKind.min,IntKind.max,IntKind.signed,IntKind.bits];omega
theorem Ztc (u:Int) (h:0≤u):IntKind.wrap .u8 ((BitVec.ofInt 8 (IntKind.wrap .u8 u) ||| BitVec.ofInt 8 128).toNat)=u % 128+128:=by
 have key:∀ a:BitVec 8,(a ||| 128#8).toNat=a.toNat % 128+128:=by decide
 have e:BitVec.ofInt 8 128=128#8:=by decide
 rw [Zow u,e,key,BitVec.toNat_ofInt]
 rw [wu8 (by omega) (by omega)]
 omega
theorem Zsw (x:Int) (h:0≤x) (h2:x<256):IntKind.wrap .u8 ((BitVec.ofInt 8 x &&& BitVec.ofInt 8 127).toNat)=x % 128:=by
 have key:∀ a:BitVec 8,(a &&& 127#8).toNat=a.toNat % 128:=by decide
 have e:BitVec.ofInt 8 127=127#8:=by decide
 rw [e,key,BitVec.toNat_ofInt]
 rw [wu8 (by omega) (by omega)]
 omega
theorem Zrv (v x i:Nat) (hv:v<2 ^ i) (hx:x*2 ^ i<9223372036854775808) (hi:i<63):IntKind.wrap .i64 ((BitVec.ofInt 64 (v:Int) ||| BitVec.ofInt 64 (IntKind.wrap .i64 ((x:Int)*2 ^ (min i 64)))).toNat)=((v+x*2 ^ i:Nat):Int):=by
 have hm:min i 64=i:=by omega
 have hp:(2:Nat) ^ i≤2 ^ 62:=Nat.pow_le_pow_right (by decide) (by omega)
 have hp2:(2:Nat) ^ 62=4611686018427387904:=by decide
 have e1:((x:Int)*2 ^ i)=((x*2 ^ i:Nat):Int):=by rw [Int.natCast_mul,Int.natCast_pow];rfl
 have hw:IntKind.wrap .i64 ((x*2 ^ i:Nat):Int)=((x*2 ^ i:Nat):Int):=Qq3 (by omega) (by omega)
 rw [hm,e1,hw,BitVec.toNat_or,BitVec.toNat_ofInt,BitVec.toNat_ofInt]
 have e2:(((v:Nat):Int) % ((2 ^ 64:Nat):Int)).toNat=v:=by
  have:((2 ^ 64:Nat):Int)=18446744073709551616:=by decide
  omega
 have e3:(((x*2 ^ i:Nat):Int) % ((2 ^ 64:Nat):Int)).toNat=x*2 ^ i:=by
  have:((2 ^ 64:Nat):Int)=18446744073709551616:=by decide
  omega
 rw [e2,e3,← Nat.shiftLeft_eq,Nat.or_comm,← Nat.shiftLeft_add_eq_or_of_lt hv,Nat.shiftLeft_eq,Nat.add_comm]
 by_cases hi0:x=0
 ·subst hi0;rw [Qq3 (by omega) (by omega)]
 ·have hx1:2 ^ i≤x*2 ^ i:=Nat.le_mul_of_pos_left _ (by omega)
  have h4:((v+x*2 ^ i:Nat):Int)=(v:Int)+((x*2 ^ i:Nat):Int):=by omega
  have hb:v+x*2 ^ i<9223372036854775808:=by
   have h5:x*2 ^ i+2 ^ i≤9223372036854775808:=by
    have e6:(9223372036854775808:Nat)=2 ^ (63 - i)*2 ^ i:=by rw [← Nat.pow_add,show 63 - i+i=63 by omega]
    rw [e6] at hx ⊢
    have h7:=Nat.lt_of_mul_lt_mul_right hx
    have:=Nat.mul_le_mul_right (2 ^ i) (Nat.succ_le_of_lt h7)
    rwa [Nat.succ_mul] at this
   omega
  rw [Qq3 (by omega) (by omega)]
theorem Zk3 {a b:ByteArray}:Qeq a b=true↔a=b:=by
 unfold Qeq
 constructor
 ·intro h
  have:=eq_of_beq h
  obtain ⟨⟨x⟩⟩:=a
  obtain ⟨⟨y⟩⟩:=b
  have:x=y:=this
  rw [this]
 ·intro h;rw [h];exact beq_self_eq_true _
theorem Z9e (a:ByteArray):Qeq a a=true:=Zk3.2 rfl
def Qyl (s:ByteArray):List Int:=s.data.toList.map fun b=>(b.toNat:Int)
theorem Qs5 (s:ByteArray):(Qyl s).length=s.size:=by simp [Qyl]
def Qkn (l:List Int):Prop:=∀ x∈l,0≤x∧x<256
theorem Z64 (s:ByteArray):Qkn (Qyl s):=by
 intro x hx
 obtain ⟨b,_,rfl⟩:=List.mem_map.1 hx
 have:=b.toNat_lt
 omega
theorem Zj5 (s:ByteArray):Q5g (Qyl s)=s:=by
 unfold Q5g Qyl
 rw [List.map_map]
 have:((fun n:Int=>UInt8.ofNat n.toNat) ∘ fun b:UInt8=>(b.toNat:Int))=id:=by funext b;simp
 rw [this,List.map_id]
theorem Qpo {a b:List Int}:Qkn (a++b)↔Qkn a∧Qkn b:=by
 unfold Qkn
 constructor
 ·intro h;exact ⟨fun x hx=>h x (List.mem_append_left _ hx),fun x hx=>h x (List.mem_append_right _ hx)⟩
 ·rintro ⟨h1,h2⟩ x hx;exact (List.mem_append.1 hx).elim (h1 x) (h2 x)
theorem Zet {l:List Int} (h:Qkn l) (n:Nat):Qkn (l.take n):=fun x hx=>h x (List.mem_of_mem_take hx)
theorem Z7t {l:List Int} (h:Qkn l) (n:Nat):Qkn (l.drop n):=fun x hx=>h x (List.mem_of_mem_drop hx)
theorem Zpk {l:List Int} {i:Nat} (h:i<l.length):l.drop i=List.getD l i 0::l.drop (i+1):=by
 rw [List.getD_eq_getElem?_getD,List.getElem?_eq_getElem h,Option.getD_some,List.drop_eq_getElem_cons h]
theorem Zkx {l:List Int} (h:Qkn l) {i:Nat} (hi:i<l.length):0≤List.getD l i 0∧List.getD l i 0<256:=by
 rw [List.getD_eq_getElem?_getD,List.getElem?_eq_getElem hi,Option.getD_some]
 exact h _ (List.getElem_mem hi)
end Go.PE
