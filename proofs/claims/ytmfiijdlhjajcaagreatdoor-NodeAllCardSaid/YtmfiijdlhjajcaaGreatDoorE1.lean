/-
  The evaluator PE and its soundness, part 1.
  Conditions: none.
-/
import Derived.WalkKit
import Derived.Below
import Derived.Laws.OwnMore
import Derived.Laws.MakeOwn
import Derived.KernelRfl
import Derived.Laws.Strings
import Derived.WalkLawsBesides
import Derived.Laws.StructEq
namespace Go.PE
theorem bE {α β:Type} {x:Option α} {f:α→Option β} {b:β} (h:x.bind f=some b):∃ a,x=some a∧f a=some b:=Option.bind_eq_some_iff.1 h
theorem sI {α:Type} {a b:α} (h:some a=some b):a=b:=Option.some.inj h
end Go.PE
set_option linter.unusedVariables false
namespace Go.PE
inductive Ty where
 | int (k:IntKind)
 | bool
 | str
 | ifc
 | sl (eT:TypeId) (e:Ty)
 | pair (a b:Ty)
 | unit
inductive AT where
 | int (k:IntKind) (n:Int)
 | bool (b:Bool)
 | str (s:ByteArray)
 deriving DecidableEq
inductive IV where
 | nil
 | mk (T:TypeId) (cs:List AT)
 deriving DecidableEq
def Ty.den:Ty→Type
 | .int _=>Int
 | .bool=>Bool
 | .str=>ByteArray
 | .ifc=>IV
 | .sl _ e=>List e.den
 | .pair a b=>a.den × b.den
 | .unit=>Unit
def Ty.cells:Ty→Nat
 | .pair a b=>a.cells+b.cells
 | .unit=>0
 | _=>1
def Ty.dflt:(t:Ty)→t.den
 | .int _=>(0:Int)
 | .bool=>false
 | .str=>(⟨#[]⟩:ByteArray)
 | .ifc=>IV.nil
 | .sl _ _=>[]
 | .pair a b=>(a.dflt,b.dflt)
 | .unit=>()
def Ty.isAgg:Ty→Bool
 | .pair _ _=>true
 | .unit=>true
 | _=>false
def Qq:IntKind→Nat
 | .i8=>0 | .i16=>1 | .i32=>2 | .i64=>3 | .u8=>4 | .u16=>5 | .u32=>6 | .u64=>7
theorem Jw {a b:IntKind} (h:Qq a=Qq b):a=b:=by
 cases a<;>cases b<;>first | rfl | (exact absurd h (by decide))
def Ty.beq:Ty→Ty→Bool
 | .int k,.int k'=>Nat.beq (Qq k) (Qq k')
 | .bool,.bool=>true
 | .str,.str=>true
 | .ifc,.ifc=>true
 | .sl n e,.sl n' e'=>Nat.beq n n'&&Ty.beq e e'
 | .pair a b,.pair a' b'=>Ty.beq a a'&&Ty.beq b b'
 | .unit,.unit=>true
 | _,_=>false
theorem Ty.eq_of_beq:∀ {a b:Ty},Ty.beq a b=true→a=b:=by
 intro a
 induction a with
 | int k=>
  intro b h
  cases b with
  | int k'=>simp only [Ty.beq] at h;rw [Jw (Nat.eq_of_beq_eq_true h)]
  | _=>cases h
 | bool=>intro b h;cases b with | bool=>rfl | _=>cases h
 | str=>intro b h;cases b with | str=>rfl | _=>cases h
 | ifc=>intro b h;cases b with | ifc=>rfl | _=>cases h
 | sl n e ih=>
  intro b h
  cases b with
  | sl n' e'=>
   simp only [Ty.beq,Bool.and_eq_true] at h
   rw [Nat.eq_of_beq_eq_true h.1,ih h.2]
  | _=>cases h
 | pair a b d f=>
  intro c h
  cases c with
  | pair a' b'=>
   simp only [Ty.beq,Bool.and_eq_true] at h
   rw [d h.1,f h.2]
  | _=>cases h
 | unit=>intro b h;cases b with | unit=>rfl | _=>cases h
theorem Ty.beq_refl (a:Ty):Ty.beq a a=true:=by
 induction a<;>simp_all [Ty.beq]
def Zi (t t':Ty) (x:t.den):Option t'.den:=
 match h:Ty.beq t t' with
 | true=>some (Ty.eq_of_beq h▸x)
 | false=>none
theorem Z0 {t t':Ty} {x:t.den} {y:t'.den} (h:Zi t t' x=some y):∃ e:t=t',e▸x=y:=by
 unfold Zi at h
 split at h
 ·rename_i hb
  exact ⟨Ty.eq_of_beq hb,by simpa using h⟩
 ·cases h
theorem Qj3 (t:Ty) (x:t.den):Zi t t x=some x:=by
 unfold Zi
 split
 ·rfl
 ·rename_i h;rw [Ty.beq_refl] at h;cases h
def AT.val:AT→Value
 | .int k n=>.int k n
 | .bool b=>.bool b
 | .str s=>.string s
def Q4g:(t:Ty)→List AT→Option (t.den × List AT)
 | .int k,.int k' n::r=>if Nat.beq (Qq k) (Qq k') then some (n,r) else none
 | .bool,.bool b::r=>some (b,r)
 | .str,.str s::r=>some (s,r)
 | .pair a b,l=>(Q4g a l).bind fun x=>(Q4g b x.2).bind fun y=>some ((x.1,y.1),y.2)
 | .unit,l=>some ((),l)
 | _,_=>none
def IV.is:IV→TypeId→Bool
 | .nil,_=>false
 | .mk T _,A=>Nat.beq T A
def IV.isNil:IV→Bool
 | .nil=>true
 | .mk _ _=>false
def IV.val:IV→(t:Ty)→t.den
 | .nil,t=>t.dflt
 | .mk _ cs,t=>match Q4g t cs with
  | some (x,_)=>x
  | none=>t.dflt
def IV.value:IV→Value
 | .nil=>.nilIface
 | .mk T cs=>.iface T (.agg (cs.map AT.val).toArray)
section
variable (τ:TypeId→Option Ty)
def IV.ok:IV→Prop
 | .nil=>True
 | .mk T cs=>∀ t,τ T=some t→∃ x,Q4g t cs=some (x,[])
def Ja (w:World) (b o:Nat) (cs:List Value):Prop:=∀ j,j<cs.length→w.cell? ⟨b,o+j,none⟩=some (cs.getD j undef)
def Rep (S:Nat→Prop) (w:World):(t:Ty)→t.den→List Value→Prop
 | .int k,x,cs=>cs=[.int k x]
 | .bool,x,cs=>cs=[.bool x]
 | .str,x,cs=>cs=[.string x]
 | .ifc,x,cs=>cs=[IV.value x]∧IV.ok τ x
 | .sl _ e,(xs:List e.den),cs=>∃ A c,cs=[.slice A xs.length c]∧xs.length≤c∧c≤maxLen ∧
   (0<xs.length→∃ b o,A=some ⟨b,o,none⟩∧S b∧b<w.heap.size ∧
    ∀ i,i<xs.length→∃ ce,ce.length=e.cells∧Ja w b (o+i*e.cells) ce∧Rep S w e (List.getD xs i e.dflt) ce)
 | .pair a b,x,cs=>∃ c1 c2,cs=c1++c2∧Rep S w a x.1 c1∧Rep S w b x.2 c2
 | .unit,_,cs=>cs=[]
end
section
variable {τ:TypeId→Option Ty}
theorem Rep.length {S:Nat→Prop} {w:World}:∀ {t:Ty} {x:t.den} {cs:List Value},Rep τ S w t x cs→cs.length=t.cells:=by
 intro t
 induction t with
 | int k=>intro x cs h;simp only [Rep] at h;rw [h];rfl
 | bool=>intro x cs h;simp only [Rep] at h;rw [h];rfl
 | str=>intro x cs h;simp only [Rep] at h;rw [h];rfl
 | ifc=>intro x cs h;simp only [Rep] at h;rw [h.1];rfl
 | sl n e ih=>intro x cs h;obtain ⟨A,c,h,_⟩:=h;rw [h];rfl
 | pair a b d f=>intro x cs h;obtain ⟨c1,c2,h,h1,h2⟩:=h;rw [h,List.length_append,d h1,f h2];rfl
 | unit=>intro x cs h;simp only [Rep] at h;rw [h];rfl
theorem Ja.of_block {w w':World} {b o:Nat} {cs:List Value} (h:Ja w b o cs) (hb:w'.heap[b]?=w.heap[b]?):Ja w' b o cs:=
 fun j hj=>(World.cell?_of_block (w:=w) (a:=⟨b,o+j,none⟩) hb).trans (h j hj)
theorem Rep.frame {S S':Nat→Prop} {w w':World} (hS:∀ k,S k→S' k) (l:w.heap.size≤w'.heap.size)
  (hk:∀ k,S k→k<w.heap.size→w'.heap[k]?=w.heap[k]?) :
  ∀ {t:Ty} {x:t.den} {cs:List Value},Rep τ S w t x cs→Rep τ S' w' t x cs:=by
 intro t
 induction t with
 | int k=>intro x cs h;exact h
 | bool=>intro x cs h;exact h
 | str=>intro x cs h;exact h
 | ifc=>intro x cs h;exact h
 | sl n e ih=>
  intro x cs h
  obtain ⟨A,c,h,hc,hm,g⟩:=h
  refine ⟨A,c,h,hc,hm,fun hp=>?_⟩
  obtain ⟨b,o,hA,d,hb,hi⟩:=g hp
  refine ⟨b,o,hA,hS b d,Nat.lt_of_lt_of_le hb l,fun i j=>?_⟩
  obtain ⟨ce,hl,f,hr⟩:=hi i j
  exact ⟨ce,hl,f.of_block (hk b d hb),ih hr⟩
 | pair a b m p=>intro x cs h;obtain ⟨c1,c2,h,h1,h2⟩:=h;exact ⟨c1,c2,h,m h1,p h2⟩
 | unit=>intro x cs h;exact h
theorem Rep.mono {S S':Nat→Prop} {w:World} {t:Ty} {x:t.den} {cs:List Value} (h:Rep τ S w t x cs) (hS:∀ k,S k→S' k):Rep τ S' w t x cs:=
 h.frame hS (Nat.le_refl _) (fun _ _ _=>rfl)
def Ty.flat:Ty→Bool
 | .sl _ _=>false
 | .pair a b=>a.flat&&b.flat
 | _=>true
theorem Rep.flat {S S':Nat→Prop} {w w':World}:∀ {t:Ty} {x:t.den} {cs:List Value},t.flat=true→Rep τ S w t x cs→Rep τ S' w' t x cs:=by
 intro t
 induction t with
 | int k=>intro x cs _ h;exact h
 | bool=>intro x cs _ h;exact h
 | str=>intro x cs _ h;exact h
 | ifc=>intro x cs _ h;exact h
 | sl n e ih=>intro x cs hf;simp [Ty.flat] at hf
 | pair a b c d=>
  intro x cs hf h
  simp only [Ty.flat,Bool.and_eq_true] at hf
  obtain ⟨c1,c2,h,h1,h2⟩:=h
  exact ⟨c1,c2,h,c hf.1 h1,d hf.2 h2⟩
 | unit=>intro x cs _ h;exact h
theorem Rep.oneCell {S:Nat→Prop} {w:World}:∀ {t:Ty} {x:t.den} {cs:List Value},Rep τ S w t x cs→∀ u∈cs,u.oneCell'=true:=by
 intro t
 induction t with
 | int k=>intro x cs h u hu;simp only [Rep] at h;subst h;simp at hu;subst hu;rfl
 | bool=>intro x cs h u hu;simp only [Rep] at h;subst h;simp at hu;subst hu;rfl
 | str=>intro x cs h u hu;simp only [Rep] at h;subst h;simp at hu;subst hu;rfl
 | ifc=>intro x cs h u hu;obtain ⟨h,_⟩:=h;subst h;simp at hu;subst hu;cases x<;>rfl
 | sl n e ih=>intro x cs h u hu;obtain ⟨A,c,h,_⟩:=h;subst h;simp at hu;subst hu;rfl
 | pair a b d f=>
  intro x cs h u hu
  obtain ⟨c1,c2,h,h1,h2⟩:=h
  subst h
  rcases List.mem_append.1 hu with hu | hu
  ·exact d h1 u hu
  ·exact f h2 u hu
 | unit=>intro x cs h u hu;simp only [Rep] at h;subst h;simp at hu
end
end Go.PE
namespace Go.PE
abbrev Lab:=Nat × Nat
def Zj:List Ty→Type
 | []=>Unit
 | t::r=>t.den × Zj r
inductive LV where
 | pure (t:Ty) (x:t.den)
 | nil
 | lit (b:Bool)
 | ref (l:Lab)
 | ptr (l:Lab) (off:Nat)
 | gfn (f:FuncId)
 | clo (ps rs:List Ty) (g:Zj ps→Option (Zj rs))
 | nb (ne:Bool)
inductive CV where
 | one (v:LV)
 | agg (vs:List LV)
inductive SV where
 | dead
 | skip
 | cv (c:CV)
 | tup (cs:List CV)
 | ep (t:Ty) (x:t.den)
 | ap (l:Lab) (i:Int) (off sz:Nat)
 | win (l:Lab) (lo n sz:Nat)
 | tupe (l:Lab) (i:Int) (sz:Nat)
 | tupn (v:IV)
inductive Ob where
 | row (eT:TypeId) (e:Ty) (xs:List e.den)
 | box (T:TypeId) (vs:List LV)
 | arr (eT:TypeId) (e:Ty) (xs:List e.den)
 | lrow (eT:TypeId) (vs:List LV)
 | mem (eT:TypeId) (e:Ty) (ys:List (Option e.den)) (n0:Nat) (ex:Bool)
structure St where
 slots:List (Nat × SV)
 objs:List (Lab × Ob)
def Q9:List (Nat × SV)→Nat→SV
 | [],_=>.dead
 | (u,v)::r,t=>bif Nat.beq u t then v else Q9 r t
def Xh (a b:Lab):Bool:=Nat.beq a.1 b.1&&Nat.beq a.2 b.2
def Q0:List (Lab × Ob)→Lab→Option Ob
 | [],_=>none
 | (m,b)::r,l=>bif Xh m l then some b else Q0 r l
def Q46:List (Lab × Ob)→Lab→Ob→List (Lab × Ob)
 | [],_,_=>[]
 | (m,b)::r,l,x=>bif Xh m l then (m,x)::r else (m,b)::Q46 r l x
def Qk3 (o:List (Lab × Ob)) (l:Lab) (x:Ob):List (Lab × Ob):=
 match Q0 o l with
 | some _=>Q46 o l x
 | none=>(l,x)::o
def Ju:List (Lab × Ob)→Lab→List (Lab × Ob)
 | [],_=>[]
 | (m,b)::r,l=>bif Xh m l then Ju r l else (m,b)::Ju r l
inductive TD where
 | int (k:IntKind)
 | bool
 | str
 | ifc
 | slc (e:TypeId)
 | stc (fs:List (TypeId × Nat))
 | ptr (e:TypeId)
 | arr (n:Nat) (e:TypeId)
 | fnc
 | ovl (f:FuncId)
 | mth (T:TypeId) (name:String) (f:FuncId)
 | elt (f:FuncId) (W:TypeId) (k:IntKind) (c:Int) (sz:Nat)
abbrev Tab:=List (Nat × TD × Option Ty)
def Q4w:Tab→Nat→Option (TD × Option Ty)
 | [],_=>none
 | (u,v)::r,t=>bif Nat.beq u t then some v else Q4w r t
def Tab.ty (τ:Tab) (T:TypeId):Option Ty:=(Q4w τ T).bind (·.2)
def Tab.td (τ:Tab) (T:TypeId):Option TD:=(Q4w τ T).map (·.1)
def lvs:(t:Ty)→t.den→List LV
 | .pair a b,x=>lvs a x.1++lvs b x.2
 | .unit,_=>[]
 | .int k,x=>[.pure (.int k) x]
 | .bool,x=>[.pure .bool x]
 | .str,x=>[.pure .str x]
 | .ifc,x=>[.pure .ifc x]
 | .sl eT e,x=>[.pure (.sl eT e) x]
def Qc5 (t:Ty) (x:t.den):CV:=bif t.isAgg then .agg (lvs t x) else .one (.pure t x)
def Jp (o:Lab→Option Ob) (t:Ty):LV→Option t.den
 | .pure t' x=>Zi t' t x
 | .nil=>match t with
  | .sl _ _=>some []
  | _=>none
 | .lit b=>Zi .bool t b
 | .ref l=>match o l with
  | some (.row eT e xs)=>Zi (.sl eT e) t xs
  | some (.arr eT e xs)=>Zi (.sl eT e) t xs
  | _=>none
 | _=>none
def Q1t (o:Lab→Option Ob):(t:Ty)→List LV→Option (t.den × List LV)
 | .pair a b,l=>(Q1t o a l).bind fun x=>(Q1t o b x.2).bind fun y=>some ((x.1,y.1),y.2)
 | .unit,l=>some ((),l)
 | .int k,v::r=>(Jp o (.int k) v).bind fun x=>some (x,r)
 | .bool,v::r=>(Jp o .bool v).bind fun x=>some (x,r)
 | .str,v::r=>(Jp o .str v).bind fun x=>some (x,r)
 | .ifc,v::r=>(Jp o .ifc v).bind fun x=>some (x,r)
 | .sl eT e,v::r=>(Jp o (.sl eT e) v).bind fun x=>some (x,r)
 | _,[]=>none
def Q1h (o:Lab→Option Ob) (t:Ty):CV→Option t.den
 | .one v=>bif t.isAgg then none else Jp o t v
 | .agg vs=>bif t.isAgg then (match Q1t o t vs with | some (x,[])=>some x | _=>none) else none
def Q6h:(e:Ty)→e.den→Nat→(t:Ty)→Option t.den
 | .pair a b,x,off,t=>
  match (bif Nat.beq off 0 then Zi (.pair a b) t x else none) with
  | some y=>some y
  | none=>bif Nat.blt off a.cells then Q6h a x.1 off t else Q6h b x.2 (off - a.cells) t
 | e,x,off,t=>bif Nat.beq off 0 then Zi e t x else none
def Q9j:(e:Ty)→e.den→Nat→(t:Ty)→t.den→Option e.den
 | .pair a b,x,off,t,y=>
  match (bif Nat.beq off 0 then Zi t (.pair a b) y else none) with
  | some z=>some z
  | none=>bif Nat.blt off a.cells then (Q9j a x.1 off t y).bind fun z=>some (z,x.2)
   else (Q9j b x.2 (off - a.cells) t y).bind fun z=>some (x.1,z)
 | e,x,off,t,y=>bif Nat.beq off 0 then Zi t e y else none
def Qjq:Ty→LV
 | .sl _ _=>.nil
 | .bool=>.lit false
 | t=>.pure t t.dflt
def Q0m:Ty→List LV
 | .pair a b=>Q0m a++Q0m b
 | .unit=>[]
 | .sl _ _=>[.nil]
 | .bool=>[.lit false]
 | .int k=>[.pure (.int k) (0:Int)]
 | .str=>[.pure .str (⟨#[]⟩:ByteArray)]
 | .ifc=>[.pure .ifc IV.nil]
def Q3u:Value→Option LV
 | .int k n=>some (.pure (.int k) n)
 | .bool b=>some (.lit b)
 | .string s=>some (.pure .str s)
 | .slice none 0 0=>some .nil
 | .nilIface=>some (.pure .ifc IV.nil)
 | _=>none
def Qax (v:Value):SV:=
 match Q3u v with
 | some l=>.cv (.one l)
 | none=>.dead
def Qb (s:List (Nat × SV)):Operand→SV
 | .tmp t=>Q9 s t
 | .const v=>Qax v
 | .func f=>.cv (.one (.gfn f))
 | .global _=>.dead
def Q00:LV→Option Bool
 | .lit b=>some b
 | .pure .bool x=>some x
 | _=>none
def Xp:LV→Option (IntKind × Int)
 | .pure (.int k) n=>some (k,n)
 | _=>none
def Q2y:LV→Option ByteArray
 | .pure .str s=>some s
 | _=>none
def Qdj (op:BinOp) (k:IntKind) (a b:Int):Option (Bool × LV):=
 match op with
 | .add=>some (true,.pure (.int k) (k.wrap (a+b)))
 | .sub=>some (true,.pure (.int k) (k.wrap (a - b)))
 | .mul=>some (true,.pure (.int k) (k.wrap (a*b)))
 | .quo=>some (!(b==0),.pure (.int k) (k.wrap (a.tdiv b)))
 | .rem=>some (!(b==0),.pure (.int k) (a.tmod b))
 | .and=>some (true,.pure (.int k) (k.wrap ((BitVec.ofInt k.bits a &&& BitVec.ofInt k.bits b).toNat)))
 | .or=>some (true,.pure (.int k) (k.wrap ((BitVec.ofInt k.bits a ||| BitVec.ofInt k.bits b).toNat)))
 | .xor=>some (true,.pure (.int k) (k.wrap ((BitVec.ofInt k.bits a ^^^ BitVec.ofInt k.bits b).toNat)))
 | .andNot=>some (true,.pure (.int k) (k.wrap ((BitVec.ofInt k.bits a &&& ~~~BitVec.ofInt k.bits b).toNat)))
 | .eql=>some (true,.pure .bool (a==b))
 | .neq=>some (true,.pure .bool (a != b))
 | .lss=>some (true,.pure .bool (decide (a<b)))
 | .leq=>some (true,.pure .bool (decide (a≤b)))
 | .gtr=>some (true,.pure .bool (decide (a>b)))
 | .geq=>some (true,.pure .bool (decide (a ≥ b)))
 | _=>none
def Qex (op:BinOp) (k:IntKind) (a b:Int):Option (Bool × LV):=
 match op with
 | .shl=>some (decide (0≤b),.pure (.int k) (k.wrap (a*2 ^ (min b.toNat k.bits))))
 | .shr=>some (decide (0≤b),.pure (.int k) (a.fdiv (2 ^ (min b.toNat k.bits))))
 | _=>none
def Qek (a b:ByteArray):Bool:=a.data.toList==b.data.toList
theorem Q9b (a b:ByteArray):(a.toList==b.toList)=Qek a b:=by rw [ByteArray.toList_eq,ByteArray.toList_eq];rfl
def Qe8 (op:BinOp) (a b:ByteArray):Option (Bool × LV):=
 match op with
 | .add=>some (decide (a.size+b.size≤9223372036854775807),.pure .str (a++b))
 | .eql=>some (true,.pure .bool (Qek a b))
 | .neq=>some (true,.pure .bool (!(Qek a b)))
 | _=>none
def Qa7 (op:BinOp) (a b:Bool):Option (Bool × LV):=
 match op with
 | .eql=>some (true,.pure .bool (a==b))
 | .neq=>some (true,.pure .bool (!(a==b)))
 | _=>none
def Q97 (op:BinOp) (x y:LV):Option (Bool × LV):=
 match Xp x,Xp y with
 | some (k,a),some (k',b)=>
  match op with
  | .shl=>Qex .shl k a b
  | .shr=>Qex .shr k a b
  | op=>bif Nat.beq (Qq k) (Qq k') then Qdj op k a b else none
 | _,_=>
  match Q2y x,Q2y y with
  | some a,some b=>Qe8 op a b
  | _,_=>
   match Q00 x,Q00 y with
   | some a,some b=>Qa7 op a b
   | _,_=>none
def Q1n (τ:Tab):Nat→List (TypeId × Nat)→Bool
 | _,[]=>true
 | i,f::r=>Nat.beq f.2 i&&(match τ.td f.1,τ.ty f.1 with | some (.int _),some (.int _)=>true | some .str,some .str=>true | some .bool,some .bool=>true | _,_=>false)&&Q1n τ (i+1) r
def Qi4 (τ:Tab):List (TypeId × Nat)→List LV→List LV→Option Bool
 | [],[],[]=>some true
 | f::r,x::p,y::q=>
  (match τ.td f.1 with
   | some (.int _)=>(Xp x).bind fun a=>(Xp y).bind fun b=>bif Nat.beq (Qq a.1) (Qq b.1) then some (a.2==b.2) else none
   | some .str=>(Q2y x).bind fun a=>(Q2y y).bind fun b=>some (Qek a b)
   | some .bool=>(Q00 x).bind fun a=>(Q00 y).bind fun b=>some (a==b)
   | _=>none).bind fun b=>(Qi4 τ r p q).bind fun c=>some (b&&c)
 | _,_,_=>none
def Q4k:Operand→Bool
 | .const .nilIface=>true
 | _=>false
def Qis (op:UnOp) (x:LV):Option LV:=
 match op with
 | .not=>(Q00 x).bind fun b=>some (.pure .bool (!b))
 | .neg=>(Xp x).bind fun p=>some (.pure (.int p.1) (p.1.wrap (0 - p.2)))
 | .xor=>(Xp x).bind fun p=>some (.pure (.int p.1) (p.1.wrap ((BitVec.ofInt p.1.bits (if p.1.signed then -1 else p.1.max) ^^^ BitVec.ofInt p.1.bits p.2).toNat)))
 | _=>none
def Q58 (xs:List Int):ByteArray:=⟨(xs.map fun n=>UInt8.ofNat n.toNat).toArray⟩
def Qjb (o:Lab→Option Ob):LV→Option Bool
 | .pure (.sl _ e) xs=>some (!(List.isEmpty xs))
 | .ref l=>match o l with
  | some (.row _ _ xs)=>some (!(List.isEmpty xs))
  | _=>none
 | _=>none
def Qec:LV→Option AT
 | .pure (.int k) n=>some (.int k n)
 | .pure .bool b=>some (.bool b)
 | .lit b=>some (.bool b)
 | .pure .str s=>some (.str s)
 | _=>none
def Q90:List LV→Option (List AT)
 | []=>some []
 | v::r=>(Qec v).bind fun a=>(Q90 r).bind fun l=>some (a::l)
abbrev Upd:=List (Lab × Ob)
abbrev Res:=Option (Bool × SV × Upd)
def Jd:SV→Option LV
 | .cv (.one v)=>some v
 | _=>none
def Q43 (τ:Tab) (T:TypeId) (j:Nat):Option (TypeId × Nat):=
 match τ.td T with
 | some (.stc fs)=>fs[j]?
 | _=>none
def Q7c (τ:Tab) (o:Lab→Option Ob) (T:TypeId) (x:SV):Res:=
 (τ.ty T).bind fun t=>
  match x with
  | .ep t' y=>(Zi t' t y).bind fun z=>some (true,.cv (Qc5 t z),[])
  | .cv (.one (.ptr l off))=>match o l with
   | some (.box _ vs)=>
    bif t.isAgg then (bif Nat.ble (off+t.cells) vs.length then some (true,.cv (.agg ((vs.drop off).take t.cells)),[]) else none)
    else (vs[off]?).bind fun v=>some (true,.cv (.one v),[])
   | _=>none
  | .ap l i off sz=>match o l with
   | some (.row _ e xs)=>(bif Nat.beq sz e.cells then Q6h e (List.getD xs i.toNat e.dflt) off t else none).bind fun z=>some (decide (0≤i)&&decide (i<xs.length),.cv (Qc5 t z),[])
   | some (.arr _ e xs)=>(bif Nat.beq sz e.cells then Q6h e (List.getD xs i.toNat e.dflt) off t else none).bind fun z=>some (decide (0≤i)&&decide (i<xs.length),.cv (Qc5 t z),[])
   | some (.lrow _ vs)=>bif Nat.beq sz 1&&Nat.beq off 0&&!t.isAgg&&decide (0≤i)&&decide (i<vs.length) then (vs[i.toNat]?).bind fun v=>some (true,.cv (.one v),[]) else none
   | _=>none
  | _=>none
def Q10:List LV→Nat→List LV→List LV
 | vs,_,[]=>vs
 | vs,off,x::r=>Q10 (vs.set off x) (off+1) r
def Qf4:LV→Bool
 | .ref _=>false
 | .ptr _ _=>false
 | _=>true
def Q07:CV→Bool
 | .one u=>Qf4 u
 | .agg us=>us.all Qf4
def Xt:CV→List LV
 | .one v=>[v]
 | .agg vs=>vs
def Qd {α:Type}:List (Option α)→Option (List α)
 | []=>some []
 | some x::r=>(Qd r).bind fun l=>some (x::l)
 | none::_=>none
def Q5a {α:Type}:List (Option α)→Bool
 | []=>true
 | some _::r=>Q5a r
 | none::_=>false
def Qg8 {α:Type} (d:α):List (Option α)→List α
 | []=>[]
 | some x::r=>x::Qg8 d r
 | none::r=>d::Qg8 d r
theorem Q4e {α:Type} (d:α):∀ {l:List (Option α)},Q5a l=true→Qd l=some (Qg8 d l)
 | [],_=>rfl
 | some x::r,h=>by
  have h:Q5a r=true:=h
  show (Qd r).bind _=_
  rw [Q4e d h];rfl
 | none::r,h=>by cases h
def Qaf (τ:Tab) (o:Lab→Option Ob) (T:TypeId) (x v:SV):Res:=
 (τ.ty T).bind fun t=>
  match v with
  | .cv c=>
   match x with
   | .cv (.one (.ptr l off))=>match o l with
    | some (.box B vs)=>
     let cs:=Xt c
     bif Nat.beq cs.length t.cells&&Nat.ble (off+t.cells) vs.length then some (true,.dead,[(l,.box B (Q10 vs off cs))]) else none
    | _=>none
   | .ap l i off sz=>match o l with
    | some (.row eT e xs)=>(bif Nat.beq sz e.cells then some () else none).bind fun _=>(Q1h o t c).bind fun y=>(Q9j e (List.getD xs i.toNat e.dflt) off t y).bind fun z=>
      bif Q07 c then
      some (decide (0≤i)&&decide (i<xs.length),.dead,[(l,.row eT e (List.set xs i.toNat z))]) else none
    | some (.arr eT e xs)=>(bif Nat.beq sz e.cells then some () else none).bind fun _=>(Q1h o t c).bind fun y=>(Q9j e (List.getD xs i.toNat e.dflt) off t y).bind fun z=>
      bif Q07 c then
      some (decide (0≤i)&&decide (i<xs.length),.dead,[(l,.arr eT e (List.set xs i.toNat z))]) else none
    | some (.mem eT e ys n0 ex)=>(bif Nat.beq sz e.cells&&Nat.beq off 0 then some () else none).bind fun _=>(Q1h o t c).bind fun y=>(Zi t e y).bind fun z=>
      bif Q07 c then
      some (decide (0≤i)&&decide (i<(n0:Int))&&Nat.ble n0 ys.length&&Q5a ((List.set ys i.toNat (some z)).take n0),.dead,[(l,.row eT e (Qg8 e.dflt ((List.set ys i.toNat (some z)).take n0)))]) else none
    | _=>none
   | _=>none
  | _=>none
def Q3n (τ:Tab) (T:TypeId) (j:Nat) (x:SV):Res:=
 (Q43 τ T j).bind fun f=>(τ.ty f.1).bind fun t=>
  bif Nat.beq t.cells 0 then none else
  match x with
  | .cv (.one (.ptr l off))=>some (true,.cv (.one (.ptr l (off+f.2))),[])
  | .ap l i off sz=>some (true,.ap l i (off+f.2) sz,[])
  | .ep t' y=>(Q6h t' y f.2 t).bind fun z=>some (true,.ep t z,[])
  | _=>none
def Qad (τ:Tab) (T:TypeId) (j:Nat) (x:SV):Res:=
 (Q43 τ T j).bind fun f=>(τ.ty f.1).bind fun t=>
  match x with
  | .cv (.agg vs)=>
   bif t.isAgg then (bif Nat.ble (f.2+t.cells) vs.length then some (true,.cv (.agg ((vs.drop f.2).take t.cells)),[]) else none)
   else (vs[f.2]?).bind fun v=>some (true,.cv (.one v),[])
  | _=>none
def Q3g (τ:Tab) (o:Lab→Option Ob) (T:TypeId) (x ix:SV):Res:=
 (Jd ix).bind fun iv=>(Xp iv).bind fun p=>
  match τ.td T with
  | some (.slc eT)=>(τ.ty eT).bind fun e0=>
   match x with
   | .cv (.one (.pure (.sl _ e) xs))=>bif Ty.beq e0 e then some (decide (0≤p.2)&&decide (p.2<List.length xs),.ep e (List.getD xs p.2.toNat e.dflt),[]) else none
   | .cv (.one (.ref l))=>match o l with
    | some (.row _ e xs)=>bif Ty.beq e0 e then some (decide (0≤p.2)&&decide (p.2<xs.length),.ap l p.2 0 e.cells,[]) else none
    | some (.arr _ e xs)=>bif Ty.beq e0 e then some (decide (0≤p.2)&&decide (p.2<xs.length),.ap l p.2 0 e.cells,[]) else none
    | some (.lrow _ vs)=>bif Nat.beq e0.cells 1&&decide (0≤p.2)&&decide (p.2<vs.length) then some (true,.ap l p.2 0 1,[]) else none
    | some (.mem _ e _ n0 _)=>bif Ty.beq e0 e then some (decide (0≤p.2)&&decide (p.2<(n0:Int)),.ap l p.2 0 e.cells,[]) else none
    | _=>none
   | _=>none
  | some (.arr n eT)=>(τ.ty eT).bind fun e0=>
   match x with
   | .cv (.one (.ptr l 0))=>match o l with
    | some (.arr _ e xs)=>bif Ty.beq e0 e&&Nat.ble 2 n then some (decide (0≤p.2)&&decide (p.2<(n:Int))&&decide (p.2<xs.length),.ap l p.2 0 e.cells,[]) else none
    | _=>none
   | .ep t y=>(match (Jd ix) with
    | some (.pure (.int _) m)=>(Q6h t y (m.toNat*e0.cells) e0).bind fun z=>bif Nat.beq e0.cells 0 then none else some (decide (0≤p.2)&&decide (p.2<(n:Int)),.ep e0 z,[])
    | _=>none)
   | _=>none
  | _=>none
def Qao (τ:Tab) (T:TypeId) (x ix:SV):Res:=
 (Jd x).bind fun xv=>(Jd ix).bind fun iv=>(Xp iv).bind fun p=>
  match τ.td T,Q2y xv with
  | some .str,some s=>some (decide (0≤p.2)&&decide (p.2<(s.size:Int)),.cv (.one (.pure (.int .u8) ((s.data.getD p.2.toNat 0).toNat:Int))),[])
  | _,_=>none
def Q0e (ρ:Operand→SV) (x:Option Operand) (d:Int):Option Int:=
 match x with
 | none=>some d
 | some y=>(Jd (ρ y)).bind fun v=>(Xp v).bind fun p=>some p.2
def Qaa (τ:Tab) (T:TypeId) (x:SV) (lo hi:Int):Res:=
 (Jd x).bind fun v=>
  match τ.td T with
  | some .str=>(Q2y v).bind fun s=>
    some (decide (0≤lo)&&decide (lo≤hi)&&decide (hi≤(s.size:Int)),.cv (.one (.pure .str (s.extract lo.toNat hi.toNat))),[])
  | some (.slc eT)=>(τ.ty eT).bind fun e0=>match v with
   | .pure (.sl eT' e) xs=>bif Nat.beq eT eT'&&Ty.beq e0 e then
     some (decide (0≤lo)&&decide (lo≤hi)&&decide (hi≤(List.length xs:Int)),.cv (.one (.pure (.sl eT' e) ((List.take hi.toNat xs).drop lo.toNat))),[]) else none
   | _=>none
  | _=>none
def Q2v (o:Lab→Option Ob):SV→Option Int
 | .cv (.one (.pure (.sl _ e) xs))=>some (List.length xs:Int)
 | .cv (.one (.pure .str s))=>some (s.size:Int)
 | .cv (.one .nil)=>some 0
 | .cv (.one (.ref l))=>match o l with
  | some (.row _ _ xs)=>some (xs.length:Int)
  | some (.arr _ _ xs)=>some (xs.length:Int)
  | some (.lrow _ vs)=>some (vs.length:Int)
  | some (.mem _ _ _ n0 _)=>some (n0:Int)
  | _=>none
 | .win _ _ n _=>some (n:Int)
 | _=>none
def Q6 {α:Type} (ys:List (Option α)) (p:Nat) (xs:List α):List (Option α):=ys.take p++xs.map some++ys.drop (p+xs.length)
def Q54:List (Nat × Bool)→Nat→Option Bool
 | [],_=>none
 | (u,b)::r,t=>bif Nat.beq u t then some b else Q54 r t
def Q2a (kn:List (Nat × Bool)) (d:Option Nat):List (Nat × Bool):=
 match d with
 | none=>kn
 | some t=>kn.filter fun p=>!(Nat.beq p.1 t)
def Qe2 (kn:List (Nat × Bool)) (c:Operand) (ρ:Operand→SV) (a b:Operand):Res:=
 let d:Option Bool:=match c with
  | .tmp t=>Q54 kn t
  | _=>none
 match d with
 | some true=>some (true,ρ a,[])
 | some false=>some (true,ρ b,[])
 | none=>match Jd (ρ c) with
  | some (.lit true)=>some (true,ρ a,[])
  | some (.lit false)=>some (true,ρ b,[])
  | some cv=>(Q00 cv).bind fun q=>(Jd (ρ a)).bind fun x=>(Jd (ρ b)).bind fun y=>
    match Q00 x,Q00 y with
    | some p,some r=>some (true,.cv (.one (.pure .bool (bif q then p else r))),[])
    | _,_=>none
  | none=>none
def Q5p (τ:Tab) (o:Lab→Option Ob) (a dst:TypeId) (x:SV):Res:=
 (Jd x).bind fun v=>
  match τ.td a,τ.td dst with
  | some (.int _),some (.int k)=>(Xp v).bind fun p=>some (true,.cv (.one (.pure (.int k) (k.wrap p.2))),[])
  | some .str,some .str=>(Q2y v).bind fun s=>some (true,.cv (.one (.pure .str s)),[])
  | some (.slc eT),some .str=>match τ.td eT with
   | some (.int .u8)=>(Jp o (.sl eT (.int .u8)) v).bind fun xs=>some (true,.cv (.one (.pure .str (Q58 xs))),[])
   | _=>none
  | _,_=>none
def Qju:LV→Bool
 | .pure t _=>t.flat
 | .lit _=>true
 | _=>false
def Q22 (τ:Tab) (ρ:Operand→SV) (o:Lab→Option Ob) (eT:TypeId) (e:Ty):Nat→List (Nat × Operand)→Option (List e.den)
 | _,[]=>some []
 | i,(j,x)::r=>bif Nat.beq i j then
   (match ρ x with
    | .cv c=>(bif Q07 c then Q1h o e c else none).bind fun y=>
      (Q22 τ ρ o eT e (i+1) r).bind fun l=>some (y::l)
    | _=>none)
   else none
def Q25 (ρ:Operand→SV):Nat→List (Nat × Operand)→Option (List LV)
 | _,[]=>some []
 | i,(j,x)::r=>bif Nat.beq i j then
   (match ρ x with
    | .cv (.one (.ref l))=>(Q25 ρ (i+1) r).bind fun vs=>some (.ref l::vs)
    | _=>none)
   else none
def Q9f (ρ:Operand→SV):List (Nat × Operand)→Bool
 | (_,x)::_=>(match ρ x with | .cv (.one (.ref l))=>Nat.beq l.2 77777 | _=>false)
 | []=>false
def Q01 (fs:List (TypeId × Nat)) (τ:Tab) (ρ:Operand→SV):List LV→List (Nat × Operand)→Option (List LV)
 | vs,[]=>some vs
 | vs,(j,x)::r=>(fs[j]?).bind fun f=>(τ.ty f.1).bind fun t=>
   match ρ x with
   | .cv c=>
    let cs:=Xt c
    bif Nat.beq cs.length t.cells&&Nat.ble (f.2+t.cells) vs.length then Q01 fs τ ρ (Q10 vs f.2 cs) r else none
   | _=>none
def Qe9 (τ:Tab) (T:TypeId):Bool:=
 match τ.td T with
 | some .ifc=>true
 | _=>false
def Q71 (op:BinOp) (b:Bool):Res:=
 match op with
 | .eql=>some (true,.cv (.one (.pure .bool b)),[])
 | .neq=>some (true,.cv (.one (.pure .bool (!b))),[])
 | _=>none
def Qa9 (τ:Tab) (T:TypeId) (v:LV):Bool:=
 match Q00 v,τ.td T with
 | some _,some .bool=>true
 | some _,_=>false
 | _,_=>true
def Q7g (τ:Tab) (T:TypeId) (v:SV):Bool:=
 match τ.td T,v with
 | some .str,.cv (.one (.pure .str _))=>true
 | some (.slc _),.cv (.one (.pure .str _))=>false
 | some (.slc _),_=>true
 | _,_=>false
def Q64:Operand→Option Nat
 | .const (.int .i64 n)=>bif decide (0≤n) then some n.toNat else none
 | _=>none
def Qgs (τ:Tab) (dst:Nat) (T:TypeId) (n c:Option Nat):Res:=
 match τ.td T,n,c with
 | some (.slc eT),some n,some c=>(τ.ty eT).bind fun e=>bif Nat.beq n c&&Nat.ble (n*e.cells) 16777216 then
   some (true,.cv (.one (.ref (dst,77777))),[((dst,77777),.row eT e (List.replicate n e.dflt))]) else none
 | _,_,_=>none
def ev1 (τ:Tab) (kn:List (Nat × Bool)) (ρ:Operand→SV) (o:Lab→Option Ob) (dst:Nat) (op:Op) (ty:TypeId):Res:=
 match op with
 | .move x=>some (true,ρ x,[])
 | .assign x=>some (true,ρ x,[])
 | .pick c a b=>Qe2 kn c ρ a b
 | .load T x=>Q7c τ o T (ρ x)
 | .store T x v=>Qaf τ o T (ρ x) (ρ v)
 | .nilCheck x=>match ρ x with
  | .cv (.one (.ptr l off))=>some (true,.cv (.one (.ptr l off)),[])
  | .ep t y=>some (true,.ep t y,[])
  | .ap l i off sz=>some (true,.ap l i off sz,[])
  | _=>none
 | .fieldAddr T x j=>Q3n τ T j (ρ x)
 | .field T x j=>Qad τ T j (ρ x)
 | .indexAddr T x ix=>Q3g τ o T (ρ x) (ρ ix)
 | .index T x ix=>Qao τ T (ρ x) (ρ ix)
 | .extract x j=>match ρ x with
  | .tup cs=>(cs[j]?).bind fun c=>some (true,.cv c,[])
  | .tupe l i sz=>(match j with
   | 0=>some (true,.ap l i 0 sz,[])
   | 1=>some (true,.cv (.one (.pure .ifc IV.nil)),[])
   | _=>none)
  | .tupn v=>(match j with
   | 0=>some (true,.dead,[])
   | 1=>some (true,.cv (.one (.pure .ifc v)),[])
   | _=>none)
  | _=>none
 | .binOp bop T x y _=>
  match ρ x,ρ y with
  | .cv (.one (.pure .ifc v)),.cv (.one w)=>bif Q4k y&&Qe9 τ T then Q71 bop (IV.isNil v) else none
  | .cv (.one v),.cv (.one .nil)=>(match τ.td T with
    | some (.slc eT)=>(Qjb o v).bind fun ne=>(match bop with
     | .eql=>some (true,.cv (.one (.nb ne)),[])
     | _=>none)
    | _=>none)
  | .cv (.one v),.cv (.one w)=>
   bif Qa9 τ T v then
   (Q97 bop v w).bind fun r=>some (r.1,.cv (.one r.2),[]) else none
  | .cv (.agg vs),.cv (.agg ws)=>match τ.td T with
   | some (.stc fs)=>bif Q1n τ 0 fs then (Qi4 τ fs vs ws).bind fun b=>Q71 bop b else none
   | _=>none
  | _,_=>none
 | .unOp uop _ x=>(Jd (ρ x)).bind fun v=>(Qis uop v).bind fun r=>some (true,.cv (.one r),[])
 | .convert s d x=>Q5p τ o s d (ρ x)
 | .slice T x lo hi none=>(Q2v o (ρ x)).bind fun n=>(Q0e ρ lo 0).bind fun l=>(Q0e ρ hi n).bind fun h=>Qaa τ T (ρ x) l h
 | .alloc T=>match τ.td T with
  | some (.arr n eT)=>(τ.ty eT).bind fun e=>bif Nat.ble (n*e.cells) 16777216&&Nat.beq e.cells 1&&e.flat then
    some (true,.cv (.one (.ptr (dst,0) 0)),[((dst,0),.arr eT e (List.replicate n e.dflt))]) else none
  | _=>(τ.ty T).bind fun t=>some (true,.cv (.one (.ptr (dst,0) 0)),[((dst,0),.box T (Q0m t))])
 | .box T x=>(τ.ty T).bind fun t=>match ρ x with
  | .cv c=>
   let cs:=Xt c
   bif Nat.beq cs.length t.cells then some (true,.cv (.one (.ptr (dst,0) 0)),[((dst,0),.box T cs)]) else none
  | _=>none
 | .build T parts=>match τ.td T with
  | some (.stc fs)=>(τ.ty T).bind fun t=>(Q01 fs τ ρ (Q0m t) parts.toList).bind fun vs=>some (true,.cv (.agg vs),[])
  | _=>none
 | .buildSlice T n parts=>match τ.td T with
  | some (.slc eT)=>(τ.ty eT).bind fun e=>bif Nat.beq parts.toList.length n&&Nat.ble (n*e.cells) 16777216 then
    bif Q9f ρ parts.toList&&Nat.beq e.cells 1 then (Q25 ρ 0 parts.toList).bind fun vs=>some (true,.cv (.one (.ref (dst,0))),[((dst,0),.lrow eT vs)])
    else (Q22 τ ρ o eT e 0 parts.toList).bind fun xs=>some (true,.cv (.one (.ref (dst,0))),[((dst,0),.row eT e xs)]) else none
  | _=>none
 | .makeSlice T l c=>Qgs τ dst T (Q64 l) (Q64 c)
 | .makeInterface T x=>match τ.td T,ρ x with
  | some (.stc _),.cv (.agg vs)=>(τ.ty T).bind fun t=>(Q90 vs).bind fun l=>(Q4g t l).bind fun p=>match p.2 with
    | []=>some (true,.cv (.one (.pure .ifc (IV.mk T l))),[])
    | _=>none
  | _,_=>none
 | .typeAssert x X A true=>match τ.td A,τ.td X,ρ x with
  | some (.stc _),some .ifc,.cv (.one (.pure .ifc v))=>(τ.ty A).bind fun t=>some (true,.tup [.agg (lvs t (IV.val (bif IV.is v A then v else IV.nil) t)),.one (.pure .bool (IV.is v A))],[])
  | _,_,_=>none
 | .call { callee:=.builtin .len,args:=args,argTypes:=ts }=>match args.toList,ts.toList with
  | [x],[T]=>(Q2v o (ρ x)).bind fun n=>bif Q7g τ T (ρ x) then
    some (true,.cv (.one (.pure (.int .i64) n)),[]) else none
  | _,_=>none
 | .call { callee:=.builtin .max,args:=args,argTypes:=_ }=>match args.toList with
  | [x,y]=>(Jd (ρ x)).bind fun a=>(Jd (ρ y)).bind fun b=>(Xp a).bind fun p=>(Xp b).bind fun q=>
    bif Nat.beq (Qq p.1) (Qq q.1) then some (true,.cv (.one (.pure (.int p.1) (if q.2>p.2 then q.2 else p.2))),[]) else none
  | _=>none
 | .call { callee:=.builtin .min,args:=args,argTypes:=_ }=>match args.toList with
  | [x,y]=>(Jd (ρ x)).bind fun a=>(Jd (ρ y)).bind fun b=>(Xp a).bind fun p=>(Xp b).bind fun q=>
    bif Nat.beq (Qq p.1) (Qq q.1) then some (true,.cv (.one (.pure (.int p.1) (if q.2<p.2 then q.2 else p.2))),[]) else none
  | _=>none
 | _=>none
end Go.PE
namespace Go.PE
inductive PK where
 | val (t:Ty)
 | box (T:TypeId) (t:Ty) (own:List Bool)
 | rbox (t:Ty)
 | fn (ps rs:List Ty)
 | own (eT:TypeId) (e:Ty)
 | ownc (eT:TypeId) (e:Ty)
 | ownh (eT:TypeId) (e:Ty)
 | io (eT:TypeId) (e:Ty)
structure RK where
 t:Ty
 own:List Bool
 ptr:Option TypeId
def PD:PK→Type
 | .val t=>t.den
 | .box _ t _=>t.den
 | .rbox t=>t.den
 | .fn ps rs=>Zj ps→Option (Zj rs)
 | .own _ e=>List e.den
 | .ownc _ e=>List e.den
 | .ownh _ e=>List (Option e.den)
 | .io _ e=>List e.den
def PDs:List PK→Type
 | []=>Unit
 | p::r=>PD p × PDs r
def ODs:List PK→Type
 | []=>Unit
 | .box _ t _::r=>t.den × ODs r
 | .io _ e::r=>List e.den × ODs r
 | _::r=>ODs r
def RDs:List RK→Type
 | []=>Unit
 | k::r=>k.t.den × RDs r
structure Ent where
 ps:List PK
 rs:List RK
 G:PDs ps→Option (RDs rs × ODs ps)
abbrev Ctx:=List (Nat × Ent)
def Q8w:Ctx→Nat→Option Ent
 | [],_=>none
 | (u,v)::r,t=>bif Nat.beq u t then some v else Q8w r t
def Qw:LV→List Lab
 | .ref l=>[l]
 | .ptr l _=>[l]
 | _=>[]
def Q0w:CV→List Lab
 | .one v=>Qw v
 | .agg vs=>vs.flatMap Qw
def Qe:SV→List Lab
 | .cv c=>Q0w c
 | .tup cs=>cs.flatMap Q0w
 | .ap l _ _ _=>[l]
 | .win l _ _ _=>[l]
 | .tupe l _ _=>[l]
 | _=>[]
def Qz:Ob→List Lab
 | .box _ vs=>vs.flatMap Qw
 | .lrow _ vs=>vs.flatMap Qw
 | _=>[]
def Xw (l:Lab):List Lab→Bool
 | []=>false
 | m::r=>Xh m l||Xw l r
def Q76 (t:Nat):List Nat→Bool
 | []=>false
 | m::r=>Nat.beq m t||Q76 t r
def X2 (st:St) (l:Lab):Bool:=
 (match Q0 st.objs l with | none=>true | some _=>false) &&
 st.slots.all (fun p=>!(Xw l (Qe p.2)))&&st.objs.all (fun p=>!(Xw l (Qz p.2)))
def Qbr (f:LV→LV):CV→CV
 | .one v=>.one (f v)
 | .agg vs=>.agg (vs.map f)
def Q0y (f:LV→LV) (g:Lab→Lab):SV→SV
 | .cv c=>.cv (Qbr f c)
 | .tup cs=>.tup (cs.map (Qbr f))
 | .ap l i off sz=>.ap (g l) i off sz
 | .win l lo n sz=>.win (g l) lo n sz
 | .tupe l i sz=>.tupe (g l) i sz
 | v=>v
def Q0a (f:LV→LV):Ob→Ob
 | .box T vs=>.box T (vs.map f)
 | .lrow eT vs=>.lrow eT (vs.map f)
 | o=>o
def Q45 (l:Lab) (v:LV):LV→LV
 | .ref m=>bif Xh m l then v else .ref m
 | u=>u
def Q36 (l:Lab):SV→SV
 | .ap m i off sz=>bif Xh m l then .dead else .ap m i off sz
 | .win m lo n sz=>bif Xh m l then .dead else .win m lo n sz
 | .tupe m i sz=>bif Xh m l then .dead else .tupe m i sz
 | v=>v
def frz (st:St) (l:Lab):Option St:=
 match Q0 st.objs l with
 | some (.row eT e xs)=>
  let f:=Q45 l (.pure (.sl eT e) xs)
  some { slots:=st.slots.map fun p=>(p.1,Q36 l (Q0y f id p.2)),objs:=(Ju st.objs l).map fun p=>(p.1,Q0a f p.2) }
 | _=>none
def Q1w (st:St):List Lab→Option St
 | []=>some st
 | l::r=>match Q0 st.objs l with
  | some (.row _ _ _)=>(frz st l).bind fun s=>Q1w s r
  | _=>Q1w st r
def Jv (l m:Lab):LV→LV
 | .ref k=>bif Xh k l then .ref m else .ref k
 | u=>u
def ren (st:St) (l m:Lab):Option St:=
 bif Xh l m then some st else
 match Q0 st.objs l with
 | some (.row eT e xs)=>bif X2 st m then
   some { slots:=st.slots.map fun p=>(p.1,Q0y (Jv l m) (fun k=>bif Xh k l then m else k) p.2),objs:=(Ju st.objs l).map (fun p=>(p.1,Q0a (Jv l m) p.2))++[(m,.row eT e xs)] } else none
 | some (.lrow eT vs)=>bif X2 st m&&!(Xw l (vs.flatMap Qw)) then
   some { slots:=st.slots.map fun p=>(p.1,Q0y (Jv l m) (fun k=>bif Xh k l then m else k) p.2),objs:=(Ju st.objs l).map (fun p=>(p.1,Q0a (Jv l m) p.2))++[(m,.lrow eT vs)] } else none
 | _=>none
def Zt:List Lab→Bool
 | []=>true
 | l::r=>!(Xw l r)&&Zt r
def has (o:List (Lab × Ob)) (l:Lab):Bool:=match Q0 o l with | some _=>true | none=>false
def delAll (st:St):List Lab→St
 | []=>st
 | l::r=>delAll { st with objs:=Ju st.objs l } r
def Xl (d:Nat) (u:Upd):Upd:=u.filter fun p=>Nat.beq p.1.1 d
def Zh (d:Nat) (u:Upd):Upd:=u.filter fun p=>!(Nat.beq p.1.1 d)
def Q2n (o:List (Lab × Ob)):Upd→List (Lab × Ob)
 | []=>o
 | (l,x)::r=>Q2n (Q46 o l x) r
def Qs (st:St) (d:Nat) (u:Upd):Option St:=
 bif Zt (u.map (·.1))&&(Zh d u).all (fun p=>has st.objs p.1)&&(Xl d u).all (fun p=>X2 (delAll st ((Zh d u).map (·.1))) p.1) then
  some { st with objs:=Xl d u++Q2n st.objs (Zh d u) } else none
def Q2b (st:St) (dst:Option Nat) (v:SV):St:=
 match dst with
 | some d=>{ st with slots:=(d,v)::st.slots }
 | none=>st
noncomputable def Q35 {R:Type} (a b:Option R):Option R:=
 match Classical.propDecidable (a=b) with
 | .isTrue _=>a
 | .isFalse _=>none
theorem Qbn {R:Type} (a:Option R):Q35 a a=a:=by
 unfold Q35;split<;>first | rfl | contradiction
theorem Qfd {R:Type} {a b:Option R} (h:a=b):Q35 a b=a:=by subst h;exact Qbn a
def Q6x (o:Lab→Option Ob) (eT:TypeId) (e:Ty):LV→Option (List Lab × List e.den)
 | .nil=>some ([],[])
 | .ref l=>match o l with
  | some (.row eT' e' xs)=>bif Nat.beq eT eT' then (Zi (.sl eT e') (.sl eT e) xs).bind fun ys=>some ([l],ys) else none
  | _=>none
 | _=>none
def Q75 (τ:Tab) (o:Lab→Option Ob) (eT:TypeId) (e:Ty) (T:TypeId) (v:LV):Option (List e.den):=
 match τ.td T with
 | some .str=>(Q2y v).bind fun s=>Zi (.sl eT (.int .u8)) (.sl eT e) (s.data.toList.map fun b=>(b.toNat:Int))
 | some (.slc eT')=>bif Nat.beq eT eT' then Jp o (.sl eT e) v else none
 | _=>none
def Q77 (τ:Tab) (st:St) (ρ:Operand→SV) (d:Nat) (s x:Operand) (T T':TypeId):Option (Bool × SV × List Lab × Upd):=
 match τ.td T with
 | some (.slc eT)=>(τ.ty eT).bind fun e=>(Jd (ρ s)).bind fun sv=>(Jd (ρ x)).bind fun xv=>
   (Q6x (Q0 st.objs) eT e sv).bind fun b=>(Q75 τ (Q0 st.objs) eT e T' xv).bind fun ys=>
   bif b.1.all (fun l=>!(Xw l (Qw xv))) then
   some (Nat.ble (b.2.length+ys.length) 1073741824,.cv (.one (.ref (d,0))),b.1,[((d,0),.row eT e (b.2++ys))]) else none
 | _=>none
def Q79 (o:Lab→Option Ob) (eT:TypeId):LV→Option (List Lab × List LV)
 | .nil=>some ([],[])
 | .ref l=>match o l with
  | some (.lrow eT' vs)=>bif Nat.beq eT eT' then some ([l],vs) else none
  | _=>none
 | _=>none
def Qi8:LV→Bool
 | .ref _=>true
 | _=>false
def Qag (o:Lab→Option Ob) (eT:TypeId):LV→Option (List LV)
 | .ref l=>match o l with
  | some (.lrow eT' vs)=>bif Nat.beq eT eT'&&vs.all Qi8 then some vs else none
  | _=>none
 | _=>none
def Q61 (τ:Tab) (st:St) (ρ:Operand→SV) (d:Nat) (s x:Operand) (T T':TypeId):Option (Bool × SV × List Lab × Upd):=
 match τ.td T with
 | some (.slc eT)=>(τ.ty eT).bind fun e=>(Jd (ρ s)).bind fun sv=>(Jd (ρ x)).bind fun xv=>
   (Q79 (Q0 st.objs) eT sv).bind fun b=>(Qag (Q0 st.objs) eT xv).bind fun ys=>
   bif b.1.all (fun l=>!(Xw l (Qw xv)))&&Nat.beq e.cells 1&&Nat.beq T T'&&Nat.ble (b.2.length+ys.length) 1073741824&&!(Xw (d,0) ((b.2++ys).flatMap Qw)) then
   some (true,.cv (.one (.ref (d,0))),b.1,[((d,0),.lrow eT (b.2++ys))]) else none
 | _=>none
def isL (o:Lab→Option Ob):SV→Bool
 | .cv (.one (.ref l))=>match o l with
  | some (.lrow _ _)=>true
  | _=>false
 | _=>false
def Q70 (e:Ty):List LV→Option (List e.den)
 | []=>some []
 | .pure t x::r=>(Zi t e x).bind fun y=>(Q70 e r).bind fun l=>some (y::l)
 | _::_=>none
def Qiy:List LV→Option Ty
 | .pure t _::_=>some t
 | _=>none
def Qh3 (st:St) (l:Lab):Option St:=
 match Q0 st.objs l with
 | some (.lrow _ vs)=>(Q1w st (vs.flatMap Qw)).bind fun s=>
  match Q0 s.objs l with
  | some (.lrow eT us)=>(Qiy us).bind fun e=>(Q70 e us).bind fun xs=>bif Nat.beq e.cells 1 then some { s with objs:=Q46 s.objs l (.row eT e xs) } else none
  | _=>none
 | _=>some st
def Qgl (st:St) (l:Lab):St:=
 match Q0 st.objs l with
 | some (.row eT e xs)=>{ st with objs:=Q46 st.objs l (.mem eT e (xs.map some) xs.length false) }
 | _=>st
def Q31:List (Nat × Nat)→Nat→St→Option St
 | [],_,st=>some st
 | (i,t)::r,id,st=>bif Nat.beq i id then
   bif Nat.ble 1000000 t then (match Q9 st.slots (t - 1000000) with
    | .cv (.one (.ref l))=>Q31 r id (Qgl st l)
    | _=>Q31 r id st)
   else (match Q9 st.slots t with
    | .cv (.one (.ref l))=>(Qh3 st l).bind fun s=>Q31 r id s
    | _=>Q31 r id st)
   else Q31 r id st
def Q4z:List Ty→List Ty→Bool
 | [],[]=>true
 | a::r,b::q=>Ty.beq a b&&Q4z r q
 | _,_=>false
theorem Q5w:∀ {a b:List Ty},Q4z a b=true→a=b
 | [],[],_=>rfl
 | a::r,b::q,h=>by
  simp only [Q4z,Bool.and_eq_true] at h
  rw [Ty.eq_of_beq h.1,Q5w h.2]
 | [],_::_,h=>by cases h
 | _::_,[],h=>by cases h
def Qdm (ps rs a b:List Ty) (g:Zj ps→Option (Zj rs)):Option (Zj a→Option (Zj b)):=
 match h:Q4z ps a,h':Q4z rs b with
 | true,true=>some (Q5w h▸Q5w h'▸g)
 | _,_=>none
def Qgy:(ps:List PK)→(ts:List Ty)→Zj ts→Option (PDs ps)
 | [],[],_=>some ()
 | .val t::r,t'::q,x=>(Zi t' t x.1).bind fun y=>(Qgy r q x.2).bind fun z=>some (y,z)
 | _,_,_=>none
def Qez:(rs:List RK)→RDs rs→(ts:List Ty)→Option (Zj ts)
 | [],_,[]=>some ()
 | k::r,x,t::q=>(Zi k.t t x.1).bind fun y=>(Qez r x.2 q).bind fun z=>some (y,z)
 | _,_,_=>none
def Q0i (k:RK):Bool:=k.t.flat&&(match k.ptr with | none=>true | _=>false)
def Q5g (e:Ent) (ps rs:List Ty):Zj ps→Option (Zj rs):=fun x=>
 (Qgy e.ps ps x).bind fun y=>(e.G y).bind fun z=>Qez e.rs z.1 rs
def Qi9:List PK→Option (List Ty)
 | []=>some []
 | .val t::r=>(Qi9 r).bind fun l=>some (t::l)
 | _=>none
def Q2m (e:Ent) (ps rs:List Ty):Bool:=
 (match Qi9 e.ps with | some l=>Q4z l ps | none=>false)&&Q4z (e.rs.map (·.t)) rs&&e.rs.all Q0i
def Qg:List LV→List Bool→List (LV × Bool)
 | [],_=>[]
 | v::r,[]=>(v,false)::Qg r []
 | v::r,b::q=>(v,b)::Qg r q
def Q3a (o:Lab→Option Ob):List (LV × Bool)→Bool
 | []=>true
 | (.ref l,true)::r=>(match o l with | some (.row _ _ _)=>true | _=>false)&&Q3a o r
 | (.nil,true)::r=>Q3a o r
 | (_,true)::_=>false
 | (_,false)::r=>Q3a o r
def Zs:List (LV × Bool)→List Lab
 | []=>[]
 | (.ref l,true)::r=>l::Zs r
 | _::r=>Zs r
def Qj:List (LV × Bool)→List Lab
 | []=>[]
 | (.ref l,false)::r=>l::Qj r
 | _::r=>Qj r
def Q2w (a b:List Lab):Bool:=a.all fun l=>!(Xw l b)
def Q0z:List LV→List Bool→Bool
 | .pure (.sl _ e) _::r,true::q=>Nat.blt 0 e.cells&&Q0z r q
 | _::r,_::q=>Q0z r q
 | _,_=>true
def Q0j (o:Lab→Option Ob) (l:Lab):Bool:=match o l with | some _=>true | none=>false
def Qgt (t t':Ty) (ys:List (Option t.den)):Option (List (Option t'.den)):=
 match h:Ty.beq t t' with
 | true=>some (Ty.eq_of_beq h▸ys)
 | false=>none
theorem Qd3 {t t':Ty} {ys:List (Option t.den)} {zs:List (Option t'.den)} (h:Qgt t t' ys=some zs):∃ e:t=t',e▸ys=zs:=by
 unfold Qgt at h
 split at h
 ·rename_i hb
  exact ⟨Ty.eq_of_beq hb,by simpa using h⟩
 ·cases h
def Q0h (o:Lab→Option Ob) (eT:TypeId) (e:Ty):LV→Option (List e.den × List Lab)
 | .nil=>some ([],[])
 | .ref l=>(match o l with
  | some (.row eT' e' xs)=>bif Nat.beq eT' eT then (Zi (.sl eT e') (.sl eT e) xs).bind fun ys=>some (ys,[l]) else none
  | _=>none)
 | _=>none
def Q8j {α:Type}:Nat→List (Option α)→List (Option α)
 | 0,_=>[]
 | n+1,[]=>none::Q8j n []
 | n+1,y::r=>y::Q8j n r
theorem Q1d {α:Type}:∀ (n:Nat) (ys:List (Option α)),(Q8j n ys).length=n
 | 0,_=>rfl
 | n+1,[]=>congrArg (·+1) (Q1d n [])
 | n+1,_::r=>congrArg (·+1) (Q1d n r)
theorem Q7p {α:Type}:∀ (n:Nat) (ys:List (Option α)) (i:Nat) (x:α),(Q8j n ys)[i]?=some (some x)→ys[i]?=some (some x)
 | 0,_,i,x,h=>by simp [Q8j] at h
 | n+1,[],0,x,h=>by simp [Q8j] at h
 | n+1,[],i+1,x,h=>by
  have:=Q7p n [] i x (by simpa [Q8j] using h)
  simp at this
 | n+1,y::r,0,x,h=>by simpa [Q8j] using h
 | n+1,y::r,i+1,x,h=>by
  have:=Q7p n r i x (by simpa [Q8j] using h)
  simpa using this
theorem Qhg {α:Type}:∀ {n:Nat} {ys:List (Option α)},ys.length=n→Q8j n ys=ys
 | 0,[],_=>rfl
 | n+1,y::r,h=>congrArg (y::·) (Qhg (by simpa using h))
def Q5i (o:Lab→Option Ob) (eT:TypeId) (e:Ty):LV→Option (List (Option e.den) × List Lab)
 | .ref l=>(match o l with
  | some (.row eT' e' xs)=>bif Nat.beq eT' eT then (Zi (.sl eT e') (.sl eT e) xs).bind fun ys=>some (List.map some (ys:List e.den),[l]) else none
  | some (.mem eT' e' ys n0 _)=>bif Nat.beq eT' eT then (Qgt e' e ys).bind fun zs=>some (Q8j n0 zs,[l]) else none
  | _=>none)
 | _=>none
def Qbp (o:Lab→Option Ob) (eT:TypeId) (e:Ty):LV→Option (List e.den × List Lab)
 | .ref l=>Q0h o eT e (.ref l)
 | _=>none
def Q14 (o:Lab→Option Ob) (t:Ty) (vs:List LV):Option t.den:=
 match Q1t o t vs with
 | some (x,[])=>some x
 | _=>none
def Q5s (o:Lab→Option Ob) (T:TypeId) (t:Ty) (own:List Bool) (l:Lab):Option (t.den × List LV):=
 match o l with
 | some (.box T' vs)=>bif Nat.beq T' T&&Q3a o (Qg vs own) then (Q14 o t vs).bind fun x=>bif Q0z (lvs t x) own then some (x,vs) else none else none
 | _=>none
def Zv (Γ:Ctx) (o:Lab→Option Ob):(ps:List PK)→List SV→Option (PDs ps × List Lab × List Lab)
 | [],[]=>some ((),[],[])
 | .val t::r,.cv c::q=>(Q1h o t c).bind fun x=>(Zv Γ o r q).bind fun z=>some ((x,z.1),z.2.1,Qj (Qg (Xt c) [])++z.2.2)
 | .own eT e::r,.cv (.one v)::q=>bif Nat.blt 0 e.cells then (Q0h o eT e v).bind fun x=>(Zv Γ o r q).bind fun z=>some ((x.1,z.1),x.2++z.2.1,z.2.2) else none
 | .ownc eT e::r,.cv (.one v)::q=>bif Nat.blt 0 e.cells then (Q0h o eT e v).bind fun x=>(Zv Γ o r q).bind fun z=>some ((x.1,z.1),x.2++z.2.1,z.2.2) else none
 | .ownh eT e::r,.cv (.one v)::q=>bif Nat.blt 0 e.cells then (Q5i o eT e v).bind fun x=>(Zv Γ o r q).bind fun z=>some ((x.1,z.1),x.2++z.2.1,z.2.2) else none
 | .io eT e::r,.cv (.one v)::q=>bif Nat.blt 0 e.cells then (Qbp o eT e v).bind fun x=>(Zv Γ o r q).bind fun z=>some ((x.1,z.1),x.2++z.2.1,z.2.2) else none
 | .box T t own::r,.cv (.one (.ptr l 0))::q=>(Q5s o T t own l).bind fun x=>(Zv Γ o r q).bind fun z=>
   some ((x.1,z.1),l::Zs (Qg x.2 own)++z.2.1,Qj (Qg x.2 own)++z.2.2)
 | .rbox t::r,.ep t' y::q=>(Zi t' t y).bind fun x=>(Zv Γ o r q).bind fun z=>some ((x,z.1),z.2)
 | .fn ps rs::r,.cv (.one (.clo a b g))::q=>(Qdm a b ps rs g).bind fun x=>(Zv Γ o r q).bind fun z=>some ((x,z.1),z.2)
 | .fn ps rs::r,.cv (.one (.gfn f))::q=>(Q8w Γ f).bind fun e=>bif Q2m e ps rs then (Zv Γ o r q).bind fun z=>some ((Q5g e ps rs,z.1),z.2) else none
 | _,_=>none
def Ze (d:Nat):Nat→List LV→List Bool→List LV × Upd
 | _,[],_=>([],[])
 | j,v::r,[]=>let z:=Ze d (j+1) r [];(v::z.1,z.2)
 | j,v::r,b::q=>
  let z:=Ze d (j+1) r q
  match v with
  | .pure (.sl eT e) xs=>bif b then (.ref (d,j)::z.1,((d,j),.row eT e xs)::z.2) else (v::z.1,z.2)
  | v=>(v::z.1,z.2)
def Q5h (d j:Nat) (k:RK) (x:k.t.den):CV × Upd:=
 match k.ptr with
 | none=>let z:=Ze d j (lvs k.t x) k.own
  (match k.t.isAgg,z.1 with
   | false,[v]=>(.one v,z.2)
   | _,vs=>(.agg vs,z.2))
 | some T=>let z:=Ze d (j+1) (lvs k.t x) k.own;(.one (.ptr (d,j) 0),((d,j),.box T z.1)::z.2)
def Q8m (d:Nat):Nat→(rs:List RK)→RDs rs→List CV × Upd
 | _,[],_=>([],[])
 | j,k::r,x=>let a:=Q5h d j k x.1;let z:=Q8m d (j+1+k.t.cells) r x.2;(a.1::z.1,a.2++z.2)
def Q26 (d:Nat) (rs:List RK) (x:RDs rs):SV × Upd:=
 match Q8m d 0 rs x with
 | ([c],u)=>(.cv c,u)
 | (cs,u)=>(.tup cs,u)
def Qp (d:Nat):Nat→(ps:List PK)→List SV→ODs ps→Upd
 | _,[],_,_=>[]
 | j,.box T t own::r,.cv (.one (.ptr l 0))::q,x=>
  let z:=Ze d j (lvs t x.1) own
  (l,.box T z.1)::z.2++Qp d (j+t.cells) r q x.2
 | j,.box T t own::r,_::q,x=>Qp d j r q x.2
 | j,.box T t own::r,[],x=>Qp d j r [] x.2
 | j,.io eT e::r,.cv (.one (.ref l))::q,x=>(l,.row eT e x.1)::Qp d (j+1) r q x.2
 | j,.io eT e::r,_::q,x=>Qp d j r q x.2
 | j,.io eT e::r,[],x=>Qp d j r [] x.2
 | j,.ownc _ _::r,_::q,x=>Qp d j r q x
 | j,.ownh _ _::r,_::q,x=>Qp d j r q x
 | j,.ownc _ _::r,[],x=>Qp d j r [] x
 | j,.ownh _ _::r,[],x=>Qp d j r [] x
 | j,.val _::r,_::q,x=>Qp d j r q x
 | j,.rbox _::r,_::q,x=>Qp d j r q x
 | j,.fn _ _::r,_::q,x=>Qp d j r q x
 | j,.own _ _::r,_::q,x=>Qp d j r q x
 | j,.val _::r,[],x=>Qp d j r [] x
 | j,.rbox _::r,[],x=>Qp d j r [] x
 | j,.fn _ _::r,[],x=>Qp d j r [] x
 | j,.own _ _::r,[],x=>Qp d j r [] x
def X0 (own:List Bool):List LV→Bool
 | []=>false
 | .pure t _::r=>(match own with
   | true::q=>(match t with | .sl _ e=>!e.flat | t=>!t.flat)||X0 q r
   | _::q=>!t.flat||X0 q r
   | []=>!t.flat||X0 [] r)
 | _::r=>X0 own.tail r
def Q9s (e:Ent):Bool:=
 e.rs.any (fun k=>X0 k.own (lvs k.t k.t.dflt))||e.ps.any (fun p=>match p with | .box _ t own=>X0 own (lvs t t.dflt) | .io _ e=>!e.flat | _=>false)
def Qit:List Lab→Bool
 | []=>true
 | _=>false
def Q1v {R:Type} (Γ:Ctx) (o:Lab→Option Ob) (d:Nat) (e:Ent) (args:List SV) (k:SV→List Lab→Upd→Option R):Option R:=
 (Zv Γ o e.ps args).bind fun a=>
  bif Zt a.2.1&&Q2w a.2.1 a.2.2&&a.2.1.all (Q0j o)&&a.2.2.all (Q0j o)&&(bif Q9s e then Qit a.2.2 else true) then
  (e.G a.1).bind fun r=>
   let v:=Q26 d e.rs r.1
   let u:=v.2++Qp d 1000 e.ps args r.2
   k v.1 (a.2.1.filter fun l=>!(Xw l (u.map (·.1)))) u
  else none
def Qjk (ρ:Operand→SV) (c:Call):List SV:=c.args.toList.map ρ
def Qjz (ρ:Operand→SV) (x:Operand):SV:=ρ x
def Qi6 (ρ:Operand→SV):Callee→Option FuncId
 | .value f=>match ρ f with
  | .cv (.one (.gfn g))=>some g
  | _=>none
 | _=>none
def Qjv:(t:Ty)→t.den→SV:=fun t x=>.cv (Qc5 t x)
def Q6y (o:Lab→Option Ob):(ts:List Ty)→List SV→Option (Zj ts × List Lab)
 | [],[]=>some ((),[])
 | t::r,.cv c::q=>(Q1h o t c).bind fun x=>(Q6y o r q).bind fun z=>some ((x,z.1),Qj (Qg (Xt c) [])++z.2)
 | _,_=>none
def Qa2:(ts:List Ty)→Zj ts→List CV
 | [],_=>[]
 | t::r,x=>Qc5 t x.1::Qa2 r x.2
def Qdy (cs:List CV):SV:=
 match cs with
 | [c]=>.cv c
 | cs=>.tup cs
def Qfg (l:Lab) (t:Ty) (x:t.den):SV→SV
 | .cv (.one (.ptr m 0))=>bif Xh m l then .ep t x else .cv (.one (.ptr m 0))
 | v=>bif Xw l (Qe v) then .dead else v
def frzBox (st:St) (l:Lab) (T:TypeId) (τ:Tab):Option (St × (t:Ty) × t.den):=
 match Q0 st.objs l with
 | some (.box T' vs)=>(τ.ty T').bind fun t=>(match Q1t (fun _=>none) t vs with | some (x,[])=>some x | _=>none).bind fun x=>
   some (({ slots:=st.slots.map fun (p:Nat × SV)=>(p.1,Qfg l t x p.2),objs:=Ju st.objs l }:St),(⟨t,x⟩:(t:Ty) × t.den))
 | _=>none
def Qgv:(ts:List Ty)→List (Σ t:Ty,t.den)→Option (Zj ts)
 | [],[]=>some ()
 | t::r,⟨t',x⟩::q=>(Zi t' t x).bind fun y=>(Qgv r q).bind fun z=>some (y,z)
 | _,_=>none
def Qt:List PK→List Ty × List Ty
 | []=>([],[])
 | .val t::r=>let z:=Qt r;(t::z.1,z.2)
 | .rbox t::r=>let z:=Qt r;(z.1,t::z.2)
 | _::r=>Qt r
def Q7h:(ps:List PK)→Zj (Qt ps).1→Zj (Qt ps).2→Option (PDs ps)
 | [],_,_=>some ()
 | .val t::r,x,y=>(Q7h r x.2 y).bind fun z=>some (x.1,z)
 | .rbox t::r,x,y=>(Q7h r x y.2).bind fun z=>some (y.1,z)
 | .box _ _ _::r,_,_=>none
 | .fn _ _::r,_,_=>none
 | .own _ _::r,_,_=>none
 | .ownc _ _::r,_,_=>none
 | .ownh _ _::r,_,_=>none
 | .io _ _::r,_,_=>none
def Xk:List PK→Bool
 | .val _::r=>Xk r
 | l=>l.all fun p=>match p with | .rbox _=>true | _=>false
def Qc0 (e:Ent) (y:Zj (Qt e.ps).2) (rs:List Ty):Zj (Qt e.ps).1→Option (Zj rs):=fun x=>
 (Q7h e.ps x y).bind fun z=>(e.G z).bind fun r=>Qez e.rs r.1 rs
def Q03 (Γ:Ctx) (τ:Tab) (f:FuncId):St→List SV→List (Σ t:Ty,t.den)→Option (St × LV)
 | st,[],cs=>(Q8w Γ f).bind fun e=>bif Xk e.ps&&e.rs.all Q0i then
   (Qgv (Qt e.ps).2 cs).bind fun y=>some (st,.clo (Qt e.ps).1 (e.rs.map (·.t)) (Qc0 e y (e.rs.map (·.t)))) else none
 | st,.cv (.one (.ptr l 0))::r,cs=>(frzBox st l 0 τ).bind fun p=>Q03 Γ τ f p.1 r (cs++[p.2])
 | st,.ep t x::r,cs=>Q03 Γ τ f st r (cs++[⟨t,x⟩])
 | _,_,_=>none
def Q6k (Γ:Ctx):Bool:=match Γ with
 | (_,e)::_=>(match e.ps with | [.val .unit]=>true | _=>false)
 | []=>false
def Qji:Ent:=⟨[.val .unit],[],fun _=>none⟩
def Qgu (o:Lab→Option Ob):SV→Bool
 | .win _ _ _ _=>true
 | .cv (.one (.ref l))=>(match o l with | some (.row _ _ _)=>true | some (.mem _ _ _ _ _)=>true | _=>false)
 | _=>false
def Q88 (mx:Option Int) (l:Lab) (lo:Nat) (a b:Int) (sz:Nat):SV:=
 match mx with
 | none=>.win l (lo+a.toNat) (b - a).toNat sz
 | some _=>.dead
def Q2o (mx:Option Int) (a b:Int) (c:Nat):Bool:=
 match mx with
 | none=>decide (0≤a)&&decide (a≤b)&&decide (b≤(c:Int))
 | some m=>decide (0≤a)&&decide (a≤b)&&decide (b≤m)&&decide (m≤(c:Int))
def Q8e (τ:Tab) (o:Lab→Option Ob) (T:TypeId) (x:SV) (a b:Int) (mx:Option Int):Res:=
 match τ.td T with
 | some (.slc eT)=>(τ.ty eT).bind fun e0=>match x with
  | .cv (.one (.ref l))=>(match o l with
   | some (.row eT' e xs)=>bif Nat.beq eT eT'&&Ty.beq e0 e then
     some (Q2o mx a b xs.length,Q88 mx l 0 a b e.cells,[(l,.mem eT' e (xs.map some) xs.length false)]) else none
   | some (.mem eT' e ys n0 ex)=>bif Nat.beq eT eT'&&Ty.beq e0 e then
     some (Q2o mx a b ys.length,Q88 mx l 0 a b e.cells,[]) else none
   | _=>none)
  | .win l lo n sz=>(match o l with
   | some (.mem eT' e ys n0 ex)=>bif Nat.beq eT eT'&&Ty.beq e0 e&&Nat.beq sz e.cells&&(Nat.beq lo 0||Nat.ble lo ys.length) then
     some (Q2o mx a b (ys.length - lo),Q88 mx l lo a b sz,[]) else none
   | _=>none)
  | _=>none
 | _=>none
def Qed (ρ:Operand→SV) (hi x:Option Operand):Option (Option Int):=
 match x,hi with
 | none,_=>some none
 | some _,none=>none
 | some y,some _=>(Jd (ρ y)).bind fun v=>(Xp v).bind fun p=>some (some p.2)
def Q8f (τ:Tab) (T:TypeId):Bool:=match τ.td T with | some (.slc _)=>true | _=>false
def qn:Option Nat→Nat→Nat
 | none,n=>n
 | some q,n=>min q n
def Qib {α:Type}:Option Nat→List α→List α
 | none,zs=>zs
 | some q,zs=>zs.take q
def Qc4 (τ:Tab) (o:Lab→Option Ob) (eT:TypeId) (e:Ty) (T':TypeId) (q:Option Nat) (x:SV):Option (List e.den):=
 match x with
 | .win l lo n sz=>(match o l with
  | some (.mem eT' e' ys n0 ex)=>bif Nat.beq eT eT'&&Nat.beq sz e'.cells&&Nat.ble (lo+n) ys.length&&Q8f τ T' then
    (Qd ((ys.drop lo).take (qn q n))).bind fun zs=>Zi (.sl eT e') (.sl eT e) zs else none
  | _=>none)
 | .cv (.one v)=>(match τ.td T' with | some (.slc _)=>Q75 τ o eT e T' v | _=>none).bind fun zs=>some (Qib q zs)
 | _=>none
def Q96 {R:Type} (τ:Tab) (o:Lab→Option Ob) (eT:TypeId) (e:Ty) (T':TypeId) (q:Option Nat) (x:SV) (k:List e.den→Option R):Option R:=
 match x with
 | .win l lo n sz=>(match o l with
  | some (.mem eT' e' ys n0 ex)=>bif Nat.beq eT eT'&&Nat.beq sz e'.cells&&Q8f τ T' then
    bif Nat.ble (lo+n) ys.length then (Qd ((ys.drop lo).take (qn q n))).bind fun zs=>(Zi (.sl eT e') (.sl eT e) zs).bind k else none
   else none
  | _=>none)
 | .cv (.one v)=>(match τ.td T' with | some (.slc _)=>Q75 τ o eT e T' v | _=>none).bind fun zs=>k (Qib q zs)
 | _=>none
theorem X8 {R:Type} (τ:Tab) (o:Lab→Option Ob) (eT:TypeId) (e:Ty) (T':TypeId) (q:Option Nat) (x:SV) (k:List e.den→Option R) :
  Q96 τ o eT e T' q x k=(Qc4 τ o eT e T' q x).bind k:=by
 unfold Q96 Qc4
 split
 ·split
  ·rename_i eT' e' ys n0 ex _
   cases Nat.beq eT eT'<;>cases Nat.beq _ e'.cells<;>cases Q8f τ T'<;>cases Nat.ble _ ys.length<;>first | rfl | (simp only [Bool.and_true,cond_true];cases Qd ((ys.drop _).take (qn q _))<;>rfl)
  ·rfl
 ·rw [Option.bind_assoc];rfl
 ·rfl
def Qde (τ:Tab) (e:Ty) (T':TypeId) (x:SV):Option (Bool × List e.den):=
 match τ.td T' with
 | some (.int _)=>(Jd x).bind fun v=>(Xp v).bind fun p=>some (decide (0<p.2),List.replicate p.2.toNat e.dflt)
 | _=>none
def Q2l (τ:Tab) (T:TypeId) (eT:TypeId) (e:Ty):Bool:=
 match τ.td T with
 | some (.slc eT')=>Nat.beq eT eT'&&(match τ.ty eT' with | some e'=>Ty.beq e' e | none=>false)
 | _=>false
def Q02 {R:Type} (τ:Tab) (st:St) (ρ:Operand→SV) (d:Nat) (s x:Operand) (T T':TypeId) (k:SV→List Lab→Upd→Option R):Option R:=
 match τ.td T with
 | some (.slc eT)=>(τ.ty eT).bind fun e=>(Jd (ρ s)).bind fun sv=>(Q6x (Q0 st.objs) eT e sv).bind fun b=>Q96 τ (Q0 st.objs) eT e T' none (ρ x) fun ys=>
   bif b.1.all (fun l=>!(Xw l (Qe (ρ x))))&&Nat.ble (b.2.length+ys.length) 1073741824 then k (.cv (.one (.ref (d,0)))) b.1 [((d,0),.row eT e (b.2++ys))] else none
 | _=>none
def Qbu (τ:Tab) (o:Lab→Option Ob) (g:FuncId):List SV→Option Unit
 | [.cv (.one (.ref l)),.win m lo n sz]=>match τ.td (2000000000+g),o l,o m with
  | some (.ovl f),some (.row _ _ _),some (.mem _ _ _ _ _)=>bif Xh l m||!(Nat.beq f g) then none else some ()
  | _,_,_=>none
 | _=>none
def Qfy (τ:Tab) (W:TypeId) (k:IntKind) (c:Int):Bool:=match τ.ty W with
 | some t=>(match Q4g t [.int k c] with | some (_,[])=>true | _=>false)
 | none=>true
def Qf2 (τ:Tab) (o:Lab→Option Ob) (g:FuncId):List SV→Option (Bool × IV × Lab × Int × Nat)
 | [.cv (.one (.ptr l 0)),.cv (.one v)]=>(Xp v).bind fun p=>match τ.td (3000000000+g),o l with
  | some (.elt f W k c sz),some (.box _ (.ref m::_))=>(match o m with
   | some (.row _ e xs)=>bif Nat.beq f g&&Qfy τ W k c&&Nat.beq sz e.cells&&Nat.beq (Qq p.1) 3 then
     some (decide (p.2<1)||decide (p.2>(xs.length:Int)),IV.mk W [.int k c],m,p.2 - 1,sz) else none
   | _=>none)
  | _,_=>none
 | _=>none
def Qhj (τ:Tab) (m:String):List TypeId:=τ.filterMap fun r=>match r.2.1 with
 | .mth T n _=>bif decide (n=m) then some T else none
 | _=>none
def Jb {R:Type} (Γ:Ctx) (τ:Tab) (o:Lab→Option Ob) (d:Nat) (m:String) (v:IV) (args:List SV) (k:SV→List Lab→Upd→Option R):List TypeId→Option R
 | []=>none
 | T::r=>match τ.td (1000000000+T),τ.ty T with
  | some (.mth T' n f),some t=>bif decide (n=m)&&t.isAgg&&Nat.beq T' T then
    bif IV.is v T then (Q8w Γ f).bind fun e=>Q1v Γ o d e (.cv (.agg (lvs t (IV.val v t)))::args) k else Jb Γ τ o d m v args k r
   else none
  | _,_=>none
structure Q6w (o:Lab→Option Ob) where
 l:Lab
 lo:Nat
 n:Nat
 eT:TypeId
 e:Ty
 ys:List (Option e.den)
 n0:Nat
 ex:Bool
 is:o l=some (.mem eT e ys n0 ex)
def Q80 (o:Lab→Option Ob) (x:SV):Option (Q6w o):=
 match x with
 | .win l lo n sz=>match h:o l with
  | some (.mem eT e ys n0 ex)=>bif Nat.beq sz e.cells&&Nat.ble (lo+n) ys.length then some ⟨l,lo,n,eT,e,ys,n0,ex,h⟩ else none
  | _=>none
 | _=>none
def Q8g {R:Type} (o:Lab→Option Ob) (x:SV) (k:Q6w o→Option R):Option R:=
 match x with
 | .win l lo n sz=>match h:o l with
  | some (.mem eT e ys n0 ex)=>bif Nat.beq sz e.cells then bif Nat.ble (lo+n) ys.length then k ⟨l,lo,n,eT,e,ys,n0,ex,h⟩ else none else none
  | _=>none
 | _=>none
theorem Jo {R:Type} (o:Lab→Option Ob) (x:SV) (k:Q6w o→Option R):Q8g o x k=(Q80 o x).bind k:=by
 unfold Q8g Q80
 split
 ·split
  ·rename_i eT e ys n0 ex _
   cases Nat.beq _ e.cells<;>cases Nat.ble _ ys.length<;>rfl
  ·rfl
 ·rfl
theorem Qix {R:Type} {o:Lab→Option Ob} {x:SV} {k:Q6w o→Option R} {a:R} (h:Q8g o x k=some a):∃ r,Q80 o x=some r∧k r=some a:=by
 rw [Jo] at h;exact bE h
theorem Qir {R:Type} {τ:Tab} {o:Lab→Option Ob} {eT:TypeId} {e:Ty} {T':TypeId} {q:Option Nat} {x:SV} {k:List e.den→Option R} {a:R} (h:Q96 τ o eT e T' q x k=some a):∃ r,Qc4 τ o eT e T' q x=some r∧k r=some a:=by
 rw [X8] at h;exact bE h
def Q73 (Γ:Ctx) (ob:Lab→Option Ob) (ρ:Operand→SV) (o:Oper):List Lab:=
 match o.op with
 | .buildSlice _ _ parts=>parts.toList.flatMap fun p=>(Qe (ρ p.2)).filter fun l=>!(Nat.beq l.2 77777)
 | .store _ x v=>(match ρ x with | .ap _ _ _ _=>Qe (ρ v) | _=>[])
 | .slice _ x _ _ _=>bif Q6k Γ then [] else Qe (ρ x)
 | .call c=>(match Qi6 ρ c.callee with
  | some f=>(match Q8w Γ f with
   | some e=>bif Q9s e then ((c.args.toList.zip e.ps).flatMap fun (p:Operand × PK)=>match p.2 with
     | .val _=>Qe (ρ p.1)
     | .box _ _ own=>(match ρ p.1 with | .cv (.one (.ptr l 0))=>(match ob l with | some (.box _ vs)=>Qj (Qg vs own) | _=>[]) | _=>[])
     | _=>[]) else []
   | none=>[])
  | none=>[])
 | _=>[]
def Qgi (st:St) (ls:List Lab):Bool:=ls.any fun l=>match Q0 st.objs l with | some (.row _ _ _)=>true | _=>false
def Jx (o:Oper):Bool:=match o.op with | .makeFunc _ _ _=>true | _=>false
def Z3 {R:Type} (st:St) (o:Oper) (v:SV) (del:List Lab) (u:Upd) (k:St→List Lab→Option R):Option R:=
 (Qs (delAll st del) (o.dst.getD 999999999) u).bind fun s=>k (Q2b s o.dst v) (del++u.map (·.1))
def Q53 (τ:Tab) (o:Lab→Option Ob) (sT dT:TypeId) (x:SV):Option (Bool × SV × List Lab):=
 match τ.td dT with
 | some (.slc eT)=>(match τ.td eT,τ.ty eT with
  | some (.int .u8),some (.int .u8)=>(Jd x).bind fun v=>(match τ.td sT with
   | some .str=>(Q2y v).bind fun s=>some (Nat.ble s.size 1073741824,.cv (.one (.pure (.sl eT (.int .u8)) (s.data.toList.map fun b=>(b.toNat:Int)))),[])
   | some (.slc _)=>(match v with
    | .ref l=>(match o l with
     | some (.row eT' e xs)=>bif Nat.beq sT dT&&Nat.beq eT' eT&&!(List.isEmpty xs) then some (true,.cv (.one (.pure (.sl eT e) xs)),[l]) else none
     | _=>none)
    | _=>none)
   | _=>none)
  | _,_=>none)
 | _=>none
def Q3j (τ:Tab) (d:Nat) (sT dT:TypeId) (x:SV):Option (Bool × SV × Upd):=
 match τ.td dT with
 | some (.slc eT)=>(match τ.td eT,τ.ty eT with
  | some (.int .u8),some (.int .u8)=>(match τ.td sT with
   | some .str=>(Jd x).bind fun v=>(Q2y v).bind fun s=>some (Nat.ble s.size 1073741824,.cv (.one (.ref (d,0))),[((d,0),.arr eT (.int .u8) (s.data.toList.map fun b=>(b.toNat:Int)))])
   | _=>none)
  | _,_=>none)
 | _=>none
def Zp {R:Type} (Γ:Ctx) (τ:Tab) (kn:List (Nat × Bool)) (st:St) (o:Oper) (k:St→List Lab→Option R):Option R:=
  let ρ:=Qb st.slots
  let d:=o.dst.getD 999999999
  match o.op with
  | .slice T x lo hi mx=>bif Q6k Γ&&Qgu (Q0 st.objs) (ρ x) then
    (Q2v (Q0 st.objs) (ρ x)).bind fun n=>(Q0e ρ lo 0).bind fun a=>(Q0e ρ hi n).bind fun b=>(Qed ρ hi mx).bind fun m=>
     (Q8e τ (Q0 st.objs) T (ρ x) a b m).bind fun r=>bif r.1 then Z3 st o r.2.1 [] r.2.2 k else none
   else (ev1 τ kn ρ (Q0 st.objs) d (.slice T x lo hi mx) o.type).bind fun r=>bif r.1 then Z3 st o r.2.1 [] r.2.2 k else none
  | .call { callee:=.builtin .cap,args:=args,argTypes:=ts }=>match args.toList,ts.toList with
   | [x],[T]=>Q8g (Q0 st.objs) (ρ x) fun r=>bif Q2l τ T r.eT r.e&&r.ex then Z3 st o (.cv (.one (.pure (.int .i64) ((r.ys.length - r.lo:Nat):Int)))) [] [] k else none
   | _,_=>none
  | .call { callee:=.builtin .copy,args:=args,argTypes:=ts }=>match args.toList,ts.toList with
   | [x,y],[T,T']=>Q8g (Q0 st.objs) (ρ x) fun r=>bif Q2l τ T r.eT r.e then
     Q96 τ (Q0 st.objs) r.eT r.e T' (some r.n) (ρ y) fun zs=>
      Z3 st o (.cv (.one (.pure (.int .i64) (zs.length:Int)))) [] [(r.l,.mem r.eT r.e (Q6 r.ys r.lo zs) r.n0 r.ex)] k else none
   | _,_=>none
  | .call { callee:=.builtin .clear,args:=args,argTypes:=ts }=>match args.toList,ts.toList with
   | [x],[T]=>Q8g (Q0 st.objs) (ρ x) fun r=>bif Q2l τ T r.eT r.e then
     Z3 st o (.tup []) [] [(r.l,.mem r.eT r.e (Q6 r.ys r.lo (List.replicate r.n r.e.dflt)) r.n0 r.ex)] k else none
   | _,_=>none
  | .call { callee:=.builtin .append,args:=args,argTypes:=ts }=>match args.toList,ts.toList with
   | [s,x],[T,T']=>match ρ s with
    | .win _ _ _ _=>Q8g (Q0 st.objs) (ρ s) fun r=>bif Q2l τ T r.eT r.e&&Nat.beq r.lo 0 then
      match Qde τ r.e T' (ρ x) with
      | some z=>bif z.1&&r.ex&&Nat.blt r.ys.length (r.n+z.2.length)&&Nat.ble (r.ys.length+z.2.length) 536870912 then
        Z3 st o (.win (d,0) 0 (r.n+z.2.length) r.e.cells) [] [((d,0),.mem r.eT r.e (r.ys.take r.n++z.2.map some) (r.n+z.2.length) false)] k else none
      | none=>Q96 τ (Q0 st.objs) r.eT r.e T' none (ρ x) fun zs=>
        bif Nat.ble (r.n+zs.length) r.ys.length then Z3 st o (.win r.l 0 (r.n+zs.length) r.e.cells) [] [(r.l,.mem r.eT r.e (Q6 r.ys r.n zs) r.n0 r.ex)] k
        else bif r.ex&&Nat.ble (r.n+zs.length) 1073741824 then
         (Qd (r.ys.take r.n)).bind fun xs=>Z3 st o (.cv (.one (.ref (d,0)))) [] [((d,0),.row r.eT r.e (xs++zs))] k else none
     else none
    | _=>match ρ x with
     | .win _ _ _ _=>Q02 τ st ρ d s x T T' fun v del u=>Z3 st o v del u k
     | _=>(bif isL (Q0 st.objs) (ρ x) then Q61 τ st ρ d s x T T' else Q77 τ st ρ d s x T T').bind fun r=>bif r.1 then Z3 st o r.2.1 r.2.2.1 r.2.2.2 k else none
   | _,_=>none
  | .call { callee:=.invoke r m,args:=args,argTypes:=_ }=>match ρ r with
   | .cv (.one (.pure .ifc v))=>Jb Γ τ (Q0 st.objs) d m v (args.toList.map ρ) (fun x del u=>Z3 st o x del u k) (Qhj τ m)
   | _=>none
  | .call { callee:=.value f,args:=args,argTypes:=_ }=>match ρ f with
   | .cv (.one (.gfn g))=>match Q8w Γ g with
    | some e=>Q1v Γ (Q0 st.objs) d e (args.toList.map ρ) fun v del u=>Z3 st o v del u k
    | none=>match Qf2 τ (Q0 st.objs) g (args.toList.map ρ) with
     | some z=>bif z.1 then Z3 st o (.tupn z.2.1) [] [] k else Z3 st o (.tupe z.2.2.1 z.2.2.2.1 z.2.2.2.2) [] [] k
     | none=>(Qbu τ (Q0 st.objs) g (args.toList.map ρ)).bind fun _=>Z3 st o (.cv (.one (.lit false))) [] [] k
   | .cv (.one (.clo ps rs g))=>(Q6y (Q0 st.objs) ps (args.toList.map ρ)).bind fun a=>bif a.2.all (Q0j (Q0 st.objs)) then (g a.1).bind fun r=>Z3 st o (Qdy (Qa2 rs r)) [] [] k else none
   | _=>none
  | .makeFunc fn first captured=>match fn,first.toList with
   | .func f,[]=>(Q03 Γ τ f st (captured.toList.map ρ) []).bind fun p=>Z3 p.1 o (.cv (.one p.2)) [] [] k
   | _,_=>none
  | .convert sT dT x=>match (bif Q6k Γ then Q3j τ d sT dT (ρ x) else none) with
   | some r=>bif r.1 then Z3 st o r.2.1 [] r.2.2 k else none
   | none=>match Q53 τ (Q0 st.objs) sT dT (ρ x) with
   | some r=>bif r.1 then Z3 st o r.2.1 r.2.2 [] k else none
   | none=>(ev1 τ kn ρ (Q0 st.objs) d (.convert sT dT x) o.type).bind fun r=>bif r.1 then Z3 st o r.2.1 [] r.2.2 k else none
  | op=>(ev1 τ kn ρ (Q0 st.objs) d op o.type).bind fun r=>bif r.1 then Z3 st o r.2.1 [] r.2.2 k else none
def Q47 {R:Type} (Γ:Ctx) (τ:Tab) (kn:List (Nat × Bool)) (a:St) (o:Oper) (k:St→List Lab→Option R):Option R:=
 (Q1w a (Q73 Γ (Q0 a.objs) (Qb a.slots) o)).bind fun st=>
  Zp Γ τ kn st o fun s W=>k s ((bif Qgi a (Q73 Γ (Q0 a.objs) (Qb a.slots) o)||Jx o then a.objs.map (·.1) else [])++W)
noncomputable def Q5m {R:Type} (kn:List (Nat × Bool)) (t:Nat) (v:SV) (k:List (Nat × Bool)→Bool→Option R):Option R:=
 match Q54 kn t with
 | some b=>k kn b
 | none=>match v with
  | .cv (.one (.lit b))=>k kn b
  | .cv (.one (.pure .bool x))=>bif x then k ((t,true)::kn) true else k ((t,false)::kn) false
  | .cv (.one (.nb ne))=>bif ne then k ((t,false)::kn) false else Q35 (k ((t,true)::kn) true) (k ((t,false)::kn) false)
  | _=>none
noncomputable def Q1c {R:Type} (Γ:Ctx) (τ:Tab) (all:List Oper):List Oper→List (Nat × Bool)→St→(St→Option R)→Option R
 | [],_,st,k=>k st
 | o::r,kn,st,k=>
  match o.guard with
  | none=>Q47 Γ τ kn st o fun s _=>Q1c Γ τ all r (Q2a kn o.dst) s k
  | some (i,c)=>match (all[i]?).bind (·.dst) with
   | none=>none
   | some t=>match Q9 st.slots t with
    | .skip=>Q1c Γ τ all r (Q2a kn o.dst) (Q2b st o.dst .skip) k
    | v=>Q5m kn t v fun a b=>
     match b,c with
     | true,true=>Q47 Γ τ a st o fun s _=>Q1c Γ τ all r (Q2a a o.dst) s k
     | false,false=>Q47 Γ τ a st o fun s _=>Q1c Γ τ all r (Q2a a o.dst) s k
     | _,_=>Q1c Γ τ all r (Q2a a o.dst) (Q2b st o.dst .skip) k
def Qgb (l:List Operand):List Nat:=l.filterMap fun x=>match x with | .tmp t=>some t | _=>none
def Xj (all:List Oper) (o:Oper):List Nat:=
 Qgb o.op.operands.toList++(match o.guard with | some (i,_)=>((all[i]?).bind (·.dst)).toList | none=>[])
def Zf (o:Oper):List Nat:=o.dst.toList
def Q5k (a b:List Nat):Bool:=a.all fun t=>!(Q76 t b)
def Qai (a:List Nat) (es:List Edge):Nat:=es.foldl (fun s e=>bif Region.binds .any e then s ||| 2 ^ e.on ||| a.getD e.on 0 else s) 0
def Q21:List Oper→List Nat→List Nat
 | [],a=>a
 | o::r,a=>Q21 r (a++[Qai a o.after.toList])
def Q05 (bf:List Nat) (i j:Nat):Bool:=(bf.getD j 0).testBit i
def Q8z (all:List Oper) (x y:Oper):Bool:=
 Q5k (Zf x) (Xj all y)&&Q5k (Zf y) (Xj all x)&&Q5k (Zf x) (Zf y)
def Q5o (bf:List Nat) (all:List Oper):Bool:=
 all.zipIdx.all fun p=>all.zipIdx.all fun q=>bif Nat.blt p.2 q.2 then Q05 bf p.2 q.2||Q8z all p.1 q.1 else true
structure Tr where
 i:Nat
 rd:List Lab
 wr:List Lab
def Qik (bf:List Nat) (ts:List Tr) (x:Tr):Bool:=
 ts.all fun t=>Q05 bf t.i x.i||(Q2w t.wr x.rd&&Q2w t.wr x.wr&&Q2w x.wr t.rd)
def Q4d:List Lab→List Lab
 | []=>[]
 | l::r=>bif Xw l r then Q4d r else l::Q4d r
def Q8c (st:St) (ts:List Nat):List Lab:=
 let a:=ts.flatMap fun t=>Qe (Q9 st.slots t)
 Q4d (a++a.flatMap fun l=>match Q0 st.objs l with | some b=>Qz b | none=>[])
def Q9m (st:St) (ts:List Nat) (ls:List Lab):St:=
 {slots:=ts.map fun t=>(t,Q9 st.slots t),objs:=ls.filterMap fun l=>(Q0 st.objs l).map fun b=>(l,b) }
def Qew (st:St) (ls W:List Lab) (s:St) (dst:Option Nat):St:=
 {slots:=(match dst with | some d=>[(d,Q9 s.slots d)] | none=>[])++st.slots,objs:=s.objs++(delAll st (ls++W)).objs }
def within (ls:List Lab) (dst:Option Nat) (l:Lab):Bool:=Xw l ls||(match dst with | some d=>Nat.beq l.1 d | none=>false)
def Qej (ls rf r2:List Lab) (dst:Option Nat) (s:St) (W:List Lab):Bool:=
 (match dst with | some d=>(Qe (Q9 s.slots d)).all (fun l=>Xw l rf||(within ls dst l||Xw l r2)) | none=>true) &&
 s.objs.all (fun p=>within ls dst p.1&&(Qz p.2).all (fun l=>within ls dst l||Xw l r2))&&W.all (within ls dst)
def Qen (all:List Oper):List Nat:=
 all.flatMap fun o=>(match o.guard with | some (i,_)=>((all[i]?).bind (·.dst)).toList | none=>[]) ++
  (match o.op with | .pick (.tmp t) _ _=>[t] | _=>[])
def split {R:Type} (all:List Oper) (dst:Option Nat) (s:St) (k:St→Option R):Option R:=
 match dst with
 | none=>k s
 | some d=>bif Q76 d (Qen all) then
   (match Q9 s.slots d with
    | .cv (.one (.pure .bool x))=>bif x then k (Q2b s (some d) (.cv (.one (.lit true)))) else k (Q2b s (some d) (.cv (.one (.lit false))))
    | _=>k s)
   else k s
def Qcq (o:Oper):Bool:=match o.op with | .move _=>true | .assign _=>true | .nilCheck _=>true | .fieldAddr _ _ _=>true | _=>false
def Qbm (st:St) (o:Oper):Bool:=match o.op with
 | .load _ x=>(match Qb st.slots x with | .cv (.one (.ptr _ _))=>true | _=>false)
 | _=>false
def Q7m (st:St) (all:List Oper) (o:Oper):List Lab:=bif Qcq o then [] else bif Qbm st o then Q4d ((Xj all o).flatMap fun t=>Qe (Q9 st.slots t)) else Q8c st (Xj all o)
def Qgf (st:St) (ls:List Lab):List Lab:=ls.flatMap fun l=>match Q0 st.objs l with | some b=>Qz b | none=>[]
def Qj0 (st:St) (all:List Oper) (o:Oper):List Lab:=(Xj all o).flatMap fun t=>Qe (Q9 st.slots t)
def Q9v {R:Type} (Γ:Ctx) (τ:Tab) (bf:List Nat) (all:List Oper):List Oper→Nat→List Tr→St→(St→Option R)→Option R
 | [],_,_,st,k=>k st
 | o::r,i,ts,st,k=>
  let go:=fun (_:Unit)=>
   let tl:=Xj all o
   let ls:=Q7m st all o
   Q47 Γ τ [] (Q9m st tl ls) o fun s W=>
    let x:Tr:={ i:=i,rd:=ls,wr:=W }
    bif Qik bf ts x&&Qej ls (Qj0 st all o) (Qgf st ls) o.dst s W then
     split all o.dst s fun s'=>Q9v Γ τ bf all r (i+1) (x::ts) (Qew st ls W s' o.dst) k else none
  match o.guard with
  | none=>go ()
  | some (g,a)=>match (all[g]?).bind (·.dst) with
   | none=>none
   | some t=>match Q9 st.slots t with
    | .skip=>Q9v Γ τ bf all r (i+1) ts (Q2b st o.dst .skip) k
    | .cv (.one (.lit b))=>bif (b==a) then go () else Q9v Γ τ bf all r (i+1) ts (Q2b st o.dst .skip) k
    | _=>none
def Q8l (st:St) (d:Nat):Bool:=
 st.objs.all (fun p=>!(Nat.beq p.1.1 d)&&(Qz p.2).all fun l=>!(Nat.beq l.1 d))&&st.slots.all fun p=>(Qe p.2).all fun l=>!(Nat.beq l.1 d)
def Q3q:List Nat→Bool
 | []=>true
 | t::r=>!(Q76 t r)&&Q3q r
def Qas (all:List Oper):Bool:=all.zipIdx.all fun p=>p.1.after.toList.all fun e=>!(Region.binds .any e)||Nat.blt e.on p.2
def Qdo (st:St) (all:List Oper):Bool:=
 Q3q (all.flatMap Zf)&&!(Q76 999999999 (all.flatMap Zf))&&(999999999::all.flatMap Zf).all (Q8l st)&&Qas all
def Qdg {R:Type} (Γ:Ctx) (τ:Tab) (a:Array Oper) (st:St) (k:St→Option R):Option R:=
 bif Q5o (Q21 a.toList []) a.toList&&Qdo st a.toList then Q9v Γ τ (Q21 a.toList []) a.toList a.toList 0 [] st k else none
inductive EX where
 | normal
 | exit (id:Nat)
 | ret
structure Fi where
 keep:List Nat
 vty:List (Nat × TypeId)
 vals:List (Nat × Nat)
 live:List (Nat × List Nat):=[]
 melt:List (Nat × Nat):=[]
 cap:Nat:=0
def trim (ks:List Nat) (s:List (Nat × SV)):List (Nat × SV):=
 ks.filterMap fun t=>match Q9 s t with
  | .dead=>none
  | .skip=>none
  | v=>some (t,v)
def Qbk:List (Nat × TypeId)→Nat→Option TypeId
 | [],_=>none
 | (u,T)::r,t=>bif Nat.beq u t then some T else Qbk r t
def Q5z (p:Nat × Nat):List (Nat × Nat)→Bool
 | []=>false
 | m::r=>(Nat.beq m.1 p.1&&Nat.beq m.2 p.2)||Q5z p r
def slotSet (st:St) (t:Nat) (v:SV):St:={ st with slots:=st.slots.map fun p=>bif Nat.beq p.1 t then (t,v) else p }
def Qau:Ty→List Ty
 | .pair a b=>Qau a++Qau b
 | .unit=>[]
 | t=>[t]
def Jr (fi:Fi) (t:Nat) (l:Lab):List LV→List Ty→Nat→St→Option St
 | .nil::r,ty::q,j,st=>match ty with
  | .sl eT e=>match Q0 st.objs l with
   | some (.box T' vs)=>match vs[j]? with
    | some .nil=>bif Q5z (t,j+1) fi.vals then Jr fi t l r q (j+1) { st with objs:=Q46 st.objs l (.box T' (vs.set j (.pure (.sl eT e) []))) }
     else bif X2 st (l.1,j+1)&&Nat.blt 0 e.cells then
      Jr fi t l r q (j+1) { st with objs:=((l.1,j+1),.row eT e [])::Q46 st.objs l (.box T' (vs.set j (.ref (l.1,j+1)))) }
     else none
    | _=>none
   | _=>none
  | _=>none
 | .ref m::r,_::q,j,st=>bif Q5z (t,j+1) fi.vals then (frz st m).bind fun s=>Jr fi t l r q (j+1) s
   else (ren st m (l.1,j+1)).bind fun s=>Jr fi t l r q (j+1) s
 | _::r,_::q,j,st=>Jr fi t l r q (j+1) st
 | _,_,_,st=>some st
def Q8b (t:Nat):Lab:=(888888,t)
def Q9w (t:Nat):List LV→Nat→St→Option St
 | .ref k::r,i,st=>(ren st k (700000+t,i)).bind fun s=>Q9w t r (i+1) s
 | _::r,i,st=>Q9w t r (i+1) st
 | [],_,st=>some st
def Qgk (t:Nat) (st:St):Option St:=
 match Q0 st.objs (Q8b t) with
 | some (.lrow _ vs)=>Q9w t vs 0 st
 | _=>some st
def Zz (τ:Tab) (fi:Fi):List Nat→St→Option St
 | [],st=>some st
 | t::r,st=>match Q9 st.slots t with
  | .cv (.one .nil)=>bif Q5z (t,999) fi.vals then Zz τ fi r st else (Qbk fi.vty t).bind fun T=>match τ.td T with
   | some (.slc eT)=>(τ.ty eT).bind fun e=>bif Q5z (t,0) fi.vals then Zz τ fi r (slotSet st t (.cv (.one (.pure (.sl eT e) []))))
     else bif X2 st (Q8b t) then Zz τ fi r { (slotSet st t (.cv (.one (.ref (Q8b t))))) with objs:=(Q8b t,.row eT e [])::st.objs } else none
   | _=>none
  | .cv (.one (.ref l))=>bif Q5z (t,0) fi.vals then (frz st l).bind fun s=>Zz τ fi r s else (ren st l (Q8b t)).bind fun s=>(Qgk t s).bind fun s=>Zz τ fi r s
  | .cv (.one (.lit b))=>Zz τ fi r (slotSet st t (.cv (.one (.pure .bool b))))
  | .cv (.one (.ptr l 0))=>(match Q0 st.objs l with
    | some (.box T vs)=>(τ.ty T).bind fun ty=>Jr fi t l vs (Qau ty) 0 st
    | _=>some st).bind fun s=>Zz τ fi r s
  | _=>Zz τ fi r st
def Qh4 (st:St):List Lab:=
 let a:=st.slots.flatMap fun p=>Qe p.2
 (a.flatMap fun l=>l::(match Q0 st.objs l with | some b=>Qz b | none=>[]))
def Q82 (st:St) (ls:List Lab):St:={ st with objs:=ls.filterMap fun l=>(Q0 st.objs l).map fun b=>(l,b) }
def Qh6 (s:List (Nat × SV)):List Nat:=s.map (·.1)
def Qfw (τ:Tab) (fi:Fi) (ks:List Nat) (st:St):Option St:=
 (Zz τ fi ks (Q82 { st with slots:=trim ks st.slots } (Q4d (Qh4 { st with slots:=trim ks st.slots })))).bind fun s=>some (Q82 s (Q4d (Qh4 s)))
noncomputable def Q7s {R:Type} (body:St→(EX→St→Option R)→Option R) (nm:St→Option St):Nat→St→(EX→St→Option R)→Option R
 | 0,_,_=>none
 | n+1,st,k=>body st fun e s=>match e with
  | .normal=>(nm s).bind fun s'=>Q7s body nm n s' k
  | e=>k e s
def Qet:List (Nat × List Nat)→Nat→Option (List Nat)
 | [],_=>none
 | (u,l)::r,t=>bif Nat.beq u t then some l else Qet r t
def Qcy (fi:Fi) (id:Nat):List Nat:=match Qet fi.live id with | some l=>l | none=>fi.keep
noncomputable def Xb {R:Type} (Γ:Ctx) (τ:Tab) (fi:Fi) (n:Nat):Code→St→(EX→St→Option R)→Option R
 | .skip,st,k=>k .normal st
 | .region id d f,st,k=>
  (Q31 fi.melt id st).bind fun st=>
  bif f then Qdg Γ τ d st fun s=>k .normal { s with slots:=trim (Qcy fi id) s.slots }
  else Q1c Γ τ d.toList d.toList [] st fun s=>k .normal { s with slots:=trim (Qcy fi id) s.slots }
 | .seq a b,st,k=>Xb Γ τ fi n a st fun e s=>match e with
  | .normal=>Xb Γ τ fi n b s k
  | e=>k e s
 | .cond c a b,st,k=>match c with
  | .tmp t=>Q5m [] t (Q9 st.slots t) fun _ q=>match q with
   | true=>Xb Γ τ fi n a st k
   | false=>Xb Γ τ fi n b st k
  | .const (.bool true)=>Xb Γ τ fi n a st k
  | .const (.bool false)=>Xb Γ τ fi n b st k
  | _=>none
 | .block id b,st,k=>Xb Γ τ fi n b st fun e s=>match e with
  | .exit j=>bif Nat.beq j id then k .normal s else k (.exit j) s
  | e=>k e s
 | .loop b,st,k=>(Qfw τ fi (Qh6 st.slots) st).bind fun s=>Q7s (Xb Γ τ fi n b) (Qfw τ fi (Qh6 st.slots)) n s k
 | .exit id,st,k=>k (.exit id) st
 | .ret,st,k=>k .ret st
 | _,_,_=>none
def Zk:Nat→(ps:List PK)→PDs ps→List (Nat × SV)
 | _,[],_=>[]
 | i,.val t::r,x=>(i,.cv (Qc5 t x.1))::Zk (i+1) r x.2
 | i,.own _ _::r,x=>(i,.cv (.one (.ref (i,0))))::Zk (i+1) r x.2
 | i,.ownc _ e::r,x=>(i,.win (600000,0) 0 (List.length x.1) e.cells)::Zk (i+1) r x.2
 | i,.ownh _ e::r,x=>(i,.win (600000,0) 0 (List.length (α:=Option e.den) x.1) e.cells)::Zk (i+1) r x.2
 | i,.io _ _::r,x=>(i,.cv (.one (.ref (i,0))))::Zk (i+1) r x.2
 | i,.box _ _ _::r,x=>(i,.cv (.one (.ptr (i,0) 0)))::Zk (i+1) r x.2
 | i,.rbox t::r,x=>(i,.ep t x.1)::Zk (i+1) r x.2
 | i,.fn ps rs::r,x=>(i,.cv (.one (.clo ps rs x.1)))::Zk (i+1) r x.2
def Zl (c:Nat):Nat→(ps:List PK)→PDs ps→Upd
 | _,[],_=>[]
 | i,.val _::r,x=>Zl c (i+1) r x.2
 | i,.own eT e::r,x=>((i,0),.row eT e x.1)::Zl c (i+1) r x.2
 | i,.ownc eT e::r,x=>((600000,0),.mem eT e (List.map some x.1++List.replicate c none) (List.length x.1) true)::Zl c (i+1) r x.2
 | i,.ownh eT e::r,x=>((600000,0),.mem eT e (List.append (α:=Option e.den) x.1 (List.replicate c none)) (List.length (α:=Option e.den) x.1) true)::Zl c (i+1) r x.2
 | i,.io eT e::r,x=>((i,0),.row eT e x.1)::Zl c (i+1) r x.2
 | i,.box T t own::r,x=>((i,0),.box T (Ze i 1 (lvs t x.1) own).1)::(Ze i 1 (lvs t x.1) own).2++Zl c (i+1) r x.2
 | i,.rbox _::r,x=>Zl c (i+1) r x.2
 | i,.fn _ _::r,x=>Zl c (i+1) r x.2
def Jm:List PK→Bool
 | []=>true
 | .ownc _ _::_=>false
 | .ownh _ _::_=>false
 | _::r=>Jm r
def Qbe:List PK→Bool
 | .ownc _ _::r=>Jm r
 | .ownh _ _::r=>Jm r
 | r=>Jm r
def Q2t:Nat→List PK→List Nat
 | _,[]=>[]
 | i,.box _ _ _::r=>i::Q2t (i+1) r
 | i,.io _ _::r=>i::Q2t (i+1) r
 | i,_::r=>Q2t (i+1) r
def X3 (n:Nat) (no:List Nat):Code→Bool
 | .region _ c _=>c.toList.all fun o=>match o.dst with | some d=>Nat.blt d n&&!(Q76 d no) | none=>true
 | .seq a b=>X3 n no a&&X3 n no b
 | .cond _ a b=>X3 n no a&&X3 n no b
 | .block _ b=>X3 n no b
 | .loop b=>X3 n no b
 | _=>true
def Qip (o:Lab→Option Ob) (k:RK) (v:SV):Option (k.t.den × List Lab × List Lab):=
 match k.ptr,v with
 | none,.cv c=>(Q1h o k.t c).bind fun x=>bif Q3a o (Qg (Xt c) k.own)&&Q0z (lvs k.t x) k.own then some (x,Zs (Qg (Xt c) k.own),Qj (Qg (Xt c) k.own)) else none
 | some T,.cv (.one (.ptr l 0))=>(Q5s o T k.t k.own l).bind fun x=>some (x.1,l::Zs (Qg x.2 k.own),Qj (Qg x.2 k.own))
 | _,_=>none
def Qgo (τ:Tab) (st:St):ResultVar→Option SV
 | .tmp t=>some (Q9 st.slots t)
 | .cell a T=>(Q7c τ (Q0 st.objs) T (Q9 st.slots a)).bind fun r=>bif r.1 then some r.2.1 else none
def Qhb (τ:Tab) (st:St):(rs:List RK)→List ResultVar→Option (RDs rs × List Lab × List Lab)
 | [],[]=>some ((),[],[])
 | k::r,x::q=>(Qgo τ st x).bind fun v=>(Qip (Q0 st.objs) k v).bind fun a=>(Qhb τ st r q).bind fun z=>
   some ((a.1,z.1),a.2.1++z.2.1,a.2.2++z.2.2)
 | _,_=>none
def Q2x (st:St):Nat→(ps:List PK)→Option (ODs ps × List Lab × List Lab)
 | _,[]=>some ((),[],[])
 | i,.box T t own::r=>match Q9 st.slots i with
  | .cv (.one (.ptr l 0))=>(Q5s (Q0 st.objs) T t own l).bind fun x=>
    (Q2x st (i+1) r).bind fun z=>some ((x.1,z.1),l::Zs (Qg x.2 own)++z.2.1,Qj (Qg x.2 own)++z.2.2)
  | _=>none
 | i,.val _::r=>Q2x st (i+1) r
 | i,.rbox _::r=>Q2x st (i+1) r
 | i,.fn _ _::r=>Q2x st (i+1) r
 | i,.own _ _::r=>Q2x st (i+1) r
 | i,.ownc _ _::r=>Q2x st (i+1) r
 | i,.ownh _ _::r=>Q2x st (i+1) r
 | i,.io eT e::r=>match Q9 st.slots i with
  | .cv (.one (.ref l))=>bif Nat.blt 0 e.cells then (Q0h (Q0 st.objs) eT e (.ref l)).bind fun x=>(Q2x st (i+1) r).bind fun z=>some ((x.1,z.1),x.2++z.2.1,z.2.2) else none
  | _=>none
def Q5e (st:St) (t:Nat):Option St:=
 match Q9 st.slots t with
 | .win l 0 n sz=>match Q0 st.objs l with
  | some (.mem eT e ys n0 ex)=>bif Nat.beq sz e.cells&&X2 st (777000,t)&&Nat.ble n ys.length then
    (Qd (ys.take n)).bind fun xs=>some { slots:=(t,.cv (.one (.ref (777000,t))))::st.slots,objs:=((777000,t),.row eT e xs)::Ju st.objs l } else none
  | _=>none
 | _=>some st
def Q29:List ResultVar→St→Option St
 | [],st=>some st
 | .tmp t::r,st=>(Q5e st t).bind fun s=>Q29 r s
 | .cell _ _::r,st=>Q29 r st
def Qa1 (τ:Tab) (ps:List PK) (rs:List RK) (fn:Func) (st:St):Option (RDs rs × ODs ps):=
 (Qhb τ st rs fn.results.toList).bind fun a=>(Q2x st 0 ps).bind fun b=>
  bif Zt (a.2.1++b.2.1)&&Q2w (a.2.1++b.2.1) (a.2.2++b.2.2)&&(a.2.1++b.2.1).all (Q0j (Q0 st.objs))&&(a.2.2++b.2.2).all (Q0j (Q0 st.objs)) then some (a.1,b.1) else none
def Q7k {R:Type} (st:St) (t:Nat) (k:St→Option R):Option R:=
 match Q9 st.slots t with
 | .win l 0 n sz=>match Q0 st.objs l with
  | some (.mem eT e ys n0 ex)=>bif Nat.beq sz e.cells&&X2 st (777000,t) then bif Nat.ble n ys.length then
    (Qd (ys.take n)).bind fun xs=>k { slots:=(t,.cv (.one (.ref (777000,t))))::st.slots,objs:=((777000,t),.row eT e xs)::Ju st.objs l } else none else none
  | _=>none
 | _=>k st
theorem Qcc {R:Type} (st:St) (t:Nat) (k:St→Option R):Q7k st t k=(Q5e st t).bind k:=by
 unfold Q7k Q5e
 split
 ·split
  ·rename_i eT e ys n0 ex _
   cases Nat.beq _ e.cells<;>cases X2 st (777000,t)<;>cases Nat.ble _ ys.length<;>first | rfl | (simp only [Bool.and_true,cond_true];rw [Option.bind_assoc];rfl)
  ·rfl
 ·rfl
def Q1z {R:Type}:List ResultVar→St→(St→Option R)→Option R
 | [],st,k=>k st
 | .tmp t::r,st,k=>Q7k st t fun s=>Q1z r s k
 | .cell _ _::r,st,k=>Q1z r st k
theorem Q2p {R:Type}:∀ (l:List ResultVar) (st:St) (k:St→Option R),Q1z l st k=(Q29 l st).bind k
 | [],st,k=>rfl
 | .tmp t::r,st,k=>by
  rw [Q1z,Qcc,Q29,Option.bind_assoc]
  congr 1;funext s;exact Q2p r s k
 | .cell _ _::r,st,k=>Q2p r st k
def Q4h (τ:Tab) (ps:List PK) (rs:List RK) (fn:Func) (st:St):Option (RDs rs × ODs ps):=Q1z fn.results.toList st fun s=>Qa1 τ ps rs fn s
theorem Qgw (τ:Tab) (ps:List PK) (rs:List RK) (fn:Func) (st:St):Q4h τ ps rs fn st=(Q29 fn.results.toList st).bind fun s=>Qa1 τ ps rs fn s:=Q2p ..
noncomputable def Qdr (Γ:Ctx) (τ:Tab) (fi:Fi) (n:Nat) (ps:List PK) (rs:List RK) (fn:Func) (x:PDs ps):Option (RDs rs × ODs ps):=
 match fn.body with
 | none=>none
 | some c=>bif X3 fn.ntmps (Q2t 0 ps) c&&Zt ((Zl fi.cap 0 ps x).map (·.1))&&Qbe ps then
   Xb Γ τ { fi with keep:=Q2t 0 ps++fi.keep,cap:=0 } n c { slots:=Zk 0 ps x,objs:=Zl fi.cap 0 ps x } fun e s=>match e with
   | .normal=>Q4h τ ps rs fn s
   | .ret=>Q4h τ ps rs fn s
   | .exit _=>none
  else none
def Jg:Code→List (List Oper)
 | .region _ c _=>[c.toList]
 | .seq a b=>Jg a++Jg b
 | .cond _ a b=>Jg a++Jg b
 | .block _ b=>Jg b
 | .loop b=>Jg b
 | _=>[]
def Q2j:Code→List Nat
 | .seq a b=>Q2j a++Q2j b
 | .cond c a b=>Qgb [c]++Q2j a++Q2j b
 | .block _ b=>Q2j b
 | .loop b=>Q2j b
 | _=>[]
def asks (all:List Oper):List Oper→List Nat→List Nat
 | [],_=>[]
 | o::r,a=>((Xj all o).filter fun t=>!(Q76 t a))++asks all r (match o.guard with | none=>Zf o++a | some _=>Zf o++a)
def Qh9:List Nat→List Nat
 | []=>[]
 | t::r=>t::((Qh9 r).filter fun u=>!(Nat.beq u t))
def Qgn (l:List ResultVar):List Nat:=l.map fun r=>match r with | .tmp t=>t | .cell a _=>a
def Qk6 (fn:Func) (vals:List (Nat × Nat)):Fi:=
 match fn.body with
 | none=>{ keep:=[],vty:=[],vals:=vals }
 | some c=>
  {keep:=Qh9 (Qgn fn.results.toList++Q2j c++(Jg c).flatMap fun l=>asks l l [])
   vty:=(Jg c).flatMap fun l=>l.filterMap fun o=>match o.op,o.dst with
    | .assign _,some d=>some (d,o.type)
    | .move _,some d=>some (d,o.type)
    | _,_=>none
   vals:=vals }
end Go.PE
namespace Go.PE
def Fr (X:Nat→Prop) (w w':World):Prop:=
 w'.os=w.os∧w'.tape=w.tape∧w'.output=w.output∧w.heap.size≤w'.heap.size∧∀ k,k<w.heap.size→¬ X k→w'.heap[k]?=w.heap[k]?
theorem Fr.refl (X:Nat→Prop) (w:World):Fr X w w:=⟨rfl,rfl,rfl,Nat.le_refl _,fun _ _ _=>rfl⟩
theorem Fr.trans {X:Nat→Prop} {a b c:World} (h:Fr X a b) (k:Fr X b c):Fr X a c:=
 ⟨k.1.trans h.1,k.2.1.trans h.2.1,k.2.2.1.trans h.2.2.1,Nat.le_trans h.2.2.2.1 k.2.2.2.1,fun i hi hx=>
  (k.2.2.2.2 i (Nat.lt_of_lt_of_le hi h.2.2.2.1) hx).trans (h.2.2.2.2 i hi hx)⟩
theorem Fr.trans' {X Y:Nat→Prop} {a b c:World} (h:Fr X a b) (k:Fr Y b c) (hy:∀ i,i<a.heap.size→Y i→X i):Fr X a c:=
 ⟨k.1.trans h.1,k.2.1.trans h.2.1,k.2.2.1.trans h.2.2.1,Nat.le_trans h.2.2.2.1 k.2.2.2.1,fun i hi hx=>
  (k.2.2.2.2 i (Nat.lt_of_lt_of_le hi h.2.2.2.1) (fun d=>hx (hy i hi d))).trans (h.2.2.2.2 i hi hx)⟩
theorem Fr.mono {X Y:Nat→Prop} {w w':World} (h:Fr X w w') (a:∀ k,X k→Y k):Fr Y w w':=
 ⟨h.1,h.2.1,h.2.2.1,h.2.2.2.1,fun i hi hy=>h.2.2.2.2 i hi (fun hx=>hy (a i hx))⟩
theorem Fr.size {X:Nat→Prop} {w w':World} (h:Fr X w w'):w.heap.size≤w'.heap.size:=h.2.2.2.1
theorem Fr.block {X:Nat→Prop} {w w':World} (h:Fr X w w') {k:Nat} (hk:k<w.heap.size) (hx:¬ X k):w'.heap[k]?=w.heap[k]?:=h.2.2.2.2 k hk hx
theorem Fr.drew (X:Nat→Prop) (w:World):Fr X w w.drew:=⟨rfl,rfl,rfl,Nat.le_refl _,fun _ _ _=>rfl⟩
theorem Fr.alloc (X:Nat→Prop) (w:World) (o:Obj):Fr X w (w.alloc o):=
 ⟨rfl,rfl,rfl,by simp,fun k hk _=>RowKit.Below.heap_alloc w o k hk⟩
theorem Fr.setCell (w:World) (p:Addr) (u:Value):Fr (fun k=>k=p.block) w (w.setCell p u):=
 ⟨rfl,rfl,rfl,by simp,fun k _ hx=>RowKit.Below.heap_setCell w p u k hx⟩
theorem Fr.grown {w w':World} {row:Option Nat} (h:w.grownBy w' row):Fr (fun k=>some k=row) w w':=
 ⟨h.os,h.tape,h.output,h.size,fun k hk hx=>h.block k hk hx⟩
theorem Fr.below {w w':World} (h:Fr (fun _=>False) w w'):RowKit.Below w.heap.size w w':=
 ⟨h.1,h.2.1,h.2.2.1,h.2.2.2.1,fun k hk=>h.2.2.2.2 k hk (fun x=>x)⟩
theorem Fr.cell {X:Nat→Prop} {w w':World} (h:Fr X w w') {a:Addr} (hk:a.block<w.heap.size) (hx:¬ X a.block):w'.cell? a=w.cell? a:=
 World.cell?_of_block (h.block hk hx)
section
variable (τ:TypeId→Option Ty)
def Q0k (S:Nat→Prop) (w:World) (t:Ty) (x:t.den) (v:Value):Prop:=
 (t.isAgg=true∧∃ cs:List Value,v=.agg cs.toArray∧Rep τ S w t x cs)∨(t.isAgg=false∧Rep τ S w t x [v])
def Xs (S:Nat→Prop) (w:World):(ts:List Ty)→Zj ts→List Value→Prop
 | [],_,vs=>vs=[]
 | t::r,x,vs=>∃ v vr,vs=v::vr∧Q0k τ S w t x.1 v∧Xs S w r x.2 vr
def Q62:List Value→Value
 | [v]=>v
 | vs=>.tuple vs.toArray
def Qe1 (P:Program) (f:FuncId):Prop:=∃ fn,P.funcs[f]?=some fn∧(fn.name=="runtime.NumGoroutine")=false∧fn.body.isNone=false
def Q3c (P:Program) (S:Nat→Prop) (w:World) (ps rs:List Ty) (g:Zj ps→Option (Zj rs)) (v:Value):Prop:=
 (∀ t∈rs,t.flat=true) ∧
 ∃ f cap,v=.func (.func f) #[] cap∧Qe1 P f ∧
  ∀ (w':World) (S':Nat→Prop) (x:Zj ps) (vals:List Value) (r:Zj rs),
   (∀ k,S k→S' k)→w.heap.size≤w'.heap.size→(∀ k,S k→k<w.heap.size→w'.heap[k]?=w.heap[k]?)→(∀ k,S' k→k<w'.heap.size) →
   Xs τ S' w' ps x vals→g x=some r →
   Calls P f (vals.toArray++cap) w' fun e a=>∃ vs,e=.returned (Q62 vs)∧Xs τ S' a rs r vs∧Fr (fun _=>False) w' a
end
section
variable {τ:TypeId→Option Ty}
theorem Q0k.frame {S S':Nat→Prop} {w w':World} (hS:∀ k,S k→S' k) (a:w.heap.size≤w'.heap.size)
  (hk:∀ k,S k→k<w.heap.size→w'.heap[k]?=w.heap[k]?) {t:Ty} {x:t.den} {v:Value} (h:Q0k τ S w t x v):Q0k τ S' w' t x v:=by
 rcases h with ⟨ha,cs,hv,hr⟩ | ⟨ha,hr⟩
 ·exact .inl ⟨ha,cs,hv,hr.frame hS a hk⟩
 ·exact .inr ⟨ha,hr.frame hS a hk⟩
theorem Q0k.mono {S S':Nat→Prop} {w:World} {t:Ty} {x:t.den} {v:Value} (h:Q0k τ S w t x v) (hS:∀ k,S k→S' k):Q0k τ S' w t x v:=
 h.frame hS (Nat.le_refl _) (fun _ _ _=>rfl)
theorem Q0k.flat {S S':Nat→Prop} {w w':World} {t:Ty} {x:t.den} {v:Value} (hf:t.flat=true) (h:Q0k τ S w t x v):Q0k τ S' w' t x v:=by
 rcases h with ⟨ha,cs,hv,hr⟩ | ⟨ha,hr⟩
 ·exact .inl ⟨ha,cs,hv,hr.flat hf⟩
 ·exact .inr ⟨ha,hr.flat hf⟩
theorem Q3c.frame {P:Program} {S S':Nat→Prop} {w w':World} (hS:∀ k,S k→S' k) (b:w.heap.size≤w'.heap.size)
  (hk:∀ k,S k→k<w.heap.size→w'.heap[k]?=w.heap[k]?) (j:∀ k,S k→k<w.heap.size) {ps rs:List Ty} {g:Zj ps→Option (Zj rs)} {v:Value} (h:Q3c τ P S w ps rs g v):Q3c τ P S' w' ps rs g v:=by
 obtain ⟨d,f,cap,hv,e,hc⟩:=h
 refine ⟨d,f,cap,hv,e,fun i c x vals r h1 h2 h3 h4 h5 h6=>?_⟩
 exact hc i c x vals r (fun k a=>h1 k (hS k a)) (Nat.le_trans b h2)
  (fun k a hl=>(h3 k (hS k a) (Nat.lt_of_lt_of_le hl b)).trans (hk k a hl)) h4 h5 h6
end
section
variable (P:Program) (τ:TypeId→Option Ty)
def Qm (S:Nat→Prop) (β:Lab→Value) (w:World):LV→Value→Prop
 | .pure t x,v=>Rep τ S w t x [v]
 | .nil,v=>v=.slice none 0 0
 | .lit b,v=>v=.bool b
 | .ref l,v=>β l=v∧∃ A n c,v=.slice A n c
 | .ptr l off,v=>∃ b,β l=.pointer (some ⟨b,0,none⟩)∧v=.pointer (some ⟨b,off,none⟩)
 | .gfn f,v=>v=.func (.func f) #[] #[]
 | .clo ps rs g,v=>Q3c τ P S w ps rs g v
 | .nb ne,v=>∃ b,v=.bool b∧(ne=true→b=false)
def Q5 (S:Nat→Prop) (β:Lab→Value) (w:World):List LV→List Value→Prop
 | [],cs=>cs=[]
 | x::r,cs=>∃ c cr,cs=c::cr∧Qm P τ S β w x c∧Q5 S β w r cr
def Xm (S:Nat→Prop) (β:Lab→Value) (w:World):CV→Value→Prop
 | .one v,c=>Qm P τ S β w v c
 | .agg vs,c=>∃ cs:List Value,c=.agg cs.toArray∧Q5 P τ S β w vs cs
def Zu (S:Nat→Prop) (β:Lab→Value) (w:World):List CV→List Value→Prop
 | [],cs=>cs=[]
 | x::r,cs=>∃ c cr,cs=c::cr∧Xm P τ S β w x c∧Zu S β w r cr
def blk:Value→Option Nat
 | .slice (some a) _ _=>some a.block
 | .pointer (some a)=>some a.block
 | _=>none
def Ji (S:Nat→Prop) (w:World) (t:Ty) (x:t.den) (v:Value):Prop:=
 ∃ b o cs,v=.pointer (some ⟨b,o,none⟩)∧S b∧b<w.heap.size∧Ja w b o cs∧Rep τ S w t x cs
def Qf (S:Nat→Prop) (β:Lab→Value) (w:World):SV→Value→Prop
 | .dead,_=>True
 | .skip,v=>v=undef
 | .cv c,v=>Xm P τ S β w c v
 | .tup cs,v=>∃ vs:List Value,v=.tuple vs.toArray∧Zu P τ S β w cs vs
 | .ep t x,v=>Ji τ S w t x v
 | .ap l i off sz,v=>∃ b,blk (β l)=some b∧v=.pointer (some ⟨b,i.toNat*sz+off,none⟩)
 | .tupe l i sz,v=>∃ b,blk (β l)=some b∧v=.tuple #[.pointer (some ⟨b,i.toNat*sz,none⟩),.nilIface]
 | .tupn x,v=>∃ u,v=.tuple #[u,IV.value x]∧IV.ok τ x
 | .win l lo n sz,v=>∃ A n0 c0 A',β l=.slice A n0 c0∧lo+n≤c0∧v=.slice A' n (c0 - lo)∧(lo<c0∨lo=0→A'=A.map (·.add (lo*sz)))
def Q1 (S:Nat→Prop) (w:World) (e:Ty):List e.den→List Value→Prop
 | [],cs=>cs=[]
 | x::r,cs=>∃ c cr,cs=c++cr∧Rep τ S w e x c∧Q1 S w e r cr
def Q8 (S:Nat→Prop) (w:World) (e:Ty) (ys:List (Option e.den)) (cs:List Value):Prop:=
 ∀ i x,ys[i]?=some (some x)→Rep τ S w e x ((cs.drop (i*e.cells)).take e.cells)
def Z7 (S:Nat→Prop) (β:Lab→Value) (w:World):Ob→Value→Prop
 | .row eT e xs,v=>0<e.cells∧∃ cells,w.ownsRow 0 eT e.cells v xs.length cells∧Q1 τ S w e xs cells
 | .box _ vs,v=>∃ b T cs,v=.pointer (some ⟨b,0,none⟩)∧w.heap[b]?=some (.cells cs T (0,0))∧Q5 P τ S β w vs cs.toList
 | .arr _ e xs,v=>∃ b T cs fr,(v=.pointer (some ⟨b,0,none⟩)∨∃ cap,v=.slice (some ⟨b,0,none⟩) xs.length cap∧xs.length≤cap∧cap≤maxLen)∧w.heap[b]?=some (.cells cs T fr)∧(fr=(0,0)∨cs.size≤fr.1) ∧
   Q1 τ S w e xs (cs.toList.take (xs.length*e.cells))
 | .lrow eT vs,v=>∃ cells,w.ownsRow 0 eT 1 v vs.length cells∧Q5 P τ S β w vs cells
 | .mem eT e ys n0 ex,v=>0<e.cells∧∃ A c,v=.slice A n0 c∧ys.length≤c∧n0≤c∧c≤maxLen∧(ex=true→c=ys.length) ∧
   ((A=none∧c=0)∨∃ g a,A=some ⟨g,0,none⟩∧w.heap[g]?=some (.cells a eT (0,0))∧a.size=c*e.cells∧Q8 τ S w e ys a.toList)
abbrev FF:=(Nat→Prop) × (Nat→Prop)
abbrev NN:=Nat × List (Nat × Value)
def okD (N:NN) (d:Nat):Prop:=d<N.1∧∀ p∈N.2,p.1≠d
structure Q9x (N:NN) (w0:World) (F:FF) (S:Nat→Prop) (β:Lab→Value) (sl:Nat→SV) (ob:Lab→Option Ob) (a:Act) (w:World):Prop where
 sb:∀ k,S k→k<w.heap.size
 slots:∀ t,Qf P τ S β w (sl t) (a.tmps.getD t undef)
 objs:∀ l x,ob l=some x→Z7 P τ S β w x (β l)
 excl:∀ l x,ob l=some x→∀ b,blk (β l)=some b→¬ S b∧(w0.heap.size≤b∨F.1 b)∧b<w.heap.size
 dist:∀ l l' x x',ob l=some x→ob l'=some x'→l≠l'→∀ b,blk (β l)=some b→blk (β l')≠some b
 fr:Fr F.1 w0 w
 size:a.tmps.size=N.1
 nodef:a.defers=[]
 within:∀ k,S k→F.2 k∨w0.heap.size≤k∨F.1 k
 par:∀ p∈N.2,a.tmps.getD p.1 undef=p.2
abbrev Rel (N:NN) (w0:World) (F:FF) (S:Nat→Prop) (β:Lab→Value) (st:St) (a:Act) (w:World):Prop:=
 Q9x P τ N w0 F S β (Q9 st.slots) (Q0 st.objs) a w
end
theorem Zc {a b:Lab}:Xh a b=true↔a=b:=by
 obtain ⟨a1,a2⟩:=a
 obtain ⟨b1,b2⟩:=b
 simp only [Xh,Bool.and_eq_true,Prod.mk.injEq]
 exact ⟨fun h=>⟨Nat.eq_of_beq_eq_true h.1,Nat.eq_of_beq_eq_true h.2⟩,fun h=>by rw [h.1,h.2];exact ⟨Nat.beq_refl _,Nat.beq_refl _⟩⟩
theorem X7 {a b:Lab}:Xh a b=false↔a≠b:=by
 rw [← Bool.not_eq_true,Zc]
theorem Z6 {a b:Nat}:Nat.beq a b=true↔a=b:=⟨Nat.eq_of_beq_eq_true,fun h=>by rw [h];exact Nat.beq_refl _⟩
theorem Z1 {a b:Nat}:Nat.beq a b=false↔a≠b:=by rw [← Bool.not_eq_true,Z6]
theorem Qk (d:Nat) (v:SV) (s:List (Nat × SV)) (t:Nat):Q9 ((d,v)::s) t=if d=t then v else Q9 s t:=by
 simp only [Q9]
 by_cases h:d=t
 ·rw [Z6.2 h,if_pos h];rfl
 ·rw [Z1.2 h,if_neg h];rfl
theorem Q3 (m:Lab) (b:Ob) (o:List (Lab × Ob)) (l:Lab):Q0 ((m,b)::o) l=if m=l then some b else Q0 o l:=by
 simp only [Q0]
 by_cases h:m=l
 ·rw [Zc.2 h,if_pos h];rfl
 ·rw [X7.2 h,if_neg h];rfl
theorem Jf (o:List (Lab × Ob)) (l:Lab) (x:Ob) (m:Lab):Q0 (Q46 o l x) m=if l=m then (Q0 o l).map (fun _=>x) else Q0 o m:=by
 induction o with
 | nil=>simp only [Q46,Q0];split<;>rfl
 | cons p r ih=>
  obtain ⟨k,b⟩:=p
  simp only [Q46]
  by_cases hk:k=l
  ·rw [Zc.2 hk]
   simp only [cond_true,Q3,hk]
   split
   ·simp
   ·rfl
  ·rw [X7.2 hk]
   simp only [cond_false,Q3,ih]
   by_cases a:k=m
   ·subst a
    rw [if_pos rfl,if_neg (fun h=>hk h.symm),if_pos rfl]
   ·rw [if_neg a,if_neg a,if_neg hk]
theorem Zw (o:List (Lab × Ob)) (l m:Lab):Q0 (Ju o l) m=if l=m then none else Q0 o m:=by
 induction o with
 | nil=>simp [Ju,Q0]
 | cons p r ih=>
  obtain ⟨k,b⟩:=p
  simp only [Ju]
  by_cases hk:k=l
  ·rw [Zc.2 hk]
   simp only [cond_true,ih,Q3,hk]
   split<;>rfl
  ·rw [X7.2 hk]
   simp only [cond_false,Q3,ih]
   by_cases a:k=m
   ·subst a
    rw [if_pos rfl,if_neg (fun h=>hk h.symm),if_pos rfl]
   ·rw [if_neg a,if_neg a]
theorem Q09 {l:Lab} {ls:List Lab}:Xw l ls=true↔l∈ls:=by
 induction ls with
 | nil=>simp [Xw]
 | cons m r ih=>simp only [Xw,Bool.or_eq_true,Zc,ih,List.mem_cons];constructor<;>(rintro (h | h)<;>simp [h])
theorem Zx {l:Lab} {ls:List Lab}:Xw l ls=false↔l ∉ ls:=by rw [← Bool.not_eq_true,Q09]
theorem Q27 {t:Nat} {ls:List Nat}:Q76 t ls=true↔t∈ls:=by
 induction ls with
 | nil=>simp [Q76]
 | cons m r ih=>simp only [Q76,Bool.or_eq_true,Z6,ih,List.mem_cons];constructor<;>(rintro (h | h)<;>simp [h])
theorem Qcb {s:List (Nat × SV)} {t:Nat} {v:SV} (h:Q9 s t=v) (hd:v≠.dead):∃ p∈s,p.2=v:=by
 induction s with
 | nil=>simp [Q9] at h;exact absurd h.symm hd
 | cons p r ih=>
  obtain ⟨u,x⟩:=p
  rw [Qk] at h
  split at h
  ·exact ⟨_,List.mem_cons_self ..,h⟩
  ·obtain ⟨q,hq,h2⟩:=ih h;exact ⟨q,List.mem_cons_of_mem _ hq,h2⟩
theorem Qbq {o:List (Lab × Ob)} {l:Lab} {b:Ob} (h:Q0 o l=some b):∃ p∈o,p.2=b:=by
 induction o with
 | nil=>simp [Q0] at h
 | cons p r ih=>
  obtain ⟨m,x⟩:=p
  rw [Q3] at h
  split at h
  ·exact ⟨_,List.mem_cons_self ..,by simpa using h⟩
  ·obtain ⟨q,hq,h2⟩:=ih h;exact ⟨q,List.mem_cons_of_mem _ hq,h2⟩
section
variable {P:Program} {τ:TypeId→Option Ty} {S S':Nat→Prop} {β β':Lab→Value} {w w':World}
theorem Qm.frame (hS:∀ k,S k→S' k) (a:w.heap.size≤w'.heap.size) (hk:∀ k,S k→k<w.heap.size→w'.heap[k]?=w.heap[k]?)
  (c:∀ k,S k→k<w.heap.size) {x:LV} {v:Value} (hβ:∀ l∈Qw x,β' l=β l) (h:Qm P τ S β w x v):Qm P τ S' β' w' x v:=by
 cases x with
 | pure t y=>exact Rep.frame hS a hk h
 | nil=>exact h
 | lit b=>exact h
 | ref l=>exact ⟨(hβ l (by simp [Qw])).trans h.1,h.2⟩
 | ptr l off=>obtain ⟨b,h1,h2⟩:=h;exact ⟨b,(hβ l (by simp [Qw])).trans h1,h2⟩
 | gfn f=>exact h
 | clo ps rs g=>exact Q3c.frame hS a hk c h
 | nb ne=>exact h
theorem Q5.frame (hS:∀ k,S k→S' k) (b:w.heap.size≤w'.heap.size) (hk:∀ k,S k→k<w.heap.size→w'.heap[k]?=w.heap[k]?)
  (a:∀ k,S k→k<w.heap.size):∀ {xs:List LV} {cs:List Value},(∀ l∈xs.flatMap Qw,β' l=β l)→Q5 P τ S β w xs cs→Q5 P τ S' β' w' xs cs
 | [],cs,_,h=>h
 | x::r,cs,hβ,h=>by
  obtain ⟨c,cr,hc,h1,h2⟩:=h
  exact ⟨c,cr,hc,h1.frame hS b hk a (fun l hl=>hβ l (by simp [hl])),Q5.frame hS b hk a (fun l hl=>hβ l (by simp only [List.flatMap_cons,List.mem_append];exact .inr hl)) h2⟩
theorem Xm.frame (hS:∀ k,S k→S' k) (b:w.heap.size≤w'.heap.size) (hk:∀ k,S k→k<w.heap.size→w'.heap[k]?=w.heap[k]?)
  (a:∀ k,S k→k<w.heap.size) {x:CV} {v:Value} (hβ:∀ l∈Q0w x,β' l=β l) (h:Xm P τ S β w x v):Xm P τ S' β' w' x v:=by
 cases x with
 | one y=>exact Qm.frame hS b hk a hβ h
 | agg vs=>obtain ⟨cs,hc,h⟩:=h;exact ⟨cs,hc,h.frame hS b hk a hβ⟩
theorem Zu.frame (hS:∀ k,S k→S' k) (b:w.heap.size≤w'.heap.size) (hk:∀ k,S k→k<w.heap.size→w'.heap[k]?=w.heap[k]?)
  (a:∀ k,S k→k<w.heap.size):∀ {xs:List CV} {cs:List Value},(∀ l∈xs.flatMap Q0w,β' l=β l)→Zu P τ S β w xs cs→Zu P τ S' β' w' xs cs
 | [],cs,_,h=>h
 | x::r,cs,hβ,h=>by
  obtain ⟨c,cr,hc,h1,h2⟩:=h
  exact ⟨c,cr,hc,h1.frame hS b hk a (fun l hl=>hβ l (by simp [hl])),Zu.frame hS b hk a (fun l hl=>hβ l (by simp only [List.flatMap_cons,List.mem_append];exact .inr hl)) h2⟩
theorem Ji.frame (hS:∀ k,S k→S' k) (a:w.heap.size≤w'.heap.size) (hk:∀ k,S k→k<w.heap.size→w'.heap[k]?=w.heap[k]?)
  {t:Ty} {x:t.den} {v:Value} (h:Ji τ S w t x v):Ji τ S' w' t x v:=by
 obtain ⟨b,o,cs,h1,h2,h3,h4,h5⟩:=h
 exact ⟨b,o,cs,h1,hS b h2,Nat.lt_of_lt_of_le h3 a,h4.of_block (hk b h2 h3),h5.frame hS a hk⟩
theorem Qf.frame (hS:∀ k,S k→S' k) (a:w.heap.size≤w'.heap.size) (hk:∀ k,S k→k<w.heap.size→w'.heap[k]?=w.heap[k]?)
  (d:∀ k,S k→k<w.heap.size) {x:SV} {v:Value} (hβ:∀ l∈Qe x,β' l=β l) (h:Qf P τ S β w x v):Qf P τ S' β' w' x v:=by
 cases x with
 | dead=>trivial
 | skip=>exact h
 | cv c=>exact Xm.frame hS a hk d hβ h
 | tup cs=>obtain ⟨vs,hv,h⟩:=h;exact ⟨vs,hv,h.frame hS a hk d hβ⟩
 | ep t x=>exact Ji.frame hS a hk h
 | ap l i off sz=>obtain ⟨b,h1,h2⟩:=h;exact ⟨b,by rw [hβ l (by simp [Qe])];exact h1,h2⟩
 | tupe l i sz=>obtain ⟨b,h1,h2⟩:=h;exact ⟨b,by rw [hβ l (by simp [Qe])];exact h1,h2⟩
 | tupn x=>exact h
 | win l lo n sz=>obtain ⟨A,n0,c0,A',h1,h2⟩:=h;exact ⟨A,n0,c0,A',by rw [hβ l (by simp [Qe])];exact h1,h2⟩
theorem Q1.frame (hS:∀ k,S k→S' k) (a:w.heap.size≤w'.heap.size) (hk:∀ k,S k→k<w.heap.size→w'.heap[k]?=w.heap[k]?)
  {e:Ty}:∀ {xs:List e.den} {cs:List Value},Q1 τ S w e xs cs→Q1 τ S' w' e xs cs
 | [],cs,h=>h
 | x::r,cs,h=>by obtain ⟨c,cr,hc,h1,h2⟩:=h;exact ⟨c,cr,hc,h1.frame hS a hk,Q1.frame hS a hk h2⟩
theorem Q1.length {e:Ty}:∀ {xs:List e.den} {cs:List Value},Q1 τ S w e xs cs→cs.length=xs.length*e.cells
 | [],cs,h=>by simp only [Q1] at h;simp [h]
 | x::r,cs,h=>by
  obtain ⟨c,cr,hc,h1,h2⟩:=h
  rw [hc,List.length_append,h1.length,Q1.length h2,List.length_cons,Nat.add_mul,Nat.one_mul,Nat.add_comm]
theorem Q1.append {e:Ty}:∀ {xs ys:List e.den} {cs ds:List Value},Q1 τ S w e xs cs→Q1 τ S w e ys ds→Q1 τ S w e (xs++ys) (cs++ds)
 | [],ys,cs,ds,h,h'=>by simp only [Q1] at h;subst h;exact h'
 | x::r,ys,cs,ds,h,h'=>by
  obtain ⟨c,cr,hc,h1,h2⟩:=h
  exact ⟨c,cr++ds,by rw [hc,List.append_assoc],h1,Q1.append h2 h'⟩
theorem Q1.elem {e:Ty}:∀ {xs:List e.den} {cs:List Value} (i:Nat),Q1 τ S w e xs cs→i<xs.length →
  Rep τ S w e (xs.getD i e.dflt) ((cs.drop (i*e.cells)).take e.cells)
 | [],cs,i,_,hi=>by simp at hi
 | x::r,cs,0,h,_=>by
  obtain ⟨c,cr,hc,h1,h2⟩:=h
  subst hc
  simpa [← h1.length] using h1
 | x::r,cs,i+1,h,hi=>by
  obtain ⟨c,cr,hc,h1,h2⟩:=h
  have ih:=Q1.elem i h2 (by simpa using hi)
  subst hc
  have e1:(c++cr).drop ((i+1)*e.cells)=cr.drop (i*e.cells):=by
   rw [Nat.add_mul,Nat.one_mul,Nat.add_comm,← h1.length,List.drop_append]
   simp
  rw [e1]
  simpa using ih
theorem Q1.set {e:Ty}:∀ {xs:List e.den} {cs:List Value} (i:Nat) (y:e.den) (d:List Value),Q1 τ S w e xs cs→i<xs.length→Rep τ S w e y d →
  Q1 τ S w e (xs.set i y) (cs.take (i*e.cells)++d++cs.drop (i*e.cells+e.cells))
 | [],cs,i,_,_,_,hi,_=>by simp at hi
 | x::r,cs,0,y,d,h,_,hd=>by
  obtain ⟨c,cr,hc,h1,h2⟩:=h
  subst hc
  refine ⟨d,cr,?_,hd,h2⟩
  simp [← h1.length]
 | x::r,cs,i+1,y,d,h,hi,hd=>by
  obtain ⟨c,cr,hc,h1,h2⟩:=h
  have ih:=Q1.set i y d h2 (by simpa using hi) hd
  subst hc
  refine ⟨c,_,?_,h1,ih⟩
  have e0:(i+1)*e.cells=c.length+i*e.cells:=by rw [Nat.add_mul,Nat.one_mul,Nat.add_comm,h1.length]
  rw [e0,List.take_append,List.take_of_length_le (by omega),show c.length+i*e.cells - c.length=i*e.cells by omega,
   show c.length+i*e.cells+e.cells=c.length+(i*e.cells+e.cells) by omega,List.drop_append,List.drop_eq_nil_of_le (by omega)]
  simp [List.append_assoc]
theorem Q8.frame (hS:∀ k,S k→S' k) (a:w.heap.size≤w'.heap.size) (hk:∀ k,S k→k<w.heap.size→w'.heap[k]?=w.heap[k]?)
  {e:Ty} {ys:List (Option e.den)} {cs:List Value} (h:Q8 τ S w e ys cs):Q8 τ S' w' e ys cs:=fun i x hi=>(h i x hi).frame hS a hk
theorem Z7.frame (hS:∀ k,S k→S' k) (d:w.heap.size≤w'.heap.size) (hk:∀ k,S k→k<w.heap.size→w'.heap[k]?=w.heap[k]?)
  (i:∀ k,S k→k<w.heap.size) {x:Ob} {v:Value} (hβ:∀ l∈Qz x,β' l=β l) (hb:∀ b,blk v=some b→w'.heap[b]?=w.heap[b]?) (h:Z7 P τ S β w x v):Z7 P τ S' β' w' x v:=by
 cases x with
 | row eT e xs=>
  obtain ⟨h0,cells,h1,h2⟩:=h
  refine ⟨h0,cells,⟨h1.1,?_⟩,h2.frame hS d hk⟩
  rcases h1.2 with hn | ⟨g,cap,a,rfl,hg,hh,f⟩
  ·exact .inl hn
  ·exact .inr ⟨g,cap,a,rfl,hg,(hb g rfl).trans hh,f⟩
 | box T vs=>
  obtain ⟨b,T',cs,rfl,h2,h3⟩:=h
  exact ⟨b,T',cs,rfl,(hb b rfl).trans h2,h3.frame hS d hk i hβ⟩
 | arr eT e xs=>
  obtain ⟨b,T',cs,fr,hv,h2,h3,h4⟩:=h
  have m:blk v=some b:=by rcases hv with rfl | ⟨_,rfl,_⟩<;>rfl
  exact ⟨b,T',cs,fr,hv,(hb b m).trans h2,h3,h4.frame hS d hk⟩
 | lrow eT vs=>
  obtain ⟨cells,h1,h2⟩:=h
  refine ⟨cells,⟨h1.1,?_⟩,h2.frame hS d hk i hβ⟩
  rcases h1.2 with hn | ⟨g,cap,a,rfl,hg,hh,f⟩
  ·exact .inl hn
  ·exact .inr ⟨g,cap,a,rfl,hg,(hb g rfl).trans hh,f⟩
 | mem eT e ys n0 ex=>
  obtain ⟨h0,A,c,rfl,h1,h2,h3,h4,h5⟩:=h
  refine ⟨h0,A,c,rfl,h1,h2,h3,h4,?_⟩
  rcases h5 with hn | ⟨g,a,rfl,hh,j,hm⟩
  ·exact .inl hn
  ·exact .inr ⟨g,a,rfl,(hb g rfl).trans hh,j,hm.frame hS d hk⟩
end
def Qhh (st:St):Prop:=∀ l eT e xs,Q0 st.objs l=some (.row eT e xs)→0<e.cells
theorem Rel.pos {P:Program} {τ:TypeId→Option Ty} {N:NN} {w0:World} {F:FF} {S:Nat→Prop} {β:Lab→Value} {st:St} {a:Act} {w:World}
  (h:Rel P τ N w0 F S β st a w):Qhh st:=fun l eT e xs ho=>(h.objs l _ ho).1
end Go.PE
namespace Go.PE
section
variable {P:Program} {τ:TypeId→Option Ty} {N:NN} {w0:World} {F:FF} {S:Nat→Prop} {β:Lab→Value} {st:St} {a:Act} {w:World}
def Jy (β:Lab→Value) (l:Lab) (v:Value):Lab→Value:=fun m=>if m=l then v else β m
theorem Qh (β:Lab→Value) (l:Lab) (v:Value):Jy β l v l=v:=if_pos rfl
theorem Qn {β:Lab→Value} {l m:Lab} {v:Value} (h:m≠l):Jy β l v m=β m:=if_neg h
theorem Z2 {l:Lab} (h:X2 st l=true):Q0 st.objs l=none∧(∀ t,l ∉ Qe (Q9 st.slots t))∧(∀ m ob,Q0 st.objs m=some ob→l ∉ Qz ob):=by
 simp only [X2,Bool.and_eq_true,List.all_eq_true] at h
 obtain ⟨⟨h1,h2⟩,h3⟩:=h
 refine ⟨?_,fun t hm=>?_,fun m ob hm b=>?_⟩
 ·cases ho:Q0 st.objs l with
  | none=>rfl
  | some x=>rw [ho] at h1;cases h1
 ·by_cases hd:Q9 st.slots t=.dead
  ·rw [hd] at hm;simp [Qe] at hm
  ·obtain ⟨p,hp,a⟩:=Qcb rfl hd
   have:=h2 p hp
   rw [a,Bool.not_eq_true',Zx] at this
   exact this hm
 ·obtain ⟨p,hp,a⟩:=Qbq hm
  have:=h3 p hp
  rw [a,Bool.not_eq_true',Zx] at this
  exact this b
theorem Q3m {xs:Array Value} {d t:Nat} {v u:Value} (h:d<xs.size):(xs.setIfInBounds d v).getD t u=if d=t then v else xs.getD t u:=by
 simp only [Array.getD_eq_getD_getElem?,Array.getElem?_setIfInBounds]
 by_cases a:d=t
 ·subst a;simp [h]
 ·simp [a]
theorem Rel.put (h:Rel P τ N w0 F S β st a w) {d:Option Nat} {v:SV} {x:Value} (hd:∀ e,d=some e→okD N e) (hv:Qf P τ S β w v x) :
  Rel P τ N w0 F S β (Q2b st d v) (a.put d x) w:=by
 cases d with
 | none=>exact h
 | some d=>
  have b:d<a.tmps.size:=by rw [h.size];exact (hd d rfl).1
  refine ⟨h.sb,fun t=>?_,h.objs,h.excl,h.dist,h.fr,?_,h.nodef,h.within,fun p hp=>by simp only [Act.put];rw [Q3m b,if_neg (fun e=>(hd d rfl).2 p hp e.symm)];exact h.par p hp⟩
  ·simp only [Q2b,Act.put,Qk,Q3m b]
   split
   ·exact hv
   ·exact h.slots t
  ·simp only [Act.put,Array.size_setIfInBounds];exact h.size
theorem Rel.weaken (h:Rel P τ N w0 F S β st a w) {st':St} (hs:∀ t,Q9 st'.slots t=.dead∨Q9 st'.slots t=Q9 st.slots t)
  (ho:∀ l ob,Q0 st'.objs l=some ob→Q0 st.objs l=some ob):Rel P τ N w0 F S β st' a w:=
 ⟨h.sb,fun t=>(hs t).elim (fun e=>by rw [e];trivial) (fun e=>by rw [e];exact h.slots t),fun l ob hl=>h.objs l ob (ho l ob hl),
  fun l ob hl=>h.excl l ob (ho l ob hl),fun l l' ob b hl c=>h.dist l l' ob b (ho l ob hl) (ho l' b c),h.fr,h.size,h.nodef,h.within,h.par⟩
theorem Rel.trim (h:Rel P τ N w0 F S β st a w) (ks:List Nat):Rel P τ N w0 F S β { st with slots:=trim ks st.slots } a w:=by
 refine h.weaken (fun t=>?_) (fun _ _ h=>h)
 show Q9 (PE.trim ks st.slots) t=.dead∨Q9 (PE.trim ks st.slots) t=Q9 st.slots t
 induction ks with
 | nil=>exact .inl rfl
 | cons k r ih=>
  simp only [PE.trim,List.filterMap_cons]
  split
  ·exact ih
  ·rename_i v hv
   split at hv
   ·cases hv
   ·cases hv
   ·rename_i b
    simp only [Option.some.injEq] at hv
    subst hv
    rw [Qk]
    by_cases hk:k=t
    ·subst hk;rw [if_pos rfl];exact .inr rfl
    ·rw [if_neg hk];exact ih
theorem Rel.grow (h:Rel P τ N w0 F S β st a w) {S':Nat→Prop} {w':World} (hf:Fr (fun _=>False) w w') (hS:∀ k,S k→S' k)
  (hn:∀ k,S' k→S k∨w.heap.size≤k) (hb:∀ k,S' k→k<w'.heap.size):Rel P τ N w0 F S' β st a w':=by
 have hk:∀ k,S k→k<w.heap.size→w'.heap[k]?=w.heap[k]?:=fun k _ hl=>hf.block hl (fun x=>x)
 refine ⟨hb,fun t=>(h.slots t).frame hS hf.size hk h.sb (fun _ _=>rfl),fun l ob hl=>?_,fun l ob hl b c=>?_,h.dist,h.fr.trans' hf (fun _ _ x=>x.elim),h.size,h.nodef,fun k hk=>(hn k hk).elim (h.within k) (fun hw=>.inr (.inl (Nat.le_trans h.fr.size hw))),h.par⟩
 ·exact (h.objs l ob hl).frame hS hf.size hk h.sb (fun _ _=>rfl) (fun b c=>hf.block (h.excl l ob hl b c).2.2 (fun x=>x))
 ·obtain ⟨h1,h2,h3⟩:=h.excl l ob hl b c
  exact ⟨fun hs=>by rcases hn b hs with hs | hs;exact h1 hs;omega,h2,Nat.lt_of_lt_of_le h3 hf.size⟩
theorem Rel.grow' (h:Rel P τ N w0 F S β st a w) {w':World} (hf:Fr (fun _=>False) w w'):Rel P τ N w0 F S β st a w':=
 h.grow hf (fun _ x=>x) (fun _ x=>.inl x) (fun k hk=>Nat.lt_of_lt_of_le (h.sb k hk) hf.size)
theorem Rel.del (h:Rel P τ N w0 F S β st a w) (l:Lab):Rel P τ N w0 F S β { st with objs:=Ju st.objs l } a w:=
 h.weaken (fun _=>.inr rfl) (fun m ob hm=>by simp only [Zw] at hm;split at hm;cases hm;exact hm)
theorem Rel.delAll (h:Rel P τ N w0 F S β st a w) (ls:List Lab):Rel P τ N w0 F S β (delAll st ls) a w:=by
 induction ls generalizing st with
 | nil=>exact h
 | cons l r ih=>exact ih (h.del l)
theorem Rel.setObj (h:Rel P τ N w0 F S β st a w) {w':World} {l:Lab} {ob:Ob} {v:Value} {objs':List (Lab × Ob)} {X:Nat→Prop}
  (hf:Fr X w w') (hX:∀ k,k<w.heap.size→X k→∃ ob0,Q0 st.objs l=some ob0∧blk (β l)=some k)
  (hβ:β l=v∨((∀ t,l ∉ Qe (Q9 st.slots t))∧(∀ m ob,Q0 st.objs m=some ob→m≠l→l ∉ Qz ob)))
  (hl:β l=v∨l ∉ Qz ob)
  (hob:Z7 P τ S β w' ob v) (r:∀ b,blk v=some b→(w.heap.size≤b∨(∃ ob0,Q0 st.objs l=some ob0)∧blk (β l)=some b)∧b<w'.heap.size)
  (f:∀ m,Q0 objs' m=if l=m then some ob else Q0 st.objs m):Rel P τ N w0 F S (Jy β l v) { st with objs:=objs' } a w':=by
 have p:∀ k,S k→k<w.heap.size→w'.heap[k]?=w.heap[k]?:=fun k hs q=>hf.block q (fun hx=>by
  obtain ⟨ob0,ho,hb⟩:=hX k q hx
  exact (h.excl l ob0 ho k hb).1 hs)
 have n:∀ m,m≠l→∀ c,Q0 st.objs m=some c→∀ b,blk (β m)=some b→w'.heap[b]?=w.heap[b]?:=fun m hm c ho b hb=>
  hf.block (h.excl m c ho b hb).2.2 (fun hx=>by
   obtain ⟨ob0,o,n⟩:=hX b (h.excl m c ho b hb).2.2 hx
   exact h.dist m l c ob0 ho o hm b hb n)
 have B:∀ t,∀ m∈Qe (Q9 st.slots t),Jy β l v m=β m:=fun t m hm=>by
  by_cases e:m=l
  ·subst e
   rcases hβ with e | e
   ·rw [Qh,e]
   ·exact absurd hm (e.1 t)
  ·exact Qn e
 refine ⟨fun k hk=>Nat.lt_of_lt_of_le (h.sb k hk) hf.size,fun t=>(h.slots t).frame (fun _ x=>x) hf.size p h.sb (B t),fun m c hm=>?_,fun m c hm b hb=>?_,fun m m' u y hm g j b hb d=>?_,?_,h.size,h.nodef,h.within,h.par⟩
 ·simp only [f] at hm
  split at hm
  ·rename_i e;subst e
   simp only [Option.some.injEq] at hm
   subst hm
   rw [Qh]
   cases ob with
   | row eT e xs=>exact hob
   | arr eT e xs=>exact hob
   | mem eT e ys n0 ex=>exact hob
   | lrow eT vs=>
    obtain ⟨cells,h1,h3⟩:=hob
    exact ⟨cells,h1,h3.frame (fun _ x=>x) (Nat.le_refl _) (fun _ _ _=>rfl) (fun k hk=>Nat.lt_of_lt_of_le (h.sb k hk) hf.size) (fun m hm=>by
     by_cases e:m=l
     ·subst e
      rcases hl with hl | hl
      ·rw [Qh,hl]
      ·exact absurd hm hl
     ·exact Qn e)⟩
   | box T vs=>
    obtain ⟨b,T',cs,h1,h2,h3⟩:=hob
    exact ⟨b,T',cs,h1,h2,h3.frame (fun _ x=>x) (Nat.le_refl _) (fun _ _ _=>rfl) (fun k hk=>Nat.lt_of_lt_of_le (h.sb k hk) hf.size) (fun m hm=>by
     by_cases e:m=l
     ·subst e
      rcases hl with hl | hl
      ·rw [Qh,hl]
      ·exact absurd hm hl
     ·exact Qn e)⟩
  ·rename_i e
   have e':m≠l:=fun x=>e x.symm
   rw [Qn e']
   refine (h.objs m c hm).frame (fun _ x=>x) hf.size p h.sb (fun k hk=>?_) (n m e' c hm)
   by_cases e2:k=l
   ·subst e2
    rcases hβ with e3 | e3
    ·rw [Qh,e3]
    ·exact absurd hk (e3.2 m c hm e')
   ·exact Qn e2
 ·simp only [f] at hm
  split at hm
  ·rename_i e;subst e
   rw [Qh] at hb
   obtain ⟨h1,h2⟩:=r b hb
   refine ⟨fun hs=>?_,?_,h2⟩
   ·rcases h1 with h1 | ⟨⟨ob0,ho⟩,h1⟩
    ·have:=h.sb b hs;omega
    ·exact (h.excl l ob0 ho b h1).1 hs
   ·rcases h1 with h1 | ⟨⟨ob0,ho⟩,h1⟩
    ·exact .inl (Nat.le_trans h.fr.size h1)
    ·exact (h.excl l ob0 ho b h1).2.1
  ·rename_i e
   rw [Qn (fun x=>e x.symm)] at hb
   obtain ⟨h1,h2,h3⟩:=h.excl m c hm b hb
   exact ⟨h1,h2,Nat.lt_of_lt_of_le h3 hf.size⟩
 ·simp only [f] at hm g
  have s:∀ m,m≠l→∀ c,Q0 st.objs m=some c→blk (β m)=some b→blk v=some b→False:=fun m A c ho hb z=>by
   rcases (r b z).1 with h1 | ⟨⟨ob0,o⟩,h1⟩
   ·have:=(h.excl m c ho b hb).2.2;omega
   ·exact h.dist m l c ob0 ho o A b hb h1
  by_cases e:l=m
  ·subst e
   rw [Qh] at hb
   rw [if_neg j] at g
   rw [Qn (fun x=>j x.symm)] at d
   exact s m' (fun x=>j x.symm) y g d hb
  ·rw [if_neg e] at hm
   rw [Qn (fun x=>e x.symm)] at hb
   by_cases e2:l=m'
   ·subst e2
    rw [Qh] at d
    exact s m (fun x=>e x.symm) u hm hb d
   ·rw [if_neg e2] at g
    rw [Qn (fun x=>e2 x.symm)] at d
    exact h.dist m m' u y hm g j b hb d
 ·refine h.fr.trans' hf (fun i hi hx=>?_)
  obtain ⟨ob0,ho,hb⟩:=hX i (Nat.lt_of_lt_of_le hi h.fr.size) hx
  rcases (h.excl l ob0 ho i hb).2.1 with h1 | h1
  ·omega
  ·exact h1
theorem Q86 {f:LV→LV} (hf:∀ v,Qw (f v) ⊆ Qw v):∀ (vs:List LV),(vs.map f).flatMap Qw ⊆ vs.flatMap Qw
 | []=>by simp
 | v::r=>by
  intro l hl
  simp only [List.map_cons,List.flatMap_cons,List.mem_append] at hl ⊢
  rcases hl with hl | hl
  ·exact .inl (hf v hl)
  ·exact .inr (Q86 hf r hl)
theorem Q5.map {S':Nat→Prop} {β':Lab→Value} {w':World} {f:LV→LV} (hf:∀ v c,Qm P τ S β w v c→Qm P τ S' β' w' (f v) c) :
  ∀ {xs:List LV} {cs:List Value},Q5 P τ S β w xs cs→Q5 P τ S' β' w' (xs.map f) cs
 | [],cs,h=>h
 | x::r,cs,h=>by obtain ⟨c,cr,hc,h1,h2⟩:=h;exact ⟨c,cr,hc,hf x c h1,Q5.map hf h2⟩
theorem Xm.map {S':Nat→Prop} {β':Lab→Value} {w':World} {f:LV→LV} (hf:∀ v c,Qm P τ S β w v c→Qm P τ S' β' w' (f v) c)
  {x:CV} {v:Value} (h:Xm P τ S β w x v):Xm P τ S' β' w' (Qbr f x) v:=by
 cases x with
 | one y=>exact hf y v h
 | agg vs=>obtain ⟨cs,hc,h⟩:=h;exact ⟨cs,hc,h.map hf⟩
theorem Zu.map {S':Nat→Prop} {β':Lab→Value} {w':World} {f:LV→LV} (hf:∀ v c,Qm P τ S β w v c→Qm P τ S' β' w' (f v) c) :
  ∀ {xs:List CV} {cs:List Value},Zu P τ S β w xs cs→Zu P τ S' β' w' (xs.map (Qbr f)) cs
 | [],cs,h=>h
 | x::r,cs,h=>by obtain ⟨c,cr,hc,h1,h2⟩:=h;exact ⟨c,cr,hc,h1.map hf,Zu.map hf h2⟩
theorem Q89 (g:SV→SV) (hg:g .dead=.dead) (s:List (Nat × SV)) (t:Nat):Q9 (s.map fun p=>(p.1,g p.2)) t=g (Q9 s t):=by
 induction s with
 | nil=>exact hg.symm
 | cons p r ih=>
  obtain ⟨u,v⟩:=p
  simp only [List.map_cons,Qk,ih]
  split<;>rfl
theorem Q3e (g:Ob→Ob) (o:List (Lab × Ob)) (l:Lab):Q0 (o.map fun p=>(p.1,g p.2)) l=(Q0 o l).map g:=by
 induction o with
 | nil=>rfl
 | cons p r ih=>
  obtain ⟨m,b⟩:=p
  simp only [List.map_cons,Q3,ih]
  split<;>rfl
theorem Qi7 {eT:TypeId} {e:Ty} {xs:List e.den} {v:Value} (h:Z7 P τ S β w (.arr eT e xs) v) (hs:∃ A n c,v=.slice A n c):Rep τ (fun k=>S k∨blk v=some k) w (.sl eT e) xs [v]:=by
 obtain ⟨g,T,a,fr,hv,hh,_,d⟩:=h
 rcases hv with rfl | ⟨cap,rfl,h1,h2⟩
 ·obtain ⟨_,_,_,h⟩:=hs;cases h
 ·refine ⟨some ⟨g,0,none⟩,cap,rfl,h1,h2,fun m=>⟨g,0,rfl,.inr rfl,(Array.getElem?_eq_some_iff.1 hh).1,fun i hi=>?_⟩⟩
  have he:=d.elem i hi
  have b:=d.length
  rw [List.length_take] at b
  have o:a.toList.length=a.size:=by simp
  refine ⟨_,he.length,fun j hj=>?_,he.mono (fun k hk=>.inl hk)⟩
  rw [he.length] at hj
  rw [cell_of_row w g _ a T fr hh]
  have f:(i+1)*e.cells≤xs.length*e.cells:=Nat.mul_le_mul_right _ hi
  rw [Nat.add_mul,Nat.one_mul] at f
  have l:i*e.cells+j<a.size:=by omega
  simp only [List.getD_eq_getElem?_getD,List.getElem?_take,List.getElem?_drop,if_pos hj]
  rw [if_pos (by omega),Nat.zero_add,Array.getElem?_toList,Array.getElem?_eq_getElem l]
  rfl
theorem Qf3 {eT:TypeId} {e:Ty} {xs:List e.den} {v:Value} (h:Z7 P τ S β w (.row eT e xs) v):Rep τ (fun k=>S k∨blk v=some k) w (.sl eT e) xs [v]:=by
 obtain ⟨hp,cells,b,l⟩:=h
 obtain ⟨n,hc⟩:=b
 rcases hc with ⟨rfl,h0⟩ | ⟨g,cap,a,rfl,_,hh,h1,h2,h3,h4⟩
 ·have:xs=[]:=List.eq_nil_of_length_eq_zero h0
  subst this
  exact ⟨none,0,rfl,Nat.le_refl _,by simp [maxLen],fun h=>absurd h (by simp)⟩
 ·refine ⟨some ⟨g,0,none⟩,cap,rfl,h1,h2,fun o=>⟨g,0,rfl,.inr rfl,(Array.getElem?_eq_some_iff.1 hh).1,fun i hi=>?_⟩⟩
  have he:=l.elem i hi
  refine ⟨_,he.length,fun j hj=>?_,he.mono (fun k hk=>.inl hk)⟩
  have c:((cells.drop (i*e.cells)).take e.cells).length=e.cells:=he.length
  rw [c] at hj
  rw [cell_of_row w g _ a eT (0,0) hh]
  have f:(i+1)*e.cells≤xs.length*e.cells:=Nat.mul_le_mul_right _ hi
  rw [Nat.add_mul,Nat.one_mul] at f
  have d:((cells.drop (i*e.cells)).take e.cells).getD j undef=cells.getD (i*e.cells+j) undef:=by
   simp only [List.getD_eq_getElem?_getD,List.getElem?_take,List.getElem?_drop,if_pos hj]
  rw [d,← h4]
  simp only [List.getD_eq_getElem?_getD,List.getElem?_take]
  rw [if_pos (by omega)]
  have m:i*e.cells+j<a.size:=by
   rw [h3]
   exact Nat.lt_of_lt_of_le (by omega) (Nat.mul_le_mul_right e.cells h1)
  rw [Nat.zero_add,Array.getElem?_toList,Array.getElem?_eq_getElem m]
  rfl
theorem Rel.frz (h:Rel P τ N w0 F S β st a w) {l:Lab} {st':St} (hf:PE.frz st l=some st') :
  ∃ S',(∀ k,S k→S' k)∧Rel P τ N w0 F S' β st' a w:=by
 unfold PE.frz at hf
 split at hf
 case h_2=>cases hf
 case h_1 eT e xs ho=>
 simp only [Option.some.injEq] at hf
 subst hf
 have d:∀ k,S k→(S k∨blk (β l)=some k):=fun k hk=>.inl hk
 have hr:=Qf3 (h.objs l _ ho)
 have o:∀ v c,Qm P τ S β w v c→Qm P τ (fun k=>S k∨blk (β l)=some k) β w (Q45 l (.pure (.sl eT e) xs) v) c:=by
  intro v c hv
  have y:=hv.frame (S':=fun k=>S k∨blk (β l)=some k) (β':=β) d (Nat.le_refl _) (fun _ _ _=>rfl) h.sb (fun _ _=>rfl)
  cases v<;>try exact y
  case ref m=>
   simp only [Q45]
   by_cases e:m=l
   ·subst e
    rw [Zc.2 rfl]
    have:β m=c:=hv.1
    subst this
    exact hr
   ·rw [X7.2 e];exact y
 refine ⟨fun k=>S k∨blk (β l)=some k,d,⟨fun k hk=>?_,fun t=>?_,fun m ob hm=>?_,fun m ob hm b hb=>?_,fun m m' ob B hm j q b hb=>?_,h.fr,h.size,h.nodef,fun k hk=>hk.elim (h.within k) (fun hb=>.inr (h.excl l _ ho k hb).2.1),h.par⟩⟩
 ·rcases hk with hk | hk
  ·exact h.sb k hk
  ·exact (h.excl l _ ho k hk).2.2
 ·have e1:Q9 (st.slots.map fun p=>(p.1,Q36 l (Q0y (Q45 l (.pure (.sl eT e) xs)) id p.2))) t=Q36 l (Q0y (Q45 l (.pure (.sl eT e) xs)) id (Q9 st.slots t)):=
   Q89 (fun v=>Q36 l (Q0y (Q45 l (.pure (.sl eT e) xs)) id v)) rfl st.slots t
  show Qf P τ _ β w (Q9 (st.slots.map fun p=>(p.1,Q36 l (Q0y (Q45 l (.pure (.sl eT e) xs)) id p.2))) t) _
  rw [e1]
  have hs:=h.slots t
  revert hs
  cases Q9 st.slots t with
  | dead=>intro _;trivial
  | skip=>intro hs;exact hs
  | cv c=>intro hs;exact Xm.map o hs
  | tup cs=>intro hs;obtain ⟨vs,hv,hc⟩:=hs;exact ⟨vs,hv,hc.map o⟩
  | ep t x=>intro hs;exact Ji.frame d (Nat.le_refl _) (fun _ _ _=>rfl) hs
  | ap m i off sz=>
   intro hs
   simp only [Q0y,Q36,id]
   by_cases e:m=l
   ·rw [Zc.2 e];trivial
   ·rw [X7.2 e];exact hs
  | win m lo n sz=>
   intro hs
   simp only [Q0y,Q36,id]
   by_cases e:m=l
   ·rw [Zc.2 e];trivial
   ·rw [X7.2 e];exact hs
  | tupe m i sz=>
   intro hs
   simp only [Q0y,Q36,id]
   by_cases e:m=l
   ·rw [Zc.2 e];trivial
   ·rw [X7.2 e];exact hs
  | tupn x=>intro hs;exact hs
 ·have e1:Q0 ((Ju st.objs l).map fun p=>(p.1,Q0a (Q45 l (.pure (.sl eT e) xs)) p.2)) m=(Q0 (Ju st.objs l) m).map (Q0a (Q45 l (.pure (.sl eT e) xs))):=Q3e _ _ _
  simp only [e1,Zw] at hm
  split at hm
  ·cases hm
  ·cases f:Q0 st.objs m with
   | none=>rw [f] at hm;cases hm
   | some ob0=>
    rw [f] at hm
    simp only [Option.map_some,Option.some.injEq] at hm
    subst hm
    have hob:=h.objs m ob0 f
    cases ob0 with
    | row eT' e' xs'=>obtain ⟨h0,cells,h1,h2⟩:=hob;exact ⟨h0,cells,h1,h2.frame d (Nat.le_refl _) (fun _ _ _=>rfl)⟩
    | arr eT' e' xs'=>obtain ⟨b,T',cs,fr,h0,h1,h2,h3⟩:=hob;exact ⟨b,T',cs,fr,h0,h1,h2,h3.frame d (Nat.le_refl _) (fun _ _ _=>rfl)⟩
    | mem eT' e' ys n0 ex=>
     obtain ⟨h0,A,c,e1,h1,h2,h3,h4,h5⟩:=hob
     refine ⟨h0,A,c,e1,h1,h2,h3,h4,?_⟩
     rcases h5 with hn | ⟨g,z,e2,hh,u,hm⟩
     ·exact .inl hn
     ·exact .inr ⟨g,z,e2,hh,u,hm.frame d (Nat.le_refl _) (fun _ _ _=>rfl)⟩
    | box T vs=>obtain ⟨b,T',cs,h1,h2,h3⟩:=hob;exact ⟨b,T',cs,h1,h2,h3.map o⟩
    | lrow eT' vs=>obtain ⟨cells,h1,h2⟩:=hob;exact ⟨cells,(by rw [List.length_map];exact h1),h2.map o⟩
 ·have e1:Q0 ((Ju st.objs l).map fun p=>(p.1,Q0a (Q45 l (.pure (.sl eT e) xs)) p.2)) m=(Q0 (Ju st.objs l) m).map (Q0a (Q45 l (.pure (.sl eT e) xs))):=Q3e _ _ _
  simp only [e1,Zw] at hm
  split at hm
  ·cases hm
  ·rename_i q
   cases f:Q0 st.objs m with
   | none=>rw [f] at hm;cases hm
   | some ob0=>
    obtain ⟨h1,h2,h3⟩:=h.excl m ob0 f b hb
    refine ⟨fun hs=>?_,h2,h3⟩
    rcases hs with hs | hs
    ·exact h1 hs
    ·exact h.dist m l ob0 _ f ho (fun x=>q x.symm) b hb hs
 ·have e1:∀ m,Q0 ((Ju st.objs l).map fun p=>(p.1,Q0a (Q45 l (.pure (.sl eT e) xs)) p.2)) m=(Q0 (Ju st.objs l) m).map (Q0a (Q45 l (.pure (.sl eT e) xs))):=fun m=>Q3e _ _ _
  simp only [e1,Zw] at hm j
  split at hm
  ·cases hm
  ·split at j
   ·cases j
   ·cases r:Q0 st.objs m with
    | none=>rw [r] at hm;cases hm
    | some x1=>
     cases s:Q0 st.objs m' with
     | none=>rw [s] at j;cases j
     | some x2=>exact h.dist m m' x1 x2 r s q b hb
end
end Go.PE
namespace Go.PE
def Qjx (P:Program) (T:TypeId):TD→Prop
 | .int k=>P.underlying T=some (.int k)
 | .bool=>P.underlying T=some .bool
 | .str=>P.underlying T=some .string
 | .ifc=>∃ ms,P.underlying T=some (.interface ms)
 | .slc e=>P.underlying T=some (.slice e)
 | .stc fs=>∃ gs,P.underlying T=some (.struct gs)∧gs.toList.map (fun g=>(g.type,g.offset))=fs
 | .ptr e=>P.underlying T=some (.pointer e)
 | .arr n e=>P.underlying T=some (.array n e)
 | .fnc=>True
 | .ovl _=>True
 | .mth _ _ _=>True
 | .elt _ _ _ _ _=>True
def notAgg:TypeDesc→Bool
 | .struct _=>false
 | .array _ _=>false
 | _=>true
def Z9:Ty→List Value
 | .pair a b=>Z9 a++Z9 b
 | .unit=>[]
 | .int k=>[.int k 0]
 | .bool=>[.bool false]
 | .str=>[.string ⟨#[]⟩]
 | .ifc=>[.nilIface]
 | .sl _ _=>[.slice none 0 0]
structure Q5v (P:Program) (T:TypeId) (t:Ty):Prop where
 info:∃ i z,P.info? T=some i∧i.size=t.cells∧i.zero=some z∧z.cells.toList=Z9 t∧(t.isAgg=true→∃ c,z=.agg c)∧i.bytes≤131072
 agg:t.isAgg=true→(∃ fs,P.underlying T=some (.struct fs))∨(∃ n e,P.underlying T=some (.array n e))
 one:t.isAgg=false→∃ d,P.underlying T=some d∧notAgg d=true
def Q3z (fn:Func) (n:String):Option (Array Value→Sem Value):=
 (Extern.allGenericRows.lookup n).map (· fn.targs fn.params fn.resultTypes) <|> (Extern.allTypedRows.lookup n).map (· fn.params fn.resultTypes) <|> Extern.allRows.lookup n
def Qii (P:Program) (g:Nat):Prop:=
 ∃ fn tS tR e i,P.funcs[g]?=some fn∧(fn.name=="runtime.NumGoroutine")=false∧fn.body.isNone=true∧Extern.findNext fn=none∧(Q3z fn fn.name).isNone=true∧fn.origin="slices.overlaps" ∧
  fn.params=#[tS,tS]∧fn.resultTypes=#[tR]∧P.underlying tS=some (.slice e)∧P.info? e=some i
def Qih (P:Program) (T:TypeId) (m:String) (g:FuncId):Prop:=
 ∃ i mm fs,P.info? T=some i∧i.methods.find? (·.name==m)=some mm∧mm.path.toList=[]∧mm.func=some (g,false)∧P.underlying T=some (.struct fs)
def Qid (P:Program) (f:FuncId) (W:TypeId) (k:IntKind) (c:Int) (sz:Nat):Prop:=
 Qe1 P f∧∀ (w:World) (b:Nat) (cs:Array Value) (T:TypeId) (A:Option Addr) (n cp:Nat) (r:Int),w.heap[b]?=some (.cells cs T (0,0))→cs[0]?=some (.slice A n cp)→n≤maxLen →
  ((r<1∨(n:Int)<r)→Calls P f #[.pointer (some ⟨b,0,none⟩),.int .i64 r] w fun ex w'=>(∃ u,ex=.returned (.tuple #[u,.iface W (.agg #[.int k c])]))∧Fr (fun _=>False) w w') ∧
  (1≤r→r≤(n:Int)→∀ g,A=some ⟨g,0,none⟩→Calls P f #[.pointer (some ⟨b,0,none⟩),.int .i64 r] w fun ex w'=>ex=.returned (.tuple #[.pointer (some ⟨g,(r - 1).toNat*sz,none⟩),.nilIface])∧Fr (fun _=>False) w w')
structure Qc (P:Program) (τ:Tab):Prop where
 td:∀ T d,τ.td T=some d→Qjx P T d
 ty:∀ T t,τ.ty T=some t→Q5v P T t
 arrz:∀ T n eT e,τ.td T=some (.arr n eT)→τ.ty eT=some e→e.cells=1→∃ i z,P.info? T=some i∧i.zero=some (.agg z)∧z.toList=List.replicate n ((Z9 e).getD 0 undef)
 fld:∀ T fs,τ.td T=some (.stc fs)→∀ f∈fs,∃ i,P.info? f.1=some i
 ovl:∀ K g,τ.td K=some (.ovl g)→Qii P g
 elt:∀ K f W k c sz,τ.td K=some (.elt f W k c sz)→Qid P f W k c sz
 mth:∀ K T m g,τ.td K=some (.mth T m g)→Qih P T m g
 pos:∀ T eT e,τ.td T=some (.slc eT)→τ.ty eT=some e→0<e.cells
 u8:∀ eT,τ.ty eT=some (.int .u8)→∃ i,P.info? eT=some i∧i.size=1∧i.bytes=1∧i.zero=some (.int .u8 0)
 eqs:∀ T fs,τ.td T=some (.stc fs)→Q1n τ 0 fs=true→P.stoodInHeld T=false∧P.eqGuardType P.depth T=false∧∀ f∈(P.fieldsOf T).toList,f.name≠"_"
theorem Ty.cells_one {t:Ty} (h:t.isAgg=false):t.cells=1:=by cases t<;>first | rfl | cases h
section
variable {P:Program} {tab:Tab} {N:NN} {w0:World} {F:FF} {S:Nat→Prop} {β:Lab→Value} {st:St} {a:Act} {w:World}
theorem Zo (b o n:Nat):(⟨b,o,none⟩:Addr).add n=⟨b,o+n,none⟩:=by unfold Addr.add;split<;>simp_all
theorem Q0u {T:TypeId} {t:Ty} (h:Q5v P T t):(isAgg T).run P w=.ok t.isAgg w:=by
 cases ha:t.isAgg with
 | true=>
  rcases h.agg ha with ⟨fs,hu⟩ | ⟨n,e,hu⟩<;>simp [isAgg,run_underlying hu]
 | false=>
  obtain ⟨d,hu,hd⟩:=h.one ha
  cases d<;>first | (cases hd;done) | simp [isAgg,run_underlying hu]
theorem Z8 {T:TypeId} {t:Ty} (h:Q5v P T t):(sizeOf T).run P w=.ok t.cells w:=by
 obtain ⟨i,z,h1,h2,_⟩:=h.info
 simp [sizeOf,typeInfo,h1,h2]
theorem Q4c {T:TypeId} {t:Ty} (h:Q5v P T t):∃ z,(zeroValue T).run P w=.ok z w∧z.cells.toList=Z9 t∧(t.isAgg=true→∃ c,z=.agg c):=by
 obtain ⟨i,z,h1,h2,h3,h4,h5,_⟩:=h.info
 exact ⟨z,by simp [zeroValue,typeInfo,h1,h3],h4,h5⟩
def Xd (t:Ty) (cs:List Value):Value:=bif t.isAgg then .agg cs.toArray else cs.getD 0 undef
theorem Q69 {T:TypeId} {t:Ty} (h:Q5v P T t) {b o:Nat} {cs:List Value} (hl:cs.length=t.cells) (hc:Ja w b o cs) :
  (loadVar T ⟨b,o,none⟩).run P w=.ok (Xd t cs) w:=by
 cases ha:t.isAgg with
 | true=>
  have h1:=run_loadCells_list (P:=P) w ⟨b,o,none⟩ cs (fun j v hv=>by
   have hj:j<cs.length:=by
    rcases Nat.lt_or_ge j cs.length with hj | hj
    ·exact hj
    ·rw [List.getElem?_eq_none hj] at hv;cases hv
   rw [Zo,hc j hj,List.getD_eq_getElem?_getD,hv];rfl)
  rw [hl] at h1
  simp [loadVar,Q0u h,ha,Z8 h,h1,Xd]
 | false=>
  have h0:=hc 0 (by rw [hl,Ty.cells_one ha];omega)
  simp only [Nat.add_zero] at h0
  simp [loadVar,Q0u h,ha,h0,Xd]
theorem Q2u {τ:TypeId→Option Ty} {t:Ty} {x:t.den} {cs:List Value} (h:Rep τ S w t x cs):Q0k τ S w t x (Xd t cs):=by
 unfold Xd
 cases ha:t.isAgg with
 | true=>exact .inl ⟨ha,cs,rfl,h⟩
 | false=>
  have hl:=h.length
  rw [Ty.cells_one ha] at hl
  obtain ⟨c,rfl⟩:=List.length_eq_one_iff.1 hl
  exact .inr ⟨ha,h⟩
theorem Q5.append {τ:TypeId→Option Ty}:∀ {xs ys:List LV} {cs ds:List Value},Q5 P τ S β w xs cs→Q5 P τ S β w ys ds→Q5 P τ S β w (xs++ys) (cs++ds)
 | [],ys,cs,ds,h,h'=>by simp only [Q5] at h;subst h;exact h'
 | x::r,ys,cs,ds,h,h'=>by obtain ⟨c,cr,rfl,h1,h2⟩:=h;exact ⟨c,cr++ds,rfl,h1,Q5.append h2 h'⟩
theorem Q9u {τ:TypeId→Option Ty}:∀ {t:Ty} {x:t.den} {cs:List Value},Rep τ S w t x cs→Q5 P τ S β w (lvs t x) cs:=by
 intro t
 induction t with
 | int k=>intro x cs h;have:=h.length;obtain ⟨c,rfl⟩:=List.length_eq_one_iff.1 this;exact ⟨c,[],rfl,h,rfl⟩
 | bool=>intro x cs h;have:=h.length;obtain ⟨c,rfl⟩:=List.length_eq_one_iff.1 this;exact ⟨c,[],rfl,h,rfl⟩
 | str=>intro x cs h;have:=h.length;obtain ⟨c,rfl⟩:=List.length_eq_one_iff.1 this;exact ⟨c,[],rfl,h,rfl⟩
 | ifc=>intro x cs h;have:=h.length;obtain ⟨c,rfl⟩:=List.length_eq_one_iff.1 this;exact ⟨c,[],rfl,h,rfl⟩
 | sl n e ih=>intro x cs h;have:=h.length;obtain ⟨c,rfl⟩:=List.length_eq_one_iff.1 this;exact ⟨c,[],rfl,h,rfl⟩
 | pair a b d f=>
  intro x cs h
  obtain ⟨c1,c2,rfl,h1,h2⟩:=h
  exact Q5.append (d h1) (f h2)
 | unit=>intro x cs h;simp only [Rep] at h;subst h;rfl
theorem Q3k {τ:TypeId→Option Ty} {t:Ty} {x:t.den} {v:Value} (h:Q0k τ S w t x v):Xm P τ S β w (Qc5 t x) v:=by
 unfold Qc5
 rcases h with ⟨ha,cs,rfl,hr⟩ | ⟨ha,hr⟩
 ·rw [ha];exact ⟨cs,rfl,Q9u hr⟩
 ·rw [ha];exact hr
theorem Q5.length {τ:TypeId→Option Ty}:∀ {xs:List LV} {cs:List Value},Q5 P τ S β w xs cs→cs.length=xs.length
 | [],cs,h=>by simp only [Q5] at h;simp [h]
 | x::r,cs,h=>by obtain ⟨c,cr,rfl,_,h2⟩:=h;simp [Q5.length h2]
theorem Q5.get {τ:TypeId→Option Ty}:∀ {xs:List LV} {cs:List Value} (i:Nat) {v:LV},Q5 P τ S β w xs cs→xs[i]?=some v→∃ c,cs[i]?=some c∧Qm P τ S β w v c
 | [],cs,i,v,h,hi=>by simp at hi
 | x::r,cs,0,v,h,hi=>by obtain ⟨c,cr,rfl,h1,_⟩:=h;simp at hi;subst hi;exact ⟨c,rfl,h1⟩
 | x::r,cs,i+1,v,h,hi=>by obtain ⟨c,cr,rfl,_,h2⟩:=h;exact Q5.get i h2 (by simpa using hi)
theorem Q5.drop {τ:TypeId→Option Ty}:∀ {xs:List LV} {cs:List Value} (n:Nat),Q5 P τ S β w xs cs→Q5 P τ S β w (xs.drop n) (cs.drop n)
 | [],cs,n,h=>by simp only [Q5] at h;subst h;simp [Q5]
 | x::r,cs,0,h=>h
 | x::r,cs,n+1,h=>by obtain ⟨c,cr,rfl,_,h2⟩:=h;exact Q5.drop n h2
theorem Q5.take {τ:TypeId→Option Ty}:∀ {xs:List LV} {cs:List Value} (n:Nat),Q5 P τ S β w xs cs→Q5 P τ S β w (xs.take n) (cs.take n)
 | [],cs,n,h=>by simp only [Q5] at h;subst h;simp [Q5]
 | x::r,cs,0,h=>by simp [Q5]
 | x::r,cs,n+1,h=>by obtain ⟨c,cr,rfl,h1,h2⟩:=h;exact ⟨c,cr.take n,rfl,h1,Q5.take n h2⟩
theorem Q5.set {τ:TypeId→Option Ty}:∀ {xs:List LV} {cs:List Value} (i:Nat) {v:LV} {c:Value},Q5 P τ S β w xs cs→Qm P τ S β w v c→Q5 P τ S β w (xs.set i v) (cs.set i c)
 | [],cs,i,v,c,h,hv=>by simp only [Q5] at h;subst h;simp [Q5]
 | x::r,cs,0,v,c,h,hv=>by obtain ⟨c',cr,rfl,h1,h2⟩:=h;exact ⟨c,cr,rfl,hv,h2⟩
 | x::r,cs,i+1,v,c,h,hv=>by obtain ⟨c',cr,rfl,h1,h2⟩:=h;exact ⟨c',cr.set i c,rfl,h1,Q5.set i h2 hv⟩
def Q23 (S:Nat→Prop) (β:Lab→Value) (ls:List Lab):Nat→Prop:=fun k=>S k∨∃ l∈ls,blk (β l)=some k
theorem Xz {τ:TypeId→Option Ty} {t t':Ty} {x:t.den} {y:t'.den} {cs:List Value} (h:Zi t t' x=some y) (hr:Rep τ S w t x cs):Rep τ S w t' y cs:=by
 obtain ⟨e,he⟩:=Z0 h
 subst e;subst he;exact hr
theorem Q20 {τ:TypeId→Option Ty} (hob:∀ l ob,Q0 st.objs l=some ob→Z7 P τ S β w ob (β l))
  {t:Ty} {v:LV} {x:t.den} {c:Value} (hd:Jp (Q0 st.objs) t v=some x) (hv:Qm P τ S β w v c):Rep τ (Q23 S β (Qj [(v,false)])) w t x [c]:=by
 cases v with
 | pure t' y=>exact (Xz hd hv).mono (fun _ h=>.inl h)
 | nil=>
  have:c=.slice none 0 0:=hv
  subst this
  cases t with
  | sl n e=>
   have hx:([]:List e.den)=x:=sI hd
   subst hx
   exact ⟨none,0,rfl,Nat.le_refl _,by simp [maxLen],fun h=>absurd h (by simp)⟩
  | _=>cases hd
 | lit b=>
  have:c=.bool b:=hv
  subst this
  exact Xz (t:=.bool) (x:=b) hd rfl
 | ref l=>
  simp only [Jp] at hd
  split at hd
  case h_3=>cases hd
  case h_2 eT e xs ho=>
   have hc:β l=c:=hv.1
   have a:=hob l _ ho
   rw [hc] at a
   have hr:=Qi7 a hv.2
   refine (Xz hd hr).mono (fun k hk=>?_)
   rcases hk with hk | hk
   ·exact .inl hk
   ·exact .inr ⟨l,by simp [Qj],by rw [hc];exact hk⟩
  case h_1 eT e xs ho=>
  have hr:=Qf3 (hob l _ ho)
  have hc:β l=c:=hv.1
  rw [hc] at hr
  refine (Xz hd hr).mono (fun k hk=>?_)
  rcases hk with hk | hk
  ·exact .inl hk
  ·exact .inr ⟨l,by simp [Qj],by rw [hc];exact hk⟩
 | ptr l off=>cases hd
 | gfn f=>cases hd
 | clo ps rs g=>cases hd
 | nb ne=>cases hd
theorem Xy (v:LV) (r:List (LV × Bool)):Qj ((v,false)::r)=Qj [(v,false)]++Qj r:=by
 cases v<;>simp [Qj]
theorem Q81 (vs:List LV):Qg vs []=vs.map fun v=>(v,false):=by
 induction vs with
 | nil=>rfl
 | cons v r ih=>simp [Qg,ih]
theorem Qd5 {τ:TypeId→Option Ty} (hob:∀ l ob,Q0 st.objs l=some ob→Z7 P τ S β w ob (β l)) :
  ∀ {t:Ty} {vs:List LV} {x:t.den} {r:List LV} {cs:List Value},Q1t (Q0 st.objs) t vs=some (x,r)→Q5 P τ S β w vs cs →
   ∃ c1 c2 v1,cs=c1++c2∧vs=v1++r∧Rep τ (Q23 S β (Qj (v1.map fun v=>(v,false)))) w t x c1∧Q5 P τ S β w r c2:=by
 have d:∀ {t:Ty} {vs:List LV} {x:t.den} {r:List LV} {cs:List Value},(∀ v q,vs=v::q→Jp (Q0 st.objs) t v=some x→r=q →
   Q5 P τ S β w vs cs→∃ c1 c2 v1,cs=c1++c2∧vs=v1++r∧Rep τ (Q23 S β (Qj (v1.map fun v=>(v,false)))) w t x c1∧Q5 P τ S β w r c2):=by
  intro t vs x r cs v q m hd hr h
  subst m;subst hr
  obtain ⟨c,cr,rfl,h1,h2⟩:=h
  exact ⟨[c],cr,[v],rfl,rfl,Q20 hob hd h1,h2⟩
 have base:∀ {t:Ty} {v:LV} {q:List LV} {x:t.den} {r:List LV},((Jp (Q0 st.objs) t v).bind fun x=>some (x,q))=some (x,r)→Jp (Q0 st.objs) t v=some x∧r=q:=by
  intro t v q x r h
  simp only [Option.bind_eq_some_iff,Option.some.injEq,Prod.mk.injEq] at h
  obtain ⟨y,hy,rfl,rfl⟩:=h
  exact ⟨hy,rfl⟩
 intro t
 induction t with
 | int k=>
  intro vs x r cs hd h
  cases vs with
  | nil=>cases hd
  | cons v q=>obtain ⟨h1,h2⟩:=base hd;exact d v q rfl h1 h2 h
 | bool=>
  intro vs x r cs hd h
  cases vs with
  | nil=>cases hd
  | cons v q=>obtain ⟨h1,h2⟩:=base hd;exact d v q rfl h1 h2 h
 | str=>
  intro vs x r cs hd h
  cases vs with
  | nil=>cases hd
  | cons v q=>obtain ⟨h1,h2⟩:=base hd;exact d v q rfl h1 h2 h
 | ifc=>
  intro vs x r cs hd h
  cases vs with
  | nil=>cases hd
  | cons v q=>obtain ⟨h1,h2⟩:=base hd;exact d v q rfl h1 h2 h
 | sl n e ih=>
  intro vs x r cs hd h
  cases vs with
  | nil=>cases hd
  | cons v q=>obtain ⟨h1,h2⟩:=base hd;exact d v q rfl h1 h2 h
 | pair a b o p=>
  intro vs x r cs hd h
  simp only [Q1t,Option.bind_eq_some_iff,Option.some.injEq,Prod.exists] at hd
  obtain ⟨x1,r1,f,x2,r2,g,rfl,rfl⟩:=hd
  obtain ⟨c1,c2,v1,rfl,rfl,i,h2⟩:=o f h
  obtain ⟨d1,d2,v2,rfl,rfl,j,h3⟩:=p g h2
  refine ⟨c1++d1,d2,v1++v2,by simp,by simp,⟨c1,d1,rfl,i.mono ?_,j.mono ?_⟩,h3⟩
  ·rintro k (hk | ⟨l,hl,hb⟩)
   ·exact .inl hk
   ·refine .inr ⟨l,?_,hb⟩
    clear h f g i j h2 h3
    induction v1 with
    | nil=>simp [Qj] at hl
    | cons v q ih=>
     rw [List.map_cons,Xy] at hl
     rw [List.cons_append,List.map_cons,Xy]
     rcases List.mem_append.1 hl with hl | hl
     ·exact List.mem_append.2 (.inl hl)
     ·exact List.mem_append.2 (.inr (ih hl))
  ·rintro k (hk | ⟨l,hl,hb⟩)
   ·exact .inl hk
   ·refine .inr ⟨l,?_,hb⟩
    clear h f g i j h2 h3
    induction v1 with
    | nil=>simpa using hl
    | cons v q ih=>
     rw [List.cons_append,List.map_cons,Xy]
     exact List.mem_append.2 (.inr ih)
 | unit=>
  intro vs x r cs hd h
  simp only [Q1t,Option.some.injEq] at hd
  obtain ⟨_,rfl⟩:=hd
  exact ⟨[],cs,[],rfl,rfl,rfl,h⟩
theorem Q65 {τ:TypeId→Option Ty} (hob:∀ l ob,Q0 st.objs l=some ob→Z7 P τ S β w ob (β l))
  {t:Ty} {c:CV} {x:t.den} {v:Value} (hd:Q1h (Q0 st.objs) t c=some x) (hv:Xm P τ S β w c v) :
  Q0k τ (Q23 S β (Qj (Qg (Xt c) []))) w t x v:=by
 cases c with
 | one y=>
  simp only [Q1h] at hd
  cases ha:t.isAgg with
  | true=>rw [ha] at hd;cases hd
  | false=>
   rw [ha] at hd
   exact .inr ⟨ha,Q20 hob hd hv⟩
 | agg vs=>
  simp only [Q1h] at hd
  cases ha:t.isAgg with
  | false=>rw [ha] at hd;cases hd
  | true=>
   rw [ha] at hd
   simp only [cond_true] at hd
   split at hd
   case h_2=>cases hd
   case h_1 y he=>
   simp only [Option.some.injEq] at hd
   subst hd
   obtain ⟨cs,rfl,hc⟩:=hv
   obtain ⟨c1,c2,v1,rfl,h1,h2,h3⟩:=Qd5 hob he hc
   simp only [Q5] at h3
   subst h3
   rw [List.append_nil] at h1
   subst h1
   refine .inl ⟨ha,c1,by simp,?_⟩
   rw [Xt,Q81]
   exact h2
end
end Go.PE
set_option linter.unusedSimpArgs false
namespace Go.PE
section
variable {P:Program} {tab:Tab} {N:NN} {w0:World} {F:FF} {S:Nat→Prop} {β:Lab→Value} {st:St} {a:Act} {w:World}
def Qjy (P:Program) (o:Oper) (a:Act) (w:World) (x:Value) (w':World):Prop:=
 (execOp a.eval o).run P w=.ok (.value x) w'∨((execOp a.eval o).run P w=.ok .skip w'∧x=undef)
def Qa (P:Program) (tab:Tab) (N:NN) (w0:World) (F:FF) (S:Nat→Prop) (β:Lab→Value) (st:St) (a:Act) (w:World) (o:Oper) (v:SV) (u:Upd):Prop:=
 ∃ x w',Qjy P o a w x w'∧∀ st',Qs st (o.dst.getD 999999999) u=some st' →
  ∃ S' β',(∀ k,S k→S' k)∧(∀ l:Lab,l.1≠o.dst.getD 999999999→β' l=β l)∧Rel P tab.ty N w0 F S' β' st' a w'∧Qf P tab.ty S' β' w' v x
theorem Qaw (st:St) (d:Nat):Qs st d []=some st:=rfl
theorem Qa.plain (h:Rel P tab.ty N w0 F S β st a w) {o:Oper} {v:SV} {x:Value} (hr:(execOp a.eval o).run P w=.ok (.value x) w) (hv:Qf P tab.ty S β w v x) :
  Qa P tab N w0 F S β st a w o v []:=
 ⟨x,w,.inl hr,fun st' he=>by rw [Qaw] at he;have:=sI he;subst this;exact ⟨S,β,fun _ h=>h,fun _ _=>rfl,h,hv⟩⟩
theorem Qc7 {v:Value} {l:LV} (h:Q3u v=some l):Qm P tab.ty S β w l v:=by
 unfold Q3u at h
 split at h
 case h_1=>have h:=sI h;subst h;exact (rfl:[_]=[_])
 case h_2=>have h:=sI h;subst h;exact rfl
 case h_3=>have h:=sI h;subst h;exact (rfl:[_]=[_])
 case h_4=>have h:=sI h;subst h;exact rfl
 case h_5=>have h:=sI h;subst h;exact ⟨rfl,trivial⟩
 case h_6=>cases h
theorem Q4 (h:Rel P tab.ty N w0 F S β st a w) (x:Operand):Qf P tab.ty S β w (Qb st.slots x) (a.eval x):=by
 cases x with
 | tmp t=>exact h.slots t
 | const v=>
  simp only [Qb,Qax,Act.eval]
  cases hc:Q3u v with
  | none=>trivial
  | some l=>exact Qc7 hc
 | func f=>exact rfl
 | global g=>trivial
theorem Qy {v:SV} {l:LV} {x:Value} (h:Jd v=some l) (hv:Qf P tab.ty S β w v x):Qm P tab.ty S β w l x:=by
 unfold Jd at h
 split at h
 ·simp only [Option.some.injEq] at h;subst h;exact hv
 ·cases h
theorem Qv {l:LV} {p:IntKind × Int} {x:Value} (h:Xp l=some p) (hv:Qm P tab.ty S β w l x):x=.int p.1 p.2:=by
 unfold Xp at h
 split at h
 ·have h:=sI h
  subst h
  exact List.singleton_inj.1 hv
 ·cases h
theorem X6 {l:LV} {b:Bool} {x:Value} (h:Q00 l=some b) (hv:Qm P tab.ty S β w l x):x=.bool b:=by
 unfold Q00 at h
 split at h
 ·have h:=sI h;subst h;exact hv
 ·have h:=sI h
  subst h
  exact List.singleton_inj.1 hv
 ·cases h
theorem X1 {l:LV} {s:ByteArray} {x:Value} (h:Q2y l=some s) (hv:Qm P tab.ty S β w l x):x=.string s:=by
 unfold Q2y at h
 split at h
 ·have h:=sI h
  subst h
  exact List.singleton_inj.1 hv
 ·cases h
theorem Q5r (k:IntKind) (n:Int):Qf P tab.ty S β w (.cv (.one (.pure (.int k) n))) (.int k n):=(rfl:[Value.int k n]=[.int k n])
theorem Q56 (b:Bool):Qf P tab.ty S β w (.cv (.one (.pure .bool b))) (.bool b):=(rfl:[Value.bool b]=[.bool b])
theorem Qe0 (s:ByteArray):Qf P tab.ty S β w (.cv (.one (.pure .str s))) (.string s):=(rfl:[Value.string s]=[.string s])
theorem Qj1 {a b:IntKind} (h:Nat.beq (Qq a) (Qq b)=true):a=b:=Jw (Nat.eq_of_beq_eq_true h)
theorem Qe5 {op:BinOp} {k:IntKind} {x y:Int} {c:Bool} {r:LV} (T:TypeId) (h:Qdj op k x y=some (c,r)) (hc:c=true) :
  ∃ v,(binOp op T (.int k x) (.int k y)).run P w=.ok v w∧Qm P tab.ty S β w r v:=by
 cases op<;>simp only [Qdj,Option.some.injEq,Prod.mk.injEq,reduceCtorEq] at h<;>first | (cases h;done) | skip
 all_goals obtain ⟨h1,h2⟩:=h
 all_goals subst h2
 case quo=>subst h1;simp only [Bool.not_eq_true',beq_eq_false_iff_ne] at hc;exact ⟨_,by simp [binOp,Op.intDiv,hc],(rfl:[_]=[_])⟩
 case rem=>subst h1;simp only [Bool.not_eq_true',beq_eq_false_iff_ne] at hc;exact ⟨_,by simp [binOp,Op.intDiv,hc],(rfl:[_]=[_])⟩
 all_goals exact ⟨_,by simp [binOp,Op.intArith,Op.intBits,Op.intCmp],(rfl:[_]=[_])⟩
theorem Q92 {op:BinOp} {k k':IntKind} {x y:Int} {c:Bool} {r:LV} (T:TypeId) (h:Qex op k x y=some (c,r)) (hc:c=true) :
  ∃ v,(binOp op T (.int k x) (.int k' y)).run P w=.ok v w∧Qm P tab.ty S β w r v:=by
 cases op<;>simp only [Qex,Option.some.injEq,Prod.mk.injEq,reduceCtorEq] at h<;>first | (cases h;done) | skip
 all_goals obtain ⟨h1,h2⟩:=h
 all_goals subst h2
 all_goals subst h1
 all_goals have hy:¬ y<0:=by simpa using hc
 all_goals exact ⟨_,by simp [binOp,Op.shift,hy],(rfl:[_]=[_])⟩
theorem Qdt {op:BinOp} {x y:ByteArray} {c:Bool} {r:LV} (T:TypeId) (h:Qe8 op x y=some (c,r)) (hc:c=true) :
  ∃ v,(binOp op T (.string x) (.string y)).run P w=.ok v w∧Qm P tab.ty S β w r v:=by
 cases op<;>simp only [Qe8,Option.some.injEq,Prod.mk.injEq,reduceCtorEq] at h<;>first | (cases h;done) | skip
 all_goals obtain ⟨h1,h2⟩:=h
 all_goals subst h2
 case add=>
  subst h1
  have hy:¬ (((x.size+y.size:Nat):Int)>IntKind.i64.max):=by
   have:=of_decide_eq_true hc
   simp [IntKind.max,IntKind.signed,IntKind.bits];omega
  exact ⟨_,by simp only [binOp,Op.stringOp,if_neg hy];rfl,(rfl:[_]=[_])⟩
 all_goals exact ⟨_,by simp [binOp,Op.stringOp,Q9b],(rfl:[_]=[_])⟩
theorem Qaz {op:BinOp} {x y:Bool} {c:Bool} {r:LV} {T:TypeId} (hT:P.underlying T=some .bool) (h:Qa7 op x y=some (c,r)) (hc:c=true) :
  ∃ v,(binOp op T (.bool x) (.bool y)).run P w=.ok v w∧Qm P tab.ty S β w r v:=by
 cases op<;>simp only [Qa7,Option.some.injEq,Prod.mk.injEq,reduceCtorEq] at h<;>first | (cases h;done) | skip
 all_goals obtain ⟨h1,h2⟩:=h
 all_goals subst h2
 case eql=>exact ⟨_,run_eql_bool w T x y hT,(rfl:[_]=[_])⟩
 case neq=>exact ⟨_,run_neq_bool w T x y hT,(rfl:[_]=[_])⟩
theorem Qfb {op:BinOp} {x y:LV} {c:Bool} {r:LV} {T:TypeId} {u v:Value} (h:Q97 op x y=some (c,r)) (hc:c=true)
  (hT:∀ b,Q00 x=some b→P.underlying T=some .bool) (hx:Qm P tab.ty S β w x u) (hy:Qm P tab.ty S β w y v) :
  ∃ z,(binOp op T u v).run P w=.ok z w∧Qm P tab.ty S β w r z:=by
 unfold Q97 at h
 split at h
 ·rename_i k m k' n hm hn
  have e1:=Qv hm hx
  have e2:=Qv hn hy
  subst e1;subst e2
  split at h
  ·exact Q92 T h hc
  ·exact Q92 T h hc
  ·cases hb:Nat.beq (Qq k) (Qq k') with
   | false=>rw [hb] at h;cases h
   | true=>
    rw [hb] at h
    have e:=Qj1 hb
    subst e
    exact Qe5 T h hc
 ·split at h
  ·rename_i s t hs ht
   have e1:=X1 hs hx
   have e2:=X1 ht hy
   subst e1;subst e2
   exact Qdt T h hc
  ·split at h
   ·rename_i s t hs ht
    have e1:=X6 hs hx
    have e2:=X6 ht hy
    subst e1;subst e2
    exact Qaz (hT _ hs) h hc
   ·cases h
theorem Q2 {a b:Nat}:Nat.ble a b=true↔a≤b:=by rw [Nat.ble_eq]
theorem Q8h {a b:Nat} (h:Nat.blt a b=false):b≤a:=by
 rcases Nat.lt_or_ge a b with d | c
 ·have:Nat.blt a b=true:=Q2.2 d
  rw [this] at h;cases h
 ·exact c
theorem Q42 {τ:TypeId→Option Ty}:∀ {e:Ty} {x:e.den} {off:Nat} {t:Ty} {y:t.den} {cs:List Value},Q6h e x off t=some y→Rep τ S w e x cs →
  off+t.cells≤cs.length∧Rep τ S w t y ((cs.drop off).take t.cells):=by
 intro e
 have c:∀ {e:Ty} {x:e.den} {off:Nat} {t:Ty} {y:t.den} {cs:List Value},(bif Nat.beq off 0 then Zi e t x else none)=some y→Rep τ S w e x cs →
   off+t.cells≤cs.length∧Rep τ S w t y ((cs.drop off).take t.cells):=by
  intro e x off t y cs h hr
  cases hb:Nat.beq off 0 with
  | false=>rw [hb] at h;cases h
  | true=>
   rw [hb] at h
   have:=Nat.eq_of_beq_eq_true hb
   subst this
   have hl:=(Xz h hr).length
   refine ⟨by omega,?_⟩
   rw [List.drop_zero,List.take_of_length_le (by omega)]
   exact Xz h hr
 induction e with
 | pair a b i j=>
  intro x off t y cs h hr
  simp only [Q6h] at h
  split at h
  ·rename_i z hz
   simp only [Option.some.injEq] at h
   subst h
   exact c hz hr
  ·obtain ⟨c1,c2,rfl,h1,h2⟩:=hr
   have f:=h1.length
   cases hb:Nat.blt off a.cells with
   | true=>
    rw [hb] at h
    obtain ⟨g,d⟩:=i h h1
    refine ⟨by rw [List.length_append];omega,?_⟩
    rw [List.drop_append_of_le_length (by omega),List.take_append_of_le_length (by rw [List.length_drop];omega)]
    exact d
   | false=>
    rw [hb] at h
    have l:a.cells≤off:=Q8h hb
    obtain ⟨g,d⟩:=j h h2
    refine ⟨by rw [List.length_append];omega,?_⟩
    rw [List.drop_append,List.drop_eq_nil_of_le (by omega),List.nil_append,f]
    exact d
 | int k=>intro x off t y cs h hr;exact c h hr
 | bool=>intro x off t y cs h hr;exact c h hr
 | str=>intro x off t y cs h hr;exact c h hr
 | ifc=>intro x off t y cs h hr;exact c h hr
 | sl n e ih=>intro x off t y cs h hr;exact c h hr
 | unit=>intro x off t y cs h hr;exact c h hr
theorem Q9p {τ:TypeId→Option Ty}:∀ {e:Ty} {x:e.den} {off:Nat} {t:Ty} {y:t.den} {z:e.den} {cs ds:List Value},Q9j e x off t y=some z→Rep τ S w e x cs→Rep τ S w t y ds →
  off+t.cells≤cs.length∧Rep τ S w e z (cs.take off++ds++cs.drop (off+t.cells)):=by
 intro e
 have c:∀ {e:Ty} {x:e.den} {off:Nat} {t:Ty} {y:t.den} {z:e.den} {cs ds:List Value},(bif Nat.beq off 0 then Zi t e y else none)=some z→Rep τ S w e x cs→Rep τ S w t y ds →
   off+t.cells≤cs.length∧Rep τ S w e z (cs.take off++ds++cs.drop (off+t.cells)):=by
  intro e x off t y z cs ds h hr hd
  cases hb:Nat.beq off 0 with
  | false=>rw [hb] at h;cases h
  | true=>
   rw [hb] at h
   have:=Nat.eq_of_beq_eq_true hb
   subst this
   obtain ⟨e1,_⟩:=Z0 h
   subst e1
   have hl:=hr.length
   refine ⟨by omega,?_⟩
   rw [List.take_zero,List.nil_append,Nat.zero_add,List.drop_eq_nil_of_le (by omega),List.append_nil]
   exact Xz h hd
 induction e with
 | pair a b l m=>
  intro x off t y z cs ds h hr hd
  simp only [Q9j] at h
  split at h
  ·rename_i q hz
   simp only [Option.some.injEq] at h
   subst h
   exact c hz hr hd
  ·obtain ⟨c1,c2,rfl,h1,h2⟩:=hr
   have i:=h1.length
   have p:=hd.length
   cases hb:Nat.blt off a.cells with
   | true=>
    rw [hb] at h
    simp only [cond_true,Option.bind_eq_some_iff] at h
    obtain ⟨z1,g,d⟩:=h
    have d:=sI d
    subst d
    obtain ⟨j,f⟩:=l g h1 hd
    refine ⟨by rw [List.length_append];omega,_,c2,?_,f,h2⟩
    rw [List.take_append_of_le_length (by omega),List.drop_append_of_le_length (by omega)]
    simp [List.append_assoc]
   | false=>
    rw [hb] at h
    have o:a.cells≤off:=Q8h hb
    simp only [cond_false,Option.bind_eq_some_iff] at h
    obtain ⟨z1,g,d⟩:=h
    have d:=sI d
    subst d
    obtain ⟨j,f⟩:=m g h2 hd
    refine ⟨by rw [List.length_append];omega,c1,_,?_,h1,f⟩
    rw [List.take_append,List.take_of_length_le (by omega),List.drop_append,List.drop_eq_nil_of_le (by omega),List.nil_append,i,
     show off+t.cells - a.cells=off - a.cells+t.cells by omega]
    simp [List.append_assoc]
 | int k=>intro x off t y z cs ds h hr hd;exact c h hr hd
 | bool=>intro x off t y z cs ds h hr hd;exact c h hr hd
 | str=>intro x off t y z cs ds h hr hd;exact c h hr hd
 | ifc=>intro x off t y z cs ds h hr hd;exact c h hr hd
 | sl n e ih=>intro x off t y z cs ds h hr hd;exact c h hr hd
 | unit=>intro x off t y z cs ds h hr hd;exact c h hr hd
theorem Xo {b:Nat} {cs:Array Value} {T:TypeId} {fr:Nat × Nat} {o n:Nat} (h:w.heap[b]?=some (.cells cs T fr)) (c:o+n≤cs.size) :
  Ja w b o ((cs.toList.drop o).take n):=by
 intro j hj
 rw [cell_of_row w b _ cs T fr h]
 rw [List.length_take,List.length_drop,Array.length_toList] at hj
 have a:o+j<cs.size:=by omega
 rw [List.getD_eq_getElem?_getD,List.getElem?_take,if_pos (by omega),List.getElem?_drop,Array.getElem?_toList,Array.getElem?_eq_getElem a]
 rfl
theorem Qcm {o:Oper} {T:TypeId} {x:Operand} (ho:o.op=.load T x) {t:Ty} (hT:Q5v P T t) {b off:Nat} {cs:List Value} (hx:a.eval x=.pointer (some ⟨b,off,none⟩))
  (hl:cs.length=t.cells) (hc:Ja w b off cs):(execOp a.eval o).run P w=.ok (.value (Xd t cs)) w:=by
 unfold execOp
 simp only [ho,Instr.loadAt,hx,Instr.sureAddr]
 simp [Q69 hT hl hc]
theorem Q5q {eT:TypeId} {sz n:Nat} {v:Value} {cells:List Value} (c:w.ownsRow 0 eT sz v n cells) {b:Nat} (hb:blk v=some b) :
  ∃ cap a,v=.slice (some ⟨b,0,none⟩) n cap∧w.heap[b]?=some (.cells a eT (0,0))∧n≤cap∧cap≤maxLen∧a.size=cap*sz∧a.toList.take (n*sz)=cells:=by
 rcases c.2 with ⟨rfl,_⟩ | ⟨g,cap,a,rfl,_,h1,h2,h3,h4,h5⟩
 ·cases hb
 ·simp only [blk,Option.some.injEq] at hb
  subst hb
  exact ⟨cap,a,rfl,h1,h2,h3,h4,h5⟩
theorem Q2f {i n sz off m:Nat} (hi:i<n) (h:off+m≤sz):i*sz+off+m≤n*sz:=by
 have:(i+1)*sz≤n*sz:=Nat.mul_le_mul_right _ hi
 rw [Nat.add_mul,Nat.one_mul] at this
 omega
theorem Q4j {α:Type} (l:List α) (i off n m:Nat) (h:off+m≤n):(((l.drop i).take n).drop off).take m=(l.drop (i+off)).take m:=by
 rw [List.drop_take,List.take_take,List.drop_drop,show min m (n - off)=m by omega]
theorem Q9q (G:Qc P tab) (h:Rel P tab.ty N w0 F S β st a w) {T:TypeId} {x:Operand} {c:Bool} {v:SV} {u:Upd}
  (he:Q7c tab (Q0 st.objs) T (Qb st.slots x)=some (c,v,u)) (hc:c=true) :
  ∃ t b off cs,Q5v P T t∧a.eval x=.pointer (some ⟨b,off,none⟩)∧cs.length=t.cells∧Ja w b off cs∧Qf P tab.ty S β w v (Xd t cs)∧u=[]:=by
 unfold Q7c at he
 simp only [Option.bind_eq_some_iff] at he
 obtain ⟨t,ht,he⟩:=he
 have hT:=G.ty T t ht
 have hx:=Q4 h x
 revert he hx
 cases hsx:Qb st.slots x with
 | dead=>intro he;cases he
 | skip=>intro he;cases he
 | tup cs=>intro he;cases he
 | win _ _ _ _=>intro he;cases he
 | tupe _ _ _=>intro he;cases he
 | tupn _=>intro he;cases he
 | ep t' y=>
  intro he hx
  simp only [Option.bind_eq_some_iff,Option.some.injEq,Prod.mk.injEq] at he
  obtain ⟨z,hz,rfl,rfl,rfl⟩:=he
  obtain ⟨b,off,cs,hp,_,_,g,hr⟩:=hx
  have hr:=Xz hz hr
  exact ⟨t,b,off,cs,hT,hp,hr.length,g,Q3k (Q2u hr),rfl⟩
 | cv cc=>
  cases cc with
  | agg vs=>intro he;cases he
  | one y=>
   cases y<;>try (intro he;cases he;done)
   case ptr l off=>
   intro he hx
   simp only at he
   obtain ⟨b,m,p⟩:=hx
   cases hol:Q0 st.objs l with
   | none=>rw [hol] at he;cases he
   | some ob=>
    rw [hol] at he
    cases ob with
    | row eT e xs=>cases he
    | arr eT e xs=>cases he
    | lrow eT vs=>cases he
    | mem _ _ _ _ _=>cases he
    | box B vs=>
     obtain ⟨b',T',cs,e1,hh,j⟩:=h.objs l _ hol
     rw [m] at e1
     simp only [Value.pointer.injEq,Option.some.injEq,Addr.mk.injEq] at e1
     obtain ⟨rfl,_⟩:=e1
     have s:=j.length
     simp only [Array.length_toList] at s
     cases ha:t.isAgg with
     | true=>
      simp only [ha,cond_true] at he
      cases f:Nat.ble (off+t.cells) vs.length with
      | false=>rw [f] at he;cases he
      | true=>
       rw [f] at he
       simp only [cond_true,Option.some.injEq,Prod.mk.injEq] at he
       obtain ⟨rfl,rfl,rfl⟩:=he
       have f:=Q2.1 f
       have g:=Xo (o:=off) (n:=t.cells) hh (by omega)
       refine ⟨t,b,off,_,hT,p,(by rw [List.length_take,List.length_drop,Array.length_toList];omega),g,?_,rfl⟩
       refine ⟨(cs.toList.drop off).take t.cells,by simp [Xd,ha],(j.drop off).take t.cells⟩
     | false=>
      simp only [ha,cond_false,Option.bind_eq_some_iff,Option.some.injEq,Prod.mk.injEq] at he
      obtain ⟨lv,D,rfl,rfl,rfl⟩:=he
      obtain ⟨cv,q,hr⟩:=j.get off D
      have H:off<cs.size:=by
       rcases Nat.lt_or_ge off cs.size with H | L
       ·exact H
       ·rw [List.getElem?_eq_none (by rw [Array.length_toList];exact L)] at q;cases q
      have g:=Xo (o:=off) (n:=t.cells) hh (by rw [Ty.cells_one ha];omega)
      refine ⟨t,b,off,_,hT,p,(by rw [List.length_take,List.length_drop,Array.length_toList,Ty.cells_one ha];omega),g,?_,rfl⟩
      have:Xd t ((cs.toList.drop off).take t.cells)=cv:=by
       rw [Xd,ha,cond_false,List.getD_eq_getElem?_getD,List.getElem?_take,if_pos (by rw [Ty.cells_one ha];omega),List.getElem?_drop,Nat.add_zero,q]
       rfl
      rw [this]
      exact hr
 | ap l i off sz=>
  intro he hx
  obtain ⟨b,m,p⟩:=hx
  simp only at he
  cases hol:Q0 st.objs l with
  | none=>rw [hol] at he;cases he
  | some ob=>
   rw [hol] at he
   cases ob with
   | box B vs=>cases he
   | mem _ _ _ _ _=>cases he
   | row eT e xs=>
    simp only [Option.bind_eq_some_iff,Option.some.injEq,Prod.mk.injEq] at he
    obtain ⟨z,hz,rfl,rfl,rfl⟩:=he
    cases k:Nat.beq sz e.cells with
    | false=>rw [k] at hz;cases hz
    | true=>
     rw [k] at hz
     simp only [cond_true] at hz
     have:=Nat.eq_of_beq_eq_true k
     subst this
     simp only [Bool.and_eq_true,decide_eq_true_eq] at hc
     have hi:i.toNat<xs.length:=by omega
     obtain ⟨_,cells,A,r⟩:=h.objs l _ hol
     obtain ⟨cap,C,hv,hh,hn,_,K,E⟩:=Q5q A m
     obtain ⟨f,d⟩:=Q42 hz (r.elem i.toNat hi)
     rw [(r.elem i.toNat hi).length] at f
     have J:=Q2f hi f
     have M:xs.length*e.cells≤cap*e.cells:=Nat.mul_le_mul_right _ hn
     have g:=Xo (o:=i.toNat*e.cells+off) (n:=t.cells) hh (by omega)
     rw [Q4j cells _ _ _ _ f,← E] at d
     have e2:((C.toList.take (xs.length*e.cells)).drop (i.toNat*e.cells+off)).take t.cells=(C.toList.drop (i.toNat*e.cells+off)).take t.cells:=by
      rw [List.drop_take,List.take_take,show min t.cells (xs.length*e.cells - (i.toNat*e.cells+off))=t.cells by omega]
     rw [e2] at d
     exact ⟨t,_,_,_,hT,p,d.length,g,Q3k (Q2u d),rfl⟩
   | lrow eT vs=>
    cases hq:(Nat.beq sz 1&&Nat.beq off 0&&!t.isAgg&&decide (0≤i)&&decide (i<vs.length)) with
    | false=>simp only at he;rw [hq] at he;cases he
    | true=>
     simp only at he
     rw [hq] at he
     simp only [cond_true,Option.bind_eq_some_iff,Option.some.injEq,Prod.mk.injEq] at he
     obtain ⟨lv,D,rfl,rfl,rfl⟩:=he
     simp only [Bool.and_eq_true,decide_eq_true_eq,Bool.not_eq_true'] at hq
     obtain ⟨⟨⟨⟨q1,q2⟩,q3⟩,q4⟩,q5⟩:=hq
     have q1:=Nat.eq_of_beq_eq_true q1
     have q2:=Nat.eq_of_beq_eq_true q2
     subst q1;subst q2
     have h1:=Ty.cells_one q3
     obtain ⟨cells,A,j⟩:=h.objs l _ hol
     obtain ⟨cv,q,hr⟩:=j.get i.toNat D
     obtain ⟨cap,C,hv,hh,hn,_,K,E⟩:=Q5q A m
     have g:=Xo (o:=i.toNat*1+0) (n:=t.cells) hh (by omega)
     refine ⟨t,b,_,_,hT,p,(by rw [List.length_take,List.length_drop,Array.length_toList];omega),g,?_,rfl⟩
     have:Xd t ((C.toList.drop (i.toNat*1+0)).take t.cells)=cv:=by
      rw [← E,List.getElem?_take,if_pos (by omega)] at q
      rw [Xd,q3,cond_false,List.getD_eq_getElem?_getD,List.getElem?_take,if_pos (by omega),List.getElem?_drop,Nat.add_zero,Nat.mul_one,q]
      rfl
     rw [this]
     exact hr
   | arr eT e xs=>
    simp only [Option.bind_eq_some_iff,Option.some.injEq,Prod.mk.injEq] at he
    obtain ⟨z,hz,rfl,rfl,rfl⟩:=he
    cases k:Nat.beq sz e.cells with
    | false=>rw [k] at hz;cases hz
    | true=>
     rw [k] at hz
     simp only [cond_true] at hz
     have:=Nat.eq_of_beq_eq_true k
     subst this
     simp only [Bool.and_eq_true,decide_eq_true_eq] at hc
     have hi:i.toNat<xs.length:=by omega
     obtain ⟨b',T',cs,fr,e1,hh,_,r⟩:=h.objs l _ hol
     have I:b'=b:=by
      rcases e1 with e1 | ⟨_,e1,_⟩<;>(rw [e1] at m;exact sI m)
     subst I
     have s:=r.length
     rw [List.length_take] at s
     have O:cs.toList.length=cs.size:=by simp
     obtain ⟨f,d⟩:=Q42 hz (r.elem i.toNat hi)
     rw [(r.elem i.toNat hi).length] at f
     have J:=Q2f hi f
     have g:=Xo (o:=i.toNat*e.cells+off) (n:=t.cells) hh (by omega)
     rw [Q4j (cs.toList.take (xs.length*e.cells)) _ _ _ _ f] at d
     have e2:((cs.toList.take (xs.length*e.cells)).drop (i.toNat*e.cells+off)).take t.cells=(cs.toList.drop (i.toNat*e.cells+off)).take t.cells:=by
      rw [List.drop_take,List.take_take,show min t.cells (xs.length*e.cells - (i.toNat*e.cells+off))=t.cells by omega]
     rw [e2] at d
     exact ⟨t,_,_,_,hT,p,d.length,g,Q3k (Q2u d),rfl⟩
theorem Qdi (d:Qc P tab) (h:Rel P tab.ty N w0 F S β st a w) {o:Oper} {T:TypeId} {x:Operand} (ho:o.op=.load T x) {c:Bool} {v:SV} {u:Upd}
  (he:Q7c tab (Q0 st.objs) T (Qb st.slots x)=some (c,v,u)) (hc:c=true):Qa P tab N w0 F S β st a w o v u:=by
 obtain ⟨t,b,off,cs,hT,hx,hl,e,hv,rfl⟩:=Q9q d h he hc
 exact Qa.plain h (Qcm ho hT hx hl e) hv
end
end Go.PE
namespace Go.PE
section
variable {P:Program} {tab:Tab} {N:NN} {w0:World} {F:FF} {S:Nat→Prop} {β:Lab→Value} {st:St} {a:Act} {w:World}
theorem Qm.oneCell {τ:TypeId→Option Ty} {x:LV} {v:Value} (h:Qm P τ S β w x v):v.oneCell'=true:=by
 cases x with
 | pure t y=>exact Rep.oneCell h v (by simp)
 | nil=>have:v=_:=h;subst this;rfl
 | lit b=>have:v=_:=h;subst this;rfl
 | ref l=>obtain ⟨_,A,n,c,rfl⟩:=h;rfl
 | ptr l off=>obtain ⟨b,_,rfl⟩:=h;rfl
 | gfn f=>have:v=_:=h;subst this;rfl
 | clo ps rs g=>obtain ⟨_,f,cap,rfl,_⟩:=h;rfl
 | nb ne=>obtain ⟨b,rfl,_⟩:=h;rfl
theorem Q5.oneCell {τ:TypeId→Option Ty}:∀ {xs:List LV} {cs:List Value},Q5 P τ S β w xs cs→∀ u∈cs,u.oneCell'=true
 | [],cs,h,u,hu=>by simp only [Q5] at h;subst h;cases hu
 | x::r,cs,h,u,hu=>by
  obtain ⟨c,cr,rfl,h1,h2⟩:=h
  rcases List.mem_cons.1 hu with rfl | hu
  ·exact h1.oneCell
  ·exact Q5.oneCell h2 u hu
theorem Q5c {v:Value} (h:v.oneCell'=true):v.cells=#[v]:=by cases v<;>first | rfl | cases h
theorem Xm.cells {τ:TypeId→Option Ty} {c:CV} {v:Value} (h:Xm P τ S β w c v):Q5 P τ S β w (Xt c) v.cells.toList:=by
 cases c with
 | one y=>rw [Q5c (Qm.oneCell h)];exact ⟨v,[],rfl,h,rfl⟩
 | agg vs=>obtain ⟨cs,rfl,hc⟩:=h;exact hc
theorem Q2q {τ:TypeId→Option Ty}:∀ {us vs:List LV} {ns cs:List Value} (off:Nat),Q5 P τ S β w vs cs→Q5 P τ S β w us ns→off+us.length≤vs.length →
  Q5 P τ S β w (Q10 vs off us) (cs.take off++ns++cs.drop (off+ns.length))
 | [],vs,ns,cs,off,h,h',hl=>by
  simp only [Q5] at h'
  subst h'
  simpa [Q10] using h
 | x::r,vs,ns,cs,off,h,h',hl=>by
  obtain ⟨c,cr,rfl,h1,h2⟩:=h'
  have a:=h.length
  simp only [List.length_cons] at hl
  have ih:=Q2q (off+1) (h.set off h1) h2 (by rw [List.length_set];omega)
  simp only [Q10]
  have e1:(cs.set off c).take (off+1)=cs.take off++[c]:=by
   rw [List.take_add_one,List.take_set_of_le (Nat.le_refl _)]
   simp [show off<cs.length by omega]
  have e2:(cs.set off c).drop (off+1+cr.length)=cs.drop (off+(cr.length+1)):=by
   rw [List.drop_set_of_lt (by omega),show off+1+cr.length=off+(cr.length+1) by omega]
  rw [e1,e2] at ih
  simpa [List.append_assoc] using ih
theorem Q0g {o:Oper} {T:TypeId} {x v:Operand} (ho:o.op=.store T x v) {t:Ty} (hT:Q5v P T t) {b off:Nat} {B:TypeId} {c:Array Value}
  (hx:a.eval x=.pointer (some ⟨b,off,none⟩)) (hh:w.heap[b]?=some (.cells c B (0,0))) (hl:(a.eval v).cells.size=t.cells) (e:off+t.cells≤c.size)
  (h1:∀ u∈(a.eval v).cells.toList,u.oneCell'=true) :
  (execOp a.eval o).run P w=.ok .skip (w.setRow b (c.toList.take off++(a.eval v).cells.toList++c.toList.drop (off+t.cells)).toArray):=by
 have d:=run_storeCells_at P b off B (a.eval v).cells.toList 0 c w hh (by simp;omega) h1
 simp only [Nat.add_zero,Array.length_toList,hl] at d
 unfold execOp
 simp only [ho,Instr.storeAt,hx,Instr.sureAddr]
 simp [storeVar,Z8 hT,hl,d]
theorem Q0c (P:Program) (g o:Nat) (t:TypeId) (fz:Nat × Nat):∀ (vs:List Value) (i:Nat) (a:Array Value) (w:World),w.heap[g]?=some (.cells a t fz)→fz=(0,0)∨a.size≤fz.1→o+i+vs.length≤a.size→(∀ v∈vs,v.oneCell'=true) →
  (storeCells ⟨g,o,none⟩ vs i).run P w=.ok () (w.setRow g (a.toList.take (o+i)++vs++a.toList.drop (o+i+vs.length)).toArray)
 | [],i,a,w,hg,_,_,_=>by
  simp only [storeCells,List.append_nil,List.length_nil,Nat.add_zero,List.take_append_drop,Array.toArray_toList]
  rw [setRow_self w g a t fz hg]
  rfl
 | v::c,i,a,w,hg,b,hl,h1=>by
  have hi:o+i<a.size:=by simp at hl;omega
  have f:(⟨g,o,none⟩:Addr).add i=⟨g,o+i,none⟩:=by unfold Addr.add;split<;>simp_all
  have d:w.cell? ⟨g,o+i,none⟩=some a[o+i]:=by simp [World.cell?,hg,hi]
  have h:w.frozen? ⟨g,o+i,none⟩=false:=by
   obtain ⟨lo,k⟩:=fz
   simp only [World.frozen?,hg,Bool.and_eq_false_iff,decide_eq_false_iff_not]
   rcases b with b | b
   ·right;rw [(Prod.mk.inj b).2];omega
   ·left;simp only at b;omega
  have j:(store ((⟨g,o,none⟩:Addr).add i) v).run P w=.ok () (w.setRow g (a.setIfInBounds (o+i) v)):=by
   rw [f,run_store P w _ v _ (h1 v (by simp)),d]
   simp [h,setCell_eq_setRow w g (o+i) a t fz v hg]
  have ih:=Q0c P g o t fz c (i+1) (a.setIfInBounds (o+i) v) (w.setRow g (a.setIfInBounds (o+i) v)) (setRow_heap w g a _ t _ hg) (by simpa using b) (by simp at hl ⊢;omega) (fun x hx=>h1 x (by simp [hx]))
  simp only [storeCells,Sem.run_bind,j,Result.andThen_ok,ih,setRow_setRow]
  congr 3
  have e:=list_seg_step a.toList (o+i) v c (by simp at hl ⊢;omega)
  simpa [Array.toList_setIfInBounds,Nat.add_assoc] using e
theorem Q5l {o:Oper} {T:TypeId} {x v:Operand} (ho:o.op=.store T x v) {t:Ty} (hT:Q5v P T t) {b off:Nat} {B:TypeId} {c:Array Value} {fr:Nat × Nat}
  (hx:a.eval x=.pointer (some ⟨b,off,none⟩)) (hh:w.heap[b]?=some (.cells c B fr)) (e:fr=(0,0)∨c.size≤fr.1) (hl:(a.eval v).cells.size=t.cells) (f:off+t.cells≤c.size)
  (h1:∀ u∈(a.eval v).cells.toList,u.oneCell'=true) :
  (execOp a.eval o).run P w=.ok .skip (w.setRow b (c.toList.take off++(a.eval v).cells.toList++c.toList.drop (off+t.cells)).toArray):=by
 have d:=Q0c P b off B fr (a.eval v).cells.toList 0 c w hh e (by simp;omega) h1
 simp only [Nat.add_zero,Array.length_toList,hl] at d
 unfold execOp
 simp only [ho,Instr.storeAt,hx,Instr.sureAddr]
 simp [storeVar,Z8 hT,hl,d]
theorem Fr.setRow (w:World) (g:Nat) (cs:Array Value):Fr (fun k=>k=g) w (w.setRow g cs):=
 ⟨rfl,rfl,rfl,by simp,fun k _ hk=>setRow_other w g k cs hk⟩
theorem Q1a:∀ {vs:List LV},vs.all Qf4=true→Qj (vs.map fun v=>(v,false))=[]
 | [],_=>rfl
 | v::r,h=>by
  simp only [List.all_cons,Bool.and_eq_true] at h
  rw [List.map_cons,Xy,Q1a h.2]
  cases v<;>first | rfl | (exact absurd h.1 (by simp [Qf4]))
theorem Qan (S:Nat→Prop) (β:Lab→Value):Q23 S β []=S:=by
 funext k;apply propext;simp [Q23]
theorem Q1f (h:Rel P tab.ty N w0 F S β st a w) {t:Ty} {c:CV} {x:t.den} {v:Value} (hd:Q1h (Q0 st.objs) t c=some x) (hv:Xm P tab.ty S β w c v)
  (hn:Q07 c=true):Q0k tab.ty S w t x v:=by
 have hr:=Q65 h.objs hd hv
 have e:Qj (Qg (Xt c) [])=[]:=by
  rw [Q81]
  cases c with
  | one u=>exact Q1a (by simpa [Xt,Q07] using hn)
  | agg us=>exact Q1a hn
 rw [e,Qan] at hr
 exact hr
theorem Q0k.cellsRep {τ:TypeId→Option Ty} {t:Ty} {x:t.den} {v:Value} (h:Q0k τ S w t x v):Rep τ S w t x v.cells.toList:=by
 rcases h with ⟨ha,cs,rfl,hr⟩ | ⟨ha,hr⟩
 ·exact hr
 ·have:=hr.oneCell v (by simp)
  rw [Q5c this];exact hr
theorem Qie {α:Type} (cs ds:List α) (i off n m:Nat) (h:off+m≤n) (a:i+n≤cs.length) (hd:ds.length=m) :
  cs.take i++((((cs.drop i).take n).take off)++ds++(((cs.drop i).take n).drop (off+m)))++cs.drop (i+n)=cs.take (i+off)++ds++cs.drop (i+off+m):=by
 have e1:cs.take i++((cs.drop i).take n).take off=cs.take (i+off):=by
  rw [List.take_take,show min off n=off by omega,← List.take_add]
 have e2:((cs.drop i).take n).drop (off+m)++cs.drop (i+n)=cs.drop (i+off+m):=by
  rw [List.drop_take,List.drop_drop]
  have:cs.drop (i+n)=(cs.drop (i+(off+m))).drop (n - (off+m)):=by
   rw [List.drop_drop];congr 1;omega
  rw [this,List.take_append_drop]
  congr 1;omega
 calc _=(cs.take i++((cs.drop i).take n).take off)++ds++(((cs.drop i).take n).drop (off+m)++cs.drop (i+n)):=by simp [List.append_assoc]
  _=_:=by rw [e1,e2]
theorem Q7y {α:Type} (l ds:List α) (p m n:Nat) (hd:ds.length=m) (h:p+m≤n) (hn:n≤l.length) :
  (l.take p++ds++l.drop (p+m)).take n=(l.take n).take p++ds++(l.take n).drop (p+m):=by
 have e1:(l.take p++ds).length=p+m:=by rw [List.length_append,List.length_take,hd];omega
 rw [List.take_append,e1,List.take_of_length_le (by omega),List.take_take,show min p n=p by omega,List.drop_take]
theorem Q2k {l:Lab} {ob:Ob} {d:Nat} {st':St} (hl:l.1=d) (h:Qs st d [(l,ob)]=some st'):X2 st l=true∧st'={ st with objs:=(l,ob)::st.objs }:=by
 have hd:=Z6.2 hl
 simp only [Qs,Xl,Zh,List.filter_cons,hd,List.filter_nil,if_true,Bool.not_true,Bool.false_eq_true,if_false,List.map_nil,List.all_nil,List.all_cons,Bool.and_true,delAll,Q2n] at h
 cases hf:X2 st l with
 | false=>simp [hf] at h
 | true=>
  refine ⟨rfl,?_⟩
  simp [hf,Zt,Xw] at h
  exact h.symm
theorem Qa4 {l:Lab} {ob:Ob} {d:Nat} {st':St} (hl:Nat.beq l.1 d=false) (h:Qs st d [(l,ob)]=some st'):st'={ st with objs:=Q46 st.objs l ob }:=by
 simp only [Qs,Xl,Zh,List.filter_cons,hl,List.filter_nil,if_true,Bool.not_false,Bool.false_eq_true,if_false,List.all_nil,List.all_cons,Bool.and_true,Q2n] at h
 cases hf:has st.objs l with
 | false=>simp [hf] at h
 | true=>
  simp [hf,Zt,Xw] at h
  exact h.symm
theorem Q3w (h:Rel P tab.ty N w0 F S β st a w) {o:Oper} {l:Lab} {ob ob0:Ob} {b:Nat} {cs:Array Value} (hr:(execOp a.eval o).run P w=.ok .skip (w.setRow b cs))
  (hol:Q0 st.objs l=some ob0) (hb:blk (β l)=some b) (hob:Z7 P tab.ty S β (w.setRow b cs) ob (β l)):Qa P tab N w0 F S β st a w o .dead [(l,ob)]:=by
 refine ⟨undef,_,.inr ⟨hr,rfl⟩,fun st' he=>?_⟩
 cases hd:Nat.beq l.1 (o.dst.getD 999999999) with
 | true=>
  obtain ⟨hf,_⟩:=Q2k (Z6.1 hd) he
  rw [(Z2 hf).1] at hol;cases hol
 | false=>
  have:=Qa4 hd he
  subst this
  refine ⟨S,Jy β l (β l),fun _ h=>h,fun m _=>by by_cases e:m=l;rw [e,Qh];rw [Qn e],?_,trivial⟩
  refine h.setObj (Fr.setRow w b cs) (fun k _ hk=>⟨ob0,hol,by rw [hk];exact hb⟩) (.inl rfl) (.inl rfl) hob (fun b' c=>?_) (fun m=>?_)
  ·rw [hb] at c
   simp only [Option.some.injEq] at c
   subst c
   have:=(h.excl l ob0 hol b hb).2.2
   exact ⟨.inr ⟨⟨ob0,hol⟩,hb⟩,by simpa using this⟩
  ·rw [Jf,hol];rfl
theorem Q6i {α:Type}:∀ (l:List α),Qd (l.map some)=some l
 | []=>rfl
 | x::r=>by simp [Qd,Q6i r]
theorem Q1k {α:Type}:∀ {l:List (Option α)} {r:List α},Qd l=some r→l=r.map some
 | [],r,h=>by have:=sI h;subst this;rfl
 | some x::q,r,h=>by
  obtain ⟨z,hz,h⟩:=bE h
  have:=sI h
  subst this
  rw [Q1k hz];rfl
 | none::q,r,h=>by cases h
theorem Q8.of_row {τ:TypeId→Option Ty} {e:Ty} {xs:List e.den} {cells:List Value} (h:Q1 τ S w e xs cells) {cs:List Value} (a:cs.take cells.length=cells) (c:Nat):Q8 τ S w e (xs.map some++List.replicate c none) cs:=by
 intro i x hi
 have hl:=h.length
 have hix:i<xs.length:=by
  rcases Nat.lt_or_ge i xs.length with d | b
  ·exact d
  ·rw [List.getElem?_append_right (by rw [List.length_map];exact b)] at hi
   rw [List.getElem?_replicate] at hi
   split at hi
   ·exact absurd (sI hi) (by simp)
   ·cases hi
 rw [List.getElem?_append_left (by rw [List.length_map];exact hix),List.getElem?_map] at hi
 have hx:xs.getD i e.dflt=x:=by
  rw [List.getElem?_eq_getElem hix] at hi
  rw [List.getD_eq_getElem?_getD,List.getElem?_eq_getElem hix]
  exact sI (sI hi)
 have hr:=h.elem i hix
 rw [hx] at hr
 have hb:i*e.cells+e.cells≤cells.length:=by
  rw [hl]
  have:=Nat.mul_le_mul_right e.cells (show i+1≤xs.length by omega)
  rw [Nat.add_mul,Nat.one_mul] at this
  exact this
 have e1:(cells.drop (i*e.cells)).take e.cells=(cs.drop (i*e.cells)).take e.cells:=by
  rw [← a,List.drop_take,List.take_take,show min e.cells (cells.length - i*e.cells)=e.cells by omega]
 rw [e1] at hr
 exact hr
theorem Q8.row {τ:TypeId→Option Ty} {e:Ty}:∀ {xs:List e.den} {ys:List (Option e.den)} {cs:List Value} (lo:Nat),Q8 τ S w e ys cs→(∀ i x,xs[i]?=some x→ys[lo+i]?=some (some x)) →
  Q1 τ S w e xs ((cs.drop (lo*e.cells)).take (xs.length*e.cells))
 | [],ys,cs,lo,h,hx=>by simp [Q1]
 | x::r,ys,cs,lo,h,hx=>by
  have h0:=h lo x (by have:=hx 0 x rfl;simpa using this)
  have h1:=Q8.row (xs:=r) (lo+1) h (fun i y hy=>by
   have:=hx (i+1) y (by simpa using hy)
   rw [show lo+(i+1)=lo+1+i by omega] at this
   exact this)
  refine ⟨_,_,?_,h0,h1⟩
  have hl:=h0.length
  rw [List.length_take,List.length_drop] at hl
  rw [List.length_cons,Nat.add_mul,Nat.one_mul,Nat.add_comm (r.length*e.cells),List.take_add,List.drop_drop,Nat.add_mul,Nat.one_mul]
theorem Q8.slice {τ:TypeId→Option Ty} {e:Ty} {ys:List (Option e.den)} {cs:List Value} {lo n:Nat} {xs:List e.den} (h:Q8 τ S w e ys cs) (hx:Qd ((ys.drop lo).take n)=some xs) :
  Q1 τ S w e xs ((cs.drop (lo*e.cells)).take (xs.length*e.cells)):=by
 refine h.row lo (fun i x hi=>?_)
 have e1:=Q1k hx
 have:((ys.drop lo).take n)[i]?=some (some x):=by rw [e1,List.getElem?_map,hi];rfl
 rw [List.getElem?_take] at this
 split at this
 ·rw [List.getElem?_drop] at this;exact this
 ·cases this
theorem Q1i {α:Type} {ys:List (Option α)} {lo n:Nat} {xs:List α} (hx:Qd ((ys.drop lo).take n)=some xs) (h:lo+n≤ys.length):xs.length=n:=by
 have:=congrArg List.length (Q1k hx)
 rw [List.length_take,List.length_drop,List.length_map] at this
 omega
theorem Q8.setOne {τ:TypeId→Option Ty} {e:Ty} {ys:List (Option e.den)} {cs:List Value} (h:Q8 τ S w e ys cs) {i:Nat} {z:e.den} {d:List Value} (hd:Rep τ S w e z d) (hb:i*e.cells+e.cells≤cs.length) :
  Q8 τ S w e (ys.set i (some z)) (cs.take (i*e.cells)++d++cs.drop (i*e.cells+e.cells)):=by
 intro j x hj
 have hl:=hd.length
 have h1:(cs.take (i*e.cells)).length=i*e.cells:=by rw [List.length_take];omega
 rw [List.getElem?_set] at hj
 by_cases a:i=j
 ·subst a
  rw [if_pos rfl] at hj
  split at hj
  ·have:=sI (sI hj)
   subst this
   rw [List.append_assoc,List.drop_append,h1,List.drop_eq_nil_of_le (by omega),Nat.sub_self,List.drop_zero,List.nil_append,List.take_append,List.take_of_length_le (by omega),hl,Nat.sub_self,List.take_zero,List.append_nil]
   exact hd
  ·cases hj
 ·rw [if_neg a] at hj
  have h0:=h j x hj
  have e1:((cs.take (i*e.cells)++d++cs.drop (i*e.cells+e.cells)).drop (j*e.cells)).take e.cells=(cs.drop (j*e.cells)).take e.cells:=by
   rcases Nat.lt_or_ge j i with b | c
   ·have hm:(j+1)*e.cells≤i*e.cells:=Nat.mul_le_mul_right _ b
    rw [Nat.add_mul,Nat.one_mul] at hm
    rw [List.append_assoc,List.drop_append,List.take_append]
    rw [show (e.cells - (List.drop (j*e.cells) (List.take (i*e.cells) cs)).length)=0 by rw [List.length_drop,h1];omega,List.take_zero,List.append_nil,List.drop_take,List.take_take]
    congr 1;omega
   ·have hm:(i+1)*e.cells≤j*e.cells:=Nat.mul_le_mul_right _ (by omega)
    rw [Nat.add_mul,Nat.one_mul] at hm
    rw [List.drop_append,List.length_append,h1,hl,List.drop_eq_nil_of_le (by rw [List.length_append,h1,hl];omega),List.nil_append,List.drop_drop]
    congr 2;omega
  rw [e1]
  exact h0
theorem Qcr (a0:Qc P tab) (h:Rel P tab.ty N w0 F S β st a w) {o:Oper} {T:TypeId} {x y:Operand} (ho:o.op=.store T x y) {c:Bool} {v:SV} {u:Upd}
  (he:Qaf tab (Q0 st.objs) T (Qb st.slots x) (Qb st.slots y)=some (c,v,u)) (hc:c=true):Qa P tab N w0 F S β st a w o v u:=by
 unfold Qaf at he
 simp only [Option.bind_eq_some_iff] at he
 obtain ⟨t,ht,he⟩:=he
 have hT:=a0.ty T t ht
 have hx:=Q4 h x
 have hy:=Q4 h y
 revert he hy
 cases c3:Qb st.slots y<;>try (intro he;cases he;done)
 case cv cc=>
 intro he hy
 have s:=Xm.cells hy
 have h1:=s.oneCell
 revert he hx
 cases hsx:Qb st.slots x<;>try (intro hx he;cases he;done)
 case cv xc=>
  intro hx he
  cases xc with
  | agg vs=>cases he
  | one xl=>
   cases xl<;>try (cases he;done)
   case ptr l off=>
   obtain ⟨b,f,I⟩:=hx
   simp only at he
   cases hol:Q0 st.objs l with
   | none=>rw [hol] at he;cases he
   | some ob=>
    rw [hol] at he
    cases ob with
    | mem _ _ _ _ _=>first | (cases he;done) | (intro he;cases he;done) | (intro _ he;cases he;done) | (exact absurd he (by simp))
    | row eT e xs=>cases he
    | arr eT e xs=>cases he
    | lrow eT vs=>cases he
    | box B vs=>
     have J:(bif Nat.beq (Xt cc).length t.cells&&Nat.ble (off+t.cells) vs.length then some (true,SV.dead,[(l,Ob.box B (Q10 vs off (Xt cc)))]) else none)=some (c,v,u):=he
     cases m:(Nat.beq (Xt cc).length t.cells&&Nat.ble (off+t.cells) vs.length) with
     | false=>rw [m] at J;cases J
     | true=>
      rw [m] at J
      simp only [cond_true,Option.some.injEq,Prod.mk.injEq] at J
      obtain ⟨rfl,rfl,rfl⟩:=J
      simp only [Bool.and_eq_true] at m
      have a5:=Nat.eq_of_beq_eq_true m.1
      have C:=Q2.1 m.2
      obtain ⟨b',T',cs,e1,hh,Q⟩:=h.objs l _ hol
      have b7:=e1
      rw [f] at e1
      simp only [Value.pointer.injEq,Option.some.injEq,Addr.mk.injEq] at e1
      obtain ⟨rfl,_⟩:=e1
      have Z:=Q.length
      simp only [Array.length_toList] at Z
      have M:=s.length
      simp only [Array.length_toList] at M
      have hr:=Q0g ho hT I hh (by omega) (by omega) h1
      refine Q3w h hr hol (by rw [f];rfl) ?_
      refine ⟨b,T',_,f,setRow_heap w b cs _ T' (0,0) hh,?_⟩
      have a7:=Q2q off Q s (by omega)
      simp only [Array.length_toList,M,a5] at a7
      have hk:∀ k,S k→k<w.heap.size→(w.setRow b (cs.toList.take off++(a.eval y).cells.toList++cs.toList.drop (off+t.cells)).toArray).heap[k]?=w.heap[k]?:=fun k hs b3=>
       setRow_other w b k _ (fun e=>(h.excl l _ hol b (by rw [f];rfl)).1 (e▸hs))
      exact a7.frame (fun _ x=>x) (by simp) hk h.sb (fun _ _=>rfl)
 case ap l i off sz=>
  intro hx he
  obtain ⟨b,f,I⟩:=hx
  simp only at he
  cases hol:Q0 st.objs l with
  | none=>rw [hol] at he;cases he
  | some ob=>
   rw [hol] at he
   have hk:∀ (q:Array Value),∀ k,S k→k<w.heap.size→(w.setRow b q).heap[k]?=w.heap[k]?:=fun q k hs b3=>
    setRow_other w b k _ (fun e=>(h.excl l _ hol b f).1 (e▸hs))
   cases ob with
   | mem eT e ys n0 ex=>
    simp only [Option.bind_eq_some_iff] at he
    obtain ⟨_,E,yd,U,z,hz,he⟩:=he
    cases d:(Nat.beq sz e.cells&&Nat.beq off 0) with
    | false=>rw [d] at E;cases E
    | true=>
     simp only [Bool.and_eq_true] at d
     have e1:=Nat.eq_of_beq_eq_true d.1
     have e2:=Nat.eq_of_beq_eq_true d.2
     subst e1;subst e2
     obtain ⟨e3,e4⟩:=Z0 hz
     subst e3
     have e4:yd=z:=e4
     subst e4
     cases p:Q07 cc with
     | false=>rw [p] at he;cases he
     | true=>
      rw [p] at he
      simp only [cond_true] at he
      simp only [Option.some.injEq,Prod.mk.injEq] at he
      obtain ⟨rfl,rfl,rfl⟩:=he
      simp only [Bool.and_eq_true,decide_eq_true_eq] at hc
      obtain ⟨⟨⟨b8,b9⟩,a3⟩,b0⟩:=hc
      have a8:=Q4e t.dflt b0
      generalize Qg8 t.dflt ((List.set ys i.toNat (some yd)).take n0)=xs at *
      have a3:=Q2.1 a3
      have hv:=(Q1f h U hy p).cellsRep
      obtain ⟨O,A,c0,G,k1,k2,k3,k4,k5⟩:=h.objs l _ hol
      have j:=hv.length
      simp only [Array.length_toList] at j
      rcases k5 with ⟨_,h0⟩ | ⟨g,H,rfl,hh,W,hm⟩
      ·omega
      ·have b2:g=b:=by rw [G] at f;exact sI f
       subst b2
       have c2:i.toNat<n0:=by omega
       have a2:i.toNat*t.cells+t.cells≤c0*t.cells:=by
        have:=Nat.mul_le_mul_right t.cells (show i.toNat+1≤c0 by omega)
        rwa [Nat.add_mul,Nat.one_mul] at this
       have hr:=Q0g ho hT I hh j (by rw [W];omega) h1
       rw [Nat.add_zero] at hr
       have b6:xs.length=n0:=Q1i (lo:=0) (by rw [List.drop_zero];exact a8) (by rw [List.length_set];omega)
       have b4:=hm.setOne (i:=i.toNat) hv (by simp only [Array.length_toList];omega)
       have r:=b4.slice (lo:=0) (n:=n0) (xs:=xs) (by rw [List.drop_zero];exact a8)
       rw [Nat.zero_mul,List.drop_zero] at r
       refine Q3w h hr hol (by rw [G];rfl) ⟨O,_,⟨r.length,.inr ⟨g,c0,_,G.trans (by rw [b6]),Nat.zero_le _,setRow_heap w g H _ eT (0,0) hh,by omega,k3,?_,rfl⟩⟩,r.frame (fun _ x=>x) (by simp) (hk _)⟩
       simp only [List.size_toArray,List.length_append,List.length_take,List.length_drop,Array.length_toList];omega
   | box B vs=>cases he
   | lrow eT vs=>cases he
   | row eT e xs=>
    simp only [Option.bind_eq_some_iff] at he
    obtain ⟨_,E,yd,U,z,hz,he⟩:=he
    cases d:Nat.beq sz e.cells with
    | false=>rw [d] at E;cases E
    | true=>
     have:=Nat.eq_of_beq_eq_true d
     subst this
     cases p:Q07 cc with
     | false=>rw [p] at he;cases he
     | true=>
      rw [p] at he
      simp only [cond_true,Option.some.injEq,Prod.mk.injEq] at he
      obtain ⟨rfl,rfl,rfl⟩:=he
      simp only [Bool.and_eq_true,decide_eq_true_eq] at hc
      have hi:i.toNat<xs.length:=by omega
      have hv:=(Q1f h U hy p).cellsRep
      obtain ⟨O,cells,a6,r⟩:=h.objs l _ hol
      obtain ⟨cap,H,G,hh,hn,b1,W,b5⟩:=Q5q a6 f
      have K:=r.elem i.toNat hi
      obtain ⟨C,R⟩:=Q9p hz K hv
      rw [K.length] at C
      have a2:=Q2f hi C
      have a4:xs.length*e.cells≤cap*e.cells:=Nat.mul_le_mul_right _ hn
      have j:=hv.length
      simp only [Array.length_toList] at j
      have hr:=Q0g ho hT I hh j (by omega) h1
      have D:=r.set i.toNat z _ hi R
      have Y:cells.length=xs.length*e.cells:=r.length
      have X:i.toNat*e.cells+e.cells≤cells.length:=by
       rw [Y];have:=Nat.mul_le_mul_right e.cells (show i.toNat+1≤xs.length from hi);rwa [Nat.add_mul,Nat.one_mul] at this
      rw [Qie cells _ _ _ _ _ C X (by simpa using j)] at D
      refine Q3w h hr hol f ⟨O,_,⟨?_,.inr ⟨b,cap,_,G.trans (by rw [List.length_set]),Nat.zero_le _,setRow_heap w b H _ eT (0,0) hh,by rw [List.length_set];exact hn,b1,?_,?_⟩⟩,D.frame (fun _ x=>x) (by simp) (hk _)⟩
      ·simp only [List.length_append,List.length_take,List.length_drop,List.length_set,Array.length_toList];omega
      ·simp only [List.size_toArray,List.length_append,List.length_take,List.length_drop,Array.length_toList];omega
      ·rw [List.length_set,← b5]
       have e0:H.toList.length=H.size:=by simp
       exact Q7y H.toList _ _ _ _ (by simpa using j) (by omega) (by rw [e0,W];exact a4)
   | arr eT e xs=>
    simp only [Option.bind_eq_some_iff] at he
    obtain ⟨_,E,yd,U,z,hz,he⟩:=he
    cases d:Nat.beq sz e.cells with
    | false=>rw [d] at E;cases E
    | true=>
     have:=Nat.eq_of_beq_eq_true d
     subst this
     cases p:Q07 cc with
     | false=>rw [p] at he;cases he
     | true=>
      rw [p] at he
      simp only [cond_true,Option.some.injEq,Prod.mk.injEq] at he
      obtain ⟨rfl,rfl,rfl⟩:=he
      simp only [Bool.and_eq_true,decide_eq_true_eq] at hc
      have hi:i.toNat<xs.length:=by omega
      have hv:=(Q1f h U hy p).cellsRep
      obtain ⟨b',T',cs,fr,e1,hh,L,r⟩:=h.objs l _ hol
      have a1:=f
      have a9:b'=b:=by
       rcases e1 with e1 | ⟨_,e1,_⟩<;>(rw [e1] at f;exact sI f)
      subst a9
      have V:=r.length
      have Y:=V
      rw [List.length_take] at Y
      have c1:cs.toList.length=cs.size:=by simp
      have K:=r.elem i.toNat hi
      obtain ⟨C,R⟩:=Q9p hz K hv
      rw [K.length] at C
      have a2:=Q2f hi C
      have j:=hv.length
      simp only [Array.length_toList] at j
      have hr:=Q5l ho hT I hh L j (by omega) h1
      have D:=r.set i.toNat z _ hi R
      have X:i.toNat*e.cells+e.cells≤(cs.toList.take (xs.length*e.cells)).length:=by
       rw [V];have:=Nat.mul_le_mul_right e.cells (show i.toNat+1≤xs.length from hi);rwa [Nat.add_mul,Nat.one_mul] at this
      rw [Qie (cs.toList.take (xs.length*e.cells)) _ _ _ _ _ C X (by simpa using j)] at D
      refine Q3w h hr hol a1 ⟨b',T',_,fr,by rw [List.length_set];exact e1,setRow_heap w b' cs _ T' fr hh,?_,?_⟩
      ·rcases L with L | L
       ·exact .inl L
       ·right
        simp only [List.size_toArray,List.length_append,List.length_take,List.length_drop,Array.length_toList];omega
      ·rw [List.length_set]
       have:=Q7y cs.toList (a.eval y).cells.toList (i.toNat*e.cells+off) t.cells (xs.length*e.cells) (by simpa using j) (by omega) (by omega)
       rw [this]
       exact D.frame (fun _ x=>x) (by simp) (hk _)
theorem Q6a {b o:Nat} {cs:List Value} (h:Ja w b o cs) (off n:Nat):Ja w b (o+off) ((cs.drop off).take n):=by
 intro j hj
 rw [List.length_take,List.length_drop] at hj
 have:=h (off+j) (by omega)
 rw [Nat.add_assoc,this,List.getD_eq_getElem?_getD,List.getD_eq_getElem?_getD,List.getElem?_take,if_pos (by omega),List.getElem?_drop]
theorem Q8i (a:Qc P tab) {T:TypeId} {j:Nat} {f:TypeId × Nat} (h:Q43 tab T j=some f):∃ gs g,P.underlying T=some (.struct gs)∧gs[j]?=some g∧g.type=f.1∧g.offset=f.2:=by
 unfold Q43 at h
 split at h
 case h_2=>cases h
 case h_1 fs hfs=>
 obtain ⟨gs,hu,hm⟩:=a.td T _ hfs
 subst hm
 rw [List.getElem?_map] at h
 cases hg:gs.toList[j]? with
 | none=>rw [hg] at h;cases h
 | some g=>
  rw [hg] at h
  simp only [Option.map_some,Option.some.injEq] at h
  subst h
  exact ⟨gs,g,hu,by simpa using hg,rfl,rfl⟩
theorem Q06 {o:Oper} {T:TypeId} {x:Operand} {j:Nat} (ho:o.op=.fieldAddr T x j) {gs:Array Field} {g:Field} {t:Ty} (hu:P.underlying T=some (.struct gs)) (hg:gs[j]?=some g)
  (hT:Q5v P g.type t) (hn:t.cells≠0) {b off:Nat} (hx:a.eval x=.pointer (some ⟨b,off,none⟩)) :
  (execOp a.eval o).run P w=.ok (.value (.pointer (some ⟨b,off+g.offset,none⟩))) w:=by
 unfold execOp
 simp only [ho,Instr.fieldAt,hx]
 simp [run_underlying hu,hg,Instr.sureAddr,fieldPlace,Z8 hT,hn,Zo]
theorem Q6u (d:Qc P tab) (h:Rel P tab.ty N w0 F S β st a w) {o:Oper} {T:TypeId} {x:Operand} {j:Nat} (ho:o.op=.fieldAddr T x j) {c:Bool} {v:SV} {u:Upd}
  (he:Q3n tab T j (Qb st.slots x)=some (c,v,u)):Qa P tab N w0 F S β st a w o v u:=by
 unfold Q3n at he
 simp only [Option.bind_eq_some_iff] at he
 obtain ⟨f,hf,t,ht,he⟩:=he
 obtain ⟨gs,g,hu,hg,h1,h2⟩:=Q8i d hf
 have hT:=d.ty _ t ht
 rw [← h1] at hT
 cases hn:Nat.beq t.cells 0 with
 | true=>rw [hn] at he;cases he
 | false=>
  rw [hn] at he
  simp only [cond_false] at he
  have hn:=Z1.1 hn
  have hx:=Q4 h x
  revert he hx
  cases hsx:Qb st.slots x<;>try (intro he;cases he;done)
  case cv cc=>
   cases cc with
   | agg vs=>intro he;cases he
   | one y=>
    cases y<;>try (intro he;cases he;done)
    case ptr l off=>
    intro he hx
    simp only [Option.some.injEq,Prod.mk.injEq] at he
    obtain ⟨rfl,rfl,rfl⟩:=he
    obtain ⟨b,e,k⟩:=hx
    rw [← h2]
    exact Qa.plain h (Q06 ho hu hg hT hn k) ⟨b,e,rfl⟩
  case ep t' y=>
   intro he hx
   simp only [Option.bind_eq_some_iff,Option.some.injEq,Prod.mk.injEq] at he
   obtain ⟨z,hz,rfl,rfl,rfl⟩:=he
   obtain ⟨b,off,cs,hp,h3,h4,n,hr⟩:=hx
   obtain ⟨p,m⟩:=Q42 hz hr
   refine Qa.plain h (Q06 ho hu hg hT hn hp) ⟨b,off+g.offset,_,rfl,h3,h4,?_,m⟩
   rw [h2]
   exact Q6a n f.2 t.cells
  case ap l i off sz=>
   intro he hx
   simp only [Option.some.injEq,Prod.mk.injEq] at he
   obtain ⟨rfl,rfl,rfl⟩:=he
   obtain ⟨b,e,k⟩:=hx
   refine Qa.plain h (Q06 ho hu hg hT hn k) ⟨b,e,?_⟩
   rw [h2,Nat.add_assoc]
theorem Qca (d:Qc P tab) (h:Rel P tab.ty N w0 F S β st a w) {o:Oper} {T:TypeId} {x:Operand} {j:Nat} (ho:o.op=.field T x j) {c:Bool} {v:SV} {u:Upd}
  (he:Qad tab T j (Qb st.slots x)=some (c,v,u)):Qa P tab N w0 F S β st a w o v u:=by
 unfold Qad at he
 simp only [Option.bind_eq_some_iff] at he
 obtain ⟨f,hf,t,ht,he⟩:=he
 obtain ⟨gs,g,hu,hg,h1,h2⟩:=Q8i d hf
 have hT:=d.ty _ t ht
 rw [← h1] at hT
 have hx:=Q4 h x
 revert he hx
 cases hsx:Qb st.slots x<;>try (intro he;cases he;done)
 case cv cc=>
 cases cc with
 | one y=>intro he;cases he
 | agg vs=>
  intro he hx
  obtain ⟨cs,e,b⟩:=hx
  have m:=b.length
  cases ha:t.isAgg with
  | true=>
   simp only [ha,cond_true] at he
   cases i:Nat.ble (f.2+t.cells) vs.length with
   | false=>rw [i] at he;cases he
   | true=>
    rw [i] at he
    simp only [cond_true,Option.some.injEq,Prod.mk.injEq] at he
    obtain ⟨rfl,rfl,rfl⟩:=he
    refine Qa.plain h (x:=.agg ((cs.drop f.2).take t.cells).toArray) ?_ ⟨_,rfl,(b.drop f.2).take t.cells⟩
    unfold execOp
    simp only [ho,Instr.field,e]
    simp [run_underlying hu,hg,asAgg,part,Q0u hT,ha,Z8 hT,h2,List.extract_eq_take_drop]
  | false=>
   simp only [ha,cond_false,Option.bind_eq_some_iff,Option.some.injEq,Prod.mk.injEq] at he
   obtain ⟨lv,l,rfl,rfl,rfl⟩:=he
   obtain ⟨cv,k,hr⟩:=b.get f.2 l
   refine Qa.plain h (x:=cv) ?_ hr
   unfold execOp
   simp only [ho,Instr.field,e]
   simp [run_underlying hu,hg,asAgg,part,Q0u hT,ha,h2,k]
end
end Go.PE
