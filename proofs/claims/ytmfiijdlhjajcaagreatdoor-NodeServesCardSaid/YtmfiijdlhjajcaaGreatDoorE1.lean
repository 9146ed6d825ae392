/-
  The evaluator PE and its soundness, part 1.
  Conditions: none.
-/
import Derived.WalkKit
import Derived.Below
import Derived.Laws.OwnMore
import Derived.Laws.MakeOwn
import Derived.KernelRfl
import Derived.Laws.Strings
import Derived.WalkLawsBesides
import Derived.Laws.StructEq
set_option linter.unusedVariables false
namespace Go.PE
inductive Ty where
 | int (k:IntKind)
 | bool
 | str
 | ifc
 | sl (eT:TypeId) (e:Ty)
 | pair (a b:Ty)
 | unit
inductive AT where
 | int (k:IntKind) (n:Int)
 | bool (b:Bool)
 | str (s:ByteArray)
 deriving DecidableEq
inductive IV where
 | nil
 | mk (T:TypeId) (cs:List AT)
 deriving DecidableEq
def Ty.den:Ty→Type
 | .int _=>Int
 | .bool=>Bool
 | .str=>ByteArray
 | .ifc=>IV
 | .sl _ e=>List e.den
 | .pair a b=>a.den × b.den
 | .unit=>Unit
def Ty.cells:Ty→Nat
 | .pair a b=>a.cells+b.cells
 | .unit=>0
 | _=>1
def Ty.dflt:(t:Ty)→t.den
 | .int _=>(0:Int)
 | .bool=>false
 | .str=>(⟨#[]⟩:ByteArray)
 | .ifc=>IV.nil
 | .sl _ _=>[]
 | .pair a b=>(a.dflt,b.dflt)
 | .unit=>()
def Ty.isAgg:Ty→Bool
 | .pair _ _=>true
 | .unit=>true
 | _=>false
def Qq:IntKind→Nat
 | .i8=>0 | .i16=>1 | .i32=>2 | .i64=>3 | .u8=>4 | .u16=>5 | .u32=>6 | .u64=>7
theorem Jz {a b:IntKind} (h:Qq a=Qq b):a=b:=by
 cases a<;>cases b<;>first | rfl | (exact absurd h (by decide))
def Ty.beq:Ty→Ty→Bool
 | .int k,.int k'=>Nat.beq (Qq k) (Qq k')
 | .bool,.bool=>true
 | .str,.str=>true
 | .ifc,.ifc=>true
 | .sl n e,.sl n' e'=>Nat.beq n n'&&Ty.beq e e'
 | .pair a b,.pair a' b'=>Ty.beq a a'&&Ty.beq b b'
 | .unit,.unit=>true
 | _,_=>false
theorem Ty.eq_of_beq:∀ {a b:Ty},Ty.beq a b=true→a=b:=by
 intro a
 induction a with
 | int k=>
  intro b h
  cases b with
  | int k'=>simp only [Ty.beq] at h;rw [Jz (Nat.eq_of_beq_eq_true h)]
  | _=>cases h
 | bool=>intro b h;cases b with | bool=>rfl | _=>cases h
 | str=>intro b h;cases b with | str=>rfl | _=>cases h
 | ifc=>intro b h;cases b with | ifc=>rfl | _=>cases h
 | sl n e ih=>
  intro b h
  cases b with
  | sl n' e'=>
   simp only [Ty.beq,Bool.and_eq_true] at h
   rw [Nat.eq_of_beq_eq_true h.1,ih h.2]
  | _=>cases h
 | pair a b iha ihb=>
  intro c h
  cases c with
  | pair a' b'=>
   simp only [Ty.beq,Bool.and_eq_true] at h
   rw [iha h.1,ihb h.2]
  | _=>cases h
 | unit=>intro b h;cases b with | unit=>rfl | _=>cases h
theorem Ty.beq_refl (a:Ty):Ty.beq a a=true:=by
 induction a<;>simp_all [Ty.beq]
def Zi (t t':Ty) (x:t.den):Option t'.den:=
 match h:Ty.beq t t' with
 | true=>some (Ty.eq_of_beq h▸x)
 | false=>none
theorem Z1 {t t':Ty} {x:t.den} {y:t'.den} (h:Zi t t' x=some y):∃ e:t=t',e▸x=y:=by
 unfold Zi at h
 split at h
 ·rename_i hb
  exact ⟨Ty.eq_of_beq hb,by simpa using h⟩
 ·cases h
theorem Qii (t:Ty) (x:t.den):Zi t t x=some x:=by
 unfold Zi
 split
 ·rfl
 ·rename_i h;rw [Ty.beq_refl] at h;cases h
def AT.val:AT→Value
 | .int k n=>.int k n
 | .bool b=>.bool b
 | .str s=>.string s
def Q47:(t:Ty)→List AT→Option (t.den × List AT)
 | .int k,.int k' n::r=>if Nat.beq (Qq k) (Qq k') then some (n,r) else none
 | .bool,.bool b::r=>some (b,r)
 | .str,.str s::r=>some (s,r)
 | .pair a b,l=>(Q47 a l).bind fun x=>(Q47 b x.2).bind fun y=>some ((x.1,y.1),y.2)
 | .unit,l=>some ((),l)
 | _,_=>none
def IV.is:IV→TypeId→Bool
 | .nil,_=>false
 | .mk T _,A=>Nat.beq T A
def IV.isNil:IV→Bool
 | .nil=>true
 | .mk _ _=>false
def IV.val:IV→(t:Ty)→t.den
 | .nil,t=>t.dflt
 | .mk _ cs,t=>match Q47 t cs with
  | some (x,_)=>x
  | none=>t.dflt
def IV.value:IV→Value
 | .nil=>.nilIface
 | .mk T cs=>.iface T (.agg (cs.map AT.val).toArray)
section
variable (τ:TypeId→Option Ty)
def IV.ok:IV→Prop
 | .nil=>True
 | .mk T cs=>∀ t,τ T=some t→∃ x,Q47 t cs=some (x,[])
def Xz (w:World) (b o:Nat) (cs:List Value):Prop:=∀ j,j<cs.length→w.cell? ⟨b,o+j,none⟩=some (cs.getD j undef)
def Rep (S:Nat→Prop) (w:World):(t:Ty)→t.den→List Value→Prop
 | .int k,x,cs=>cs=[.int k x]
 | .bool,x,cs=>cs=[.bool x]
 | .str,x,cs=>cs=[.string x]
 | .ifc,x,cs=>cs=[IV.value x]∧IV.ok τ x
 | .sl _ e,(xs:List e.den),cs=>∃ A c,cs=[.slice A xs.length c]∧xs.length≤c∧c≤maxLen ∧
   (0<xs.length→∃ b o,A=some ⟨b,o,none⟩∧S b∧b<w.heap.size ∧
    ∀ i,i<xs.length→∃ ce,ce.length=e.cells∧Xz w b (o+i*e.cells) ce∧Rep S w e (List.getD xs i e.dflt) ce)
 | .pair a b,x,cs=>∃ c1 c2,cs=c1++c2∧Rep S w a x.1 c1∧Rep S w b x.2 c2
 | .unit,_,cs=>cs=[]
end
section
variable {τ:TypeId→Option Ty}
theorem Rep.length {S:Nat→Prop} {w:World}:∀ {t:Ty} {x:t.den} {cs:List Value},Rep τ S w t x cs→cs.length=t.cells:=by
 intro t
 induction t with
 | int k=>intro x cs h;simp only [Rep] at h;rw [h];rfl
 | bool=>intro x cs h;simp only [Rep] at h;rw [h];rfl
 | str=>intro x cs h;simp only [Rep] at h;rw [h];rfl
 | ifc=>intro x cs h;simp only [Rep] at h;rw [h.1];rfl
 | sl n e ih=>intro x cs h;obtain ⟨A,c,h,_⟩:=h;rw [h];rfl
 | pair a b iha ihb=>intro x cs h;obtain ⟨c1,c2,h,h1,h2⟩:=h;rw [h,List.length_append,iha h1,ihb h2];rfl
 | unit=>intro x cs h;simp only [Rep] at h;rw [h];rfl
theorem Xz.of_block {w w':World} {b o:Nat} {cs:List Value} (h:Xz w b o cs) (hb:w'.heap[b]?=w.heap[b]?):Xz w' b o cs:=
 fun j hj=>(World.cell?_of_block (w:=w) (a:=⟨b,o+j,none⟩) hb).trans (h j hj)
theorem Rep.frame {S S':Nat→Prop} {w w':World} (hS:∀ k,S k→S' k) (hsz:w.heap.size≤w'.heap.size)
  (hk:∀ k,S k→k<w.heap.size→w'.heap[k]?=w.heap[k]?) :
  ∀ {t:Ty} {x:t.den} {cs:List Value},Rep τ S w t x cs→Rep τ S' w' t x cs:=by
 intro t
 induction t with
 | int k=>intro x cs h;exact h
 | bool=>intro x cs h;exact h
 | str=>intro x cs h;exact h
 | ifc=>intro x cs h;exact h
 | sl n e ih=>
  intro x cs h
  obtain ⟨A,c,h,hc,hm,hel⟩:=h
  refine ⟨A,c,h,hc,hm,fun hp=>?_⟩
  obtain ⟨b,o,hA,hSb,hb,hi⟩:=hel hp
  refine ⟨b,o,hA,hS b hSb,Nat.lt_of_lt_of_le hb hsz,fun i hi'=>?_⟩
  obtain ⟨ce,hl,hca,hr⟩:=hi i hi'
  exact ⟨ce,hl,hca.of_block (hk b hSb hb),ih hr⟩
 | pair a b iha ihb=>intro x cs h;obtain ⟨c1,c2,h,h1,h2⟩:=h;exact ⟨c1,c2,h,iha h1,ihb h2⟩
 | unit=>intro x cs h;exact h
theorem Rep.mono {S S':Nat→Prop} {w:World} {t:Ty} {x:t.den} {cs:List Value} (h:Rep τ S w t x cs) (hS:∀ k,S k→S' k):Rep τ S' w t x cs:=
 h.frame hS (Nat.le_refl _) (fun _ _ _=>rfl)
def Ty.flat:Ty→Bool
 | .sl _ _=>false
 | .pair a b=>a.flat&&b.flat
 | _=>true
theorem Rep.flat {S S':Nat→Prop} {w w':World}:∀ {t:Ty} {x:t.den} {cs:List Value},t.flat=true→Rep τ S w t x cs→Rep τ S' w' t x cs:=by
 intro t
 induction t with
 | int k=>intro x cs _ h;exact h
 | bool=>intro x cs _ h;exact h
 | str=>intro x cs _ h;exact h
 | ifc=>intro x cs _ h;exact h
 | sl n e ih=>intro x cs hf;simp [Ty.flat] at hf
 | pair a b iha ihb=>
  intro x cs hf h
  simp only [Ty.flat,Bool.and_eq_true] at hf
  obtain ⟨c1,c2,h,h1,h2⟩:=h
  exact ⟨c1,c2,h,iha hf.1 h1,ihb hf.2 h2⟩
 | unit=>intro x cs _ h;exact h
theorem Rep.oneCell {S:Nat→Prop} {w:World}:∀ {t:Ty} {x:t.den} {cs:List Value},Rep τ S w t x cs→∀ u∈cs,u.oneCell'=true:=by
 intro t
 induction t with
 | int k=>intro x cs h u hu;simp only [Rep] at h;subst h;simp at hu;subst hu;rfl
 | bool=>intro x cs h u hu;simp only [Rep] at h;subst h;simp at hu;subst hu;rfl
 | str=>intro x cs h u hu;simp only [Rep] at h;subst h;simp at hu;subst hu;rfl
 | ifc=>intro x cs h u hu;obtain ⟨h,_⟩:=h;subst h;simp at hu;subst hu;cases x<;>rfl
 | sl n e ih=>intro x cs h u hu;obtain ⟨A,c,h,_⟩:=h;subst h;simp at hu;subst hu;rfl
 | pair a b iha ihb=>
  intro x cs h u hu
  obtain ⟨c1,c2,h,h1,h2⟩:=h
  subst h
  rcases List.mem_append.1 hu with hu | hu
  ·exact iha h1 u hu
  ·exact ihb h2 u hu
 | unit=>intro x cs h u hu;simp only [Rep] at h;subst h;simp at hu
end
end Go.PE
set_option linter.unusedVariables false
namespace Go.PE
abbrev Lab:=Nat × Nat
def Zg:List Ty→Type
 | []=>Unit
 | t::r=>t.den × Zg r
inductive LV where
 | pure (t:Ty) (x:t.den)
 | nil
 | lit (b:Bool)
 | ref (l:Lab)
 | ptr (l:Lab) (off:Nat)
 | gfn (f:FuncId)
 | clo (ps rs:List Ty) (g:Zg ps→Option (Zg rs))
 | nb (ne:Bool)
inductive CV where
 | one (v:LV)
 | agg (vs:List LV)
inductive SV where
 | dead
 | skip
 | cv (c:CV)
 | tup (cs:List CV)
 | ep (t:Ty) (x:t.den)
 | ap (l:Lab) (i:Int) (off sz:Nat)
 | win (l:Lab) (lo n sz:Nat)
 | tupe (l:Lab) (i:Int) (sz:Nat)
 | tupn (v:IV)
inductive Ob where
 | row (eT:TypeId) (e:Ty) (xs:List e.den)
 | box (T:TypeId) (vs:List LV)
 | arr (eT:TypeId) (e:Ty) (xs:List e.den)
 | lrow (eT:TypeId) (vs:List LV)
 | mem (eT:TypeId) (e:Ty) (ys:List (Option e.den)) (n0:Nat) (ex:Bool)
structure St where
 slots:List (Nat × SV)
 objs:List (Lab × Ob)
def Q9:List (Nat × SV)→Nat→SV
 | [],_=>.dead
 | (u,v)::r,t=>bif Nat.beq u t then v else Q9 r t
def Xl (a b:Lab):Bool:=Nat.beq a.1 b.1&&Nat.beq a.2 b.2
def Q0:List (Lab × Ob)→Lab→Option Ob
 | [],_=>none
 | (m,b)::r,l=>bif Xl m l then some b else Q0 r l
def Q43:List (Lab × Ob)→Lab→Ob→List (Lab × Ob)
 | [],_,_=>[]
 | (m,b)::r,l,x=>bif Xl m l then (m,x)::r else (m,b)::Q43 r l x
def Qk2 (o:List (Lab × Ob)) (l:Lab) (x:Ob):List (Lab × Ob):=
 match Q0 o l with
 | some _=>Q43 o l x
 | none=>(l,x)::o
def Jr:List (Lab × Ob)→Lab→List (Lab × Ob)
 | [],_=>[]
 | (m,b)::r,l=>bif Xl m l then Jr r l else (m,b)::Jr r l
inductive TD where
 | int (k:IntKind)
 | bool
 | str
 | ifc
 | slc (e:TypeId)
 | stc (fs:List (TypeId × Nat))
 | ptr (e:TypeId)
 | arr (n:Nat) (e:TypeId)
 | fnc
 | ovl (f:FuncId)
 | mth (T:TypeId) (name:String) (f:FuncId)
 | elt (f:FuncId) (W:TypeId) (k:IntKind) (c:Int) (sz:Nat)
abbrev Tab:=List (Nat × TD × Option Ty)
def Q4l:Tab→Nat→Option (TD × Option Ty)
 | [],_=>none
 | (u,v)::r,t=>bif Nat.beq u t then some v else Q4l r t
def Tab.ty (τ:Tab) (T:TypeId):Option Ty:=(Q4l τ T).bind (·.2)
def Tab.td (τ:Tab) (T:TypeId):Option TD:=(Q4l τ T).map (·.1)
def lvs:(t:Ty)→t.den→List LV
 | .pair a b,x=>lvs a x.1++lvs b x.2
 | .unit,_=>[]
 | .int k,x=>[.pure (.int k) x]
 | .bool,x=>[.pure .bool x]
 | .str,x=>[.pure .str x]
 | .ifc,x=>[.pure .ifc x]
 | .sl eT e,x=>[.pure (.sl eT e) x]
def Qay (t:Ty) (x:t.den):CV:=bif t.isAgg then .agg (lvs t x) else .one (.pure t x)
def Jj (o:Lab→Option Ob) (t:Ty):LV→Option t.den
 | .pure t' x=>Zi t' t x
 | .nil=>match t with
  | .sl _ _=>some []
  | _=>none
 | .lit b=>Zi .bool t b
 | .ref l=>match o l with
  | some (.row eT e xs)=>Zi (.sl eT e) t xs
  | some (.arr eT e xs)=>Zi (.sl eT e) t xs
  | _=>none
 | _=>none
def Q1s (o:Lab→Option Ob):(t:Ty)→List LV→Option (t.den × List LV)
 | .pair a b,l=>(Q1s o a l).bind fun x=>(Q1s o b x.2).bind fun y=>some ((x.1,y.1),y.2)
 | .unit,l=>some ((),l)
 | .int k,v::r=>(Jj o (.int k) v).bind fun x=>some (x,r)
 | .bool,v::r=>(Jj o .bool v).bind fun x=>some (x,r)
 | .str,v::r=>(Jj o .str v).bind fun x=>some (x,r)
 | .ifc,v::r=>(Jj o .ifc v).bind fun x=>some (x,r)
 | .sl eT e,v::r=>(Jj o (.sl eT e) v).bind fun x=>some (x,r)
 | _,[]=>none
def Q1f (o:Lab→Option Ob) (t:Ty):CV→Option t.den
 | .one v=>bif t.isAgg then none else Jj o t v
 | .agg vs=>bif t.isAgg then (match Q1s o t vs with | some (x,[])=>some x | _=>none) else none
def Q68:(e:Ty)→e.den→Nat→(t:Ty)→Option t.den
 | .pair a b,x,off,t=>
  match (bif Nat.beq off 0 then Zi (.pair a b) t x else none) with
  | some y=>some y
  | none=>bif Nat.blt off a.cells then Q68 a x.1 off t else Q68 b x.2 (off - a.cells) t
 | e,x,off,t=>bif Nat.beq off 0 then Zi e t x else none
def Q9i:(e:Ty)→e.den→Nat→(t:Ty)→t.den→Option e.den
 | .pair a b,x,off,t,y=>
  match (bif Nat.beq off 0 then Zi t (.pair a b) y else none) with
  | some z=>some z
  | none=>bif Nat.blt off a.cells then (Q9i a x.1 off t y).bind fun z=>some (z,x.2)
   else (Q9i b x.2 (off - a.cells) t y).bind fun z=>some (x.1,z)
 | e,x,off,t,y=>bif Nat.beq off 0 then Zi t e y else none
def Qjn:Ty→LV
 | .sl _ _=>.nil
 | .bool=>.lit false
 | t=>.pure t t.dflt
def Q0i:Ty→List LV
 | .pair a b=>Q0i a++Q0i b
 | .unit=>[]
 | .sl _ _=>[.nil]
 | .bool=>[.lit false]
 | .int k=>[.pure (.int k) (0:Int)]
 | .str=>[.pure .str (⟨#[]⟩:ByteArray)]
 | .ifc=>[.pure .ifc IV.nil]
def Q3w:Value→Option LV
 | .int k n=>some (.pure (.int k) n)
 | .bool b=>some (.lit b)
 | .string s=>some (.pure .str s)
 | .slice none 0 0=>some .nil
 | .nilIface=>some (.pure .ifc IV.nil)
 | _=>none
def Qaq (v:Value):SV:=
 match Q3w v with
 | some l=>.cv (.one l)
 | none=>.dead
def Qb (s:List (Nat × SV)):Operand→SV
 | .tmp t=>Q9 s t
 | .const v=>Qaq v
 | .func f=>.cv (.one (.gfn f))
 | .global _=>.dead
def Jt:LV→Option Bool
 | .lit b=>some b
 | .pure .bool x=>some x
 | _=>none
def Xg:LV→Option (IntKind × Int)
 | .pure (.int k) n=>some (k,n)
 | _=>none
def Q2w:LV→Option ByteArray
 | .pure .str s=>some s
 | _=>none
def Qdl (op:BinOp) (k:IntKind) (a b:Int):Option (Bool × LV):=
 match op with
 | .add=>some (true,.pure (.int k) (k.wrap (a+b)))
 | .sub=>some (true,.pure (.int k) (k.wrap (a - b)))
 | .mul=>some (true,.pure (.int k) (k.wrap (a*b)))
 | .quo=>some (!(b==0),.pure (.int k) (k.wrap (a.tdiv b)))
 | .rem=>some (!(b==0),.pure (.int k) (a.tmod b))
 | .and=>some (true,.pure (.int k) (k.wrap ((BitVec.ofInt k.bits a &&& BitVec.ofInt k.bits b).toNat)))
 | .or=>some (true,.pure (.int k) (k.wrap ((BitVec.ofInt k.bits a ||| BitVec.ofInt k.bits b).toNat)))
 | .xor=>some (true,.pure (.int k) (k.wrap ((BitVec.ofInt k.bits a ^^^ BitVec.ofInt k.bits b).toNat)))
 | .andNot=>some (true,.pure (.int k) (k.wrap ((BitVec.ofInt k.bits a &&& ~~~BitVec.ofInt k.bits b).toNat)))
 | .eql=>some (true,.pure .bool (a==b))
 | .neq=>some (true,.pure .bool (a != b))
 | .lss=>some (true,.pure .bool (decide (a<b)))
 | .leq=>some (true,.pure .bool (decide (a≤b)))
 | .gtr=>some (true,.pure .bool (decide (a>b)))
 | .geq=>some (true,.pure .bool (decide (a ≥ b)))
 | _=>none
def Qez (op:BinOp) (k:IntKind) (a b:Int):Option (Bool × LV):=
 match op with
 | .shl=>some (decide (0≤b),.pure (.int k) (k.wrap (a*2 ^ (min b.toNat k.bits))))
 | .shr=>some (decide (0≤b),.pure (.int k) (a.fdiv (2 ^ (min b.toNat k.bits))))
 | _=>none
def Qeq (a b:ByteArray):Bool:=a.data.toList==b.data.toList
theorem Q98 (a b:ByteArray):(a.toList==b.toList)=Qeq a b:=by rw [ByteArray.toList_eq,ByteArray.toList_eq];rfl
def Qdo (op:BinOp) (a b:ByteArray):Option (Bool × LV):=
 match op with
 | .add=>some (decide (a.size+b.size≤9223372036854775807),.pure .str (a++b))
 | .eql=>some (true,.pure .bool (Qeq a b))
 | .neq=>some (true,.pure .bool (!(Qeq a b)))
 | _=>none
def Qa8 (op:BinOp) (a b:Bool):Option (Bool × LV):=
 match op with
 | .eql=>some (true,.pure .bool (a==b))
 | .neq=>some (true,.pure .bool (!(a==b)))
 | _=>none
def Q9a (op:BinOp) (x y:LV):Option (Bool × LV):=
 match Xg x,Xg y with
 | some (k,a),some (k',b)=>
  match op with
  | .shl=>Qez .shl k a b
  | .shr=>Qez .shr k a b
  | op=>bif Nat.beq (Qq k) (Qq k') then Qdl op k a b else none
 | _,_=>
  match Q2w x,Q2w y with
  | some a,some b=>Qdo op a b
  | _,_=>
   match Jt x,Jt y with
   | some a,some b=>Qa8 op a b
   | _,_=>none
def Q1t (τ:Tab):Nat→List (TypeId × Nat)→Bool
 | _,[]=>true
 | i,f::r=>Nat.beq f.2 i&&(match τ.td f.1,τ.ty f.1 with | some (.int _),some (.int _)=>true | some .str,some .str=>true | some .bool,some .bool=>true | _,_=>false)&&Q1t τ (i+1) r
def Qhx (τ:Tab):List (TypeId × Nat)→List LV→List LV→Option Bool
 | [],[],[]=>some true
 | f::r,x::p,y::q=>
  (match τ.td f.1 with
   | some (.int _)=>(Xg x).bind fun a=>(Xg y).bind fun b=>bif Nat.beq (Qq a.1) (Qq b.1) then some (a.2==b.2) else none
   | some .str=>(Q2w x).bind fun a=>(Q2w y).bind fun b=>some (Qeq a b)
   | some .bool=>(Jt x).bind fun a=>(Jt y).bind fun b=>some (a==b)
   | _=>none).bind fun b=>(Qhx τ r p q).bind fun c=>some (b&&c)
 | _,_,_=>none
def Q4w:Operand→Bool
 | .const .nilIface=>true
 | _=>false
def Qiz (op:UnOp) (x:LV):Option LV:=
 match op with
 | .not=>(Jt x).bind fun b=>some (.pure .bool (!b))
 | .neg=>(Xg x).bind fun p=>some (.pure (.int p.1) (p.1.wrap (0 - p.2)))
 | .xor=>(Xg x).bind fun p=>some (.pure (.int p.1) (p.1.wrap ((BitVec.ofInt p.1.bits (if p.1.signed then -1 else p.1.max) ^^^ BitVec.ofInt p.1.bits p.2).toNat)))
 | _=>none
def Q5g (xs:List Int):ByteArray:=⟨(xs.map fun n=>UInt8.ofNat n.toNat).toArray⟩
def Qjb (o:Lab→Option Ob):LV→Option Bool
 | .pure (.sl _ e) xs=>some (!(List.isEmpty xs))
 | .ref l=>match o l with
  | some (.row _ _ xs)=>some (!(List.isEmpty xs))
  | _=>none
 | _=>none
def Qe6:LV→Option AT
 | .pure (.int k) n=>some (.int k n)
 | .pure .bool b=>some (.bool b)
 | .lit b=>some (.bool b)
 | .pure .str s=>some (.str s)
 | _=>none
def Q97:List LV→Option (List AT)
 | []=>some []
 | v::r=>(Qe6 v).bind fun a=>(Q97 r).bind fun l=>some (a::l)
abbrev Upd:=List (Lab × Ob)
abbrev Res:=Option (Bool × SV × Upd)
def J4:SV→Option LV
 | .cv (.one v)=>some v
 | _=>none
def Q40 (τ:Tab) (T:TypeId) (j:Nat):Option (TypeId × Nat):=
 match τ.td T with
 | some (.stc fs)=>fs[j]?
 | _=>none
def Q7r (τ:Tab) (o:Lab→Option Ob) (T:TypeId) (x:SV):Res:=
 (τ.ty T).bind fun t=>
  match x with
  | .ep t' y=>(Zi t' t y).bind fun z=>some (true,.cv (Qay t z),[])
  | .cv (.one (.ptr l off))=>match o l with
   | some (.box _ vs)=>
    bif t.isAgg then (bif Nat.ble (off+t.cells) vs.length then some (true,.cv (.agg ((vs.drop off).take t.cells)),[]) else none)
    else (vs[off]?).bind fun v=>some (true,.cv (.one v),[])
   | _=>none
  | .ap l i off sz=>match o l with
   | some (.row _ e xs)=>(bif Nat.beq sz e.cells then Q68 e (List.getD xs i.toNat e.dflt) off t else none).bind fun z=>some (decide (0≤i)&&decide (i<xs.length),.cv (Qay t z),[])
   | some (.arr _ e xs)=>(bif Nat.beq sz e.cells then Q68 e (List.getD xs i.toNat e.dflt) off t else none).bind fun z=>some (decide (0≤i)&&decide (i<xs.length),.cv (Qay t z),[])
   | some (.lrow _ vs)=>bif Nat.beq sz 1&&Nat.beq off 0&&!t.isAgg&&decide (0≤i)&&decide (i<vs.length) then (vs[i.toNat]?).bind fun v=>some (true,.cv (.one v),[]) else none
   | _=>none
  | _=>none
def Q10:List LV→Nat→List LV→List LV
 | vs,_,[]=>vs
 | vs,off,x::r=>Q10 (vs.set off x) (off+1) r
def Qex:LV→Bool
 | .ref _=>false
 | .ptr _ _=>false
 | _=>true
def Q02:CV→Bool
 | .one u=>Qex u
 | .agg us=>us.all Qex
def Xs:CV→List LV
 | .one v=>[v]
 | .agg vs=>vs
def Qd {α:Type}:List (Option α)→Option (List α)
 | []=>some []
 | some x::r=>(Qd r).bind fun l=>some (x::l)
 | none::_=>none
def Q56 {α:Type}:List (Option α)→Bool
 | []=>true
 | some _::r=>Q56 r
 | none::_=>false
def Qgv {α:Type} (d:α):List (Option α)→List α
 | []=>[]
 | some x::r=>x::Qgv d r
 | none::r=>d::Qgv d r
theorem Q45 {α:Type} (d:α):∀ {l:List (Option α)},Q56 l=true→Qd l=some (Qgv d l)
 | [],_=>rfl
 | some x::r,h=>by
  have h:Q56 r=true:=h
  show (Qd r).bind _=_
  rw [Q45 d h];rfl
 | none::r,h=>by cases h
def Qaj (τ:Tab) (o:Lab→Option Ob) (T:TypeId) (x v:SV):Res:=
 (τ.ty T).bind fun t=>
  match v with
  | .cv c=>
   match x with
   | .cv (.one (.ptr l off))=>match o l with
    | some (.box B vs)=>
     let cs:=Xs c
     bif Nat.beq cs.length t.cells&&Nat.ble (off+t.cells) vs.length then some (true,.dead,[(l,.box B (Q10 vs off cs))]) else none
    | _=>none
   | .ap l i off sz=>match o l with
    | some (.row eT e xs)=>(bif Nat.beq sz e.cells then some () else none).bind fun _=>(Q1f o t c).bind fun y=>(Q9i e (List.getD xs i.toNat e.dflt) off t y).bind fun z=>
      bif Q02 c then
      some (decide (0≤i)&&decide (i<xs.length),.dead,[(l,.row eT e (List.set xs i.toNat z))]) else none
    | some (.arr eT e xs)=>(bif Nat.beq sz e.cells then some () else none).bind fun _=>(Q1f o t c).bind fun y=>(Q9i e (List.getD xs i.toNat e.dflt) off t y).bind fun z=>
      bif Q02 c then
      some (decide (0≤i)&&decide (i<xs.length),.dead,[(l,.arr eT e (List.set xs i.toNat z))]) else none
    | some (.mem eT e ys n0 ex)=>(bif Nat.beq sz e.cells&&Nat.beq off 0 then some () else none).bind fun _=>(Q1f o t c).bind fun y=>(Zi t e y).bind fun z=>
      bif Q02 c then
      some (decide (0≤i)&&decide (i<(n0:Int))&&Nat.ble n0 ys.length&&Q56 ((List.set ys i.toNat (some z)).take n0),.dead,[(l,.row eT e (Qgv e.dflt ((List.set ys i.toNat (some z)).take n0)))]) else none
    | _=>none
   | _=>none
  | _=>none
def Q31 (τ:Tab) (T:TypeId) (j:Nat) (x:SV):Res:=
 (Q40 τ T j).bind fun f=>(τ.ty f.1).bind fun t=>
  bif Nat.beq t.cells 0 then none else
  match x with
  | .cv (.one (.ptr l off))=>some (true,.cv (.one (.ptr l (off+f.2))),[])
  | .ap l i off sz=>some (true,.ap l i (off+f.2) sz,[])
  | .ep t' y=>(Q68 t' y f.2 t).bind fun z=>some (true,.ep t z,[])
  | _=>none
def Qa4 (τ:Tab) (T:TypeId) (j:Nat) (x:SV):Res:=
 (Q40 τ T j).bind fun f=>(τ.ty f.1).bind fun t=>
  match x with
  | .cv (.agg vs)=>
   bif t.isAgg then (bif Nat.ble (f.2+t.cells) vs.length then some (true,.cv (.agg ((vs.drop f.2).take t.cells)),[]) else none)
   else (vs[f.2]?).bind fun v=>some (true,.cv (.one v),[])
  | _=>none
def Q35 (τ:Tab) (o:Lab→Option Ob) (T:TypeId) (x ix:SV):Res:=
 (J4 ix).bind fun iv=>(Xg iv).bind fun p=>
  match τ.td T with
  | some (.slc eT)=>(τ.ty eT).bind fun e0=>
   match x with
   | .cv (.one (.pure (.sl _ e) xs))=>bif Ty.beq e0 e then some (decide (0≤p.2)&&decide (p.2<List.length xs),.ep e (List.getD xs p.2.toNat e.dflt),[]) else none
   | .cv (.one (.ref l))=>match o l with
    | some (.row _ e xs)=>bif Ty.beq e0 e then some (decide (0≤p.2)&&decide (p.2<xs.length),.ap l p.2 0 e.cells,[]) else none
    | some (.arr _ e xs)=>bif Ty.beq e0 e then some (decide (0≤p.2)&&decide (p.2<xs.length),.ap l p.2 0 e.cells,[]) else none
    | some (.lrow _ vs)=>bif Nat.beq e0.cells 1&&decide (0≤p.2)&&decide (p.2<vs.length) then some (true,.ap l p.2 0 1,[]) else none
    | some (.mem _ e _ n0 _)=>bif Ty.beq e0 e then some (decide (0≤p.2)&&decide (p.2<(n0:Int)),.ap l p.2 0 e.cells,[]) else none
    | _=>none
   | _=>none
  | some (.arr n eT)=>(τ.ty eT).bind fun e0=>
   match x with
   | .cv (.one (.ptr l 0))=>match o l with
    | some (.arr _ e xs)=>bif Ty.beq e0 e&&Nat.ble 2 n then some (decide (0≤p.2)&&decide (p.2<(n:Int))&&decide (p.2<xs.length),.ap l p.2 0 e.cells,[]) else none
    | _=>none
   | .ep t y=>(match (J4 ix) with
    | some (.pure (.int _) m)=>(Q68 t y (m.toNat*e0.cells) e0).bind fun z=>bif Nat.beq e0.cells 0 then none else some (decide (0≤p.2)&&decide (p.2<(n:Int)),.ep e0 z,[])
    | _=>none)
   | _=>none
  | _=>none
def Qas (τ:Tab) (T:TypeId) (x ix:SV):Res:=
 (J4 x).bind fun xv=>(J4 ix).bind fun iv=>(Xg iv).bind fun p=>
  match τ.td T,Q2w xv with
  | some .str,some s=>some (decide (0≤p.2)&&decide (p.2<(s.size:Int)),.cv (.one (.pure (.int .u8) ((s.data.getD p.2.toNat 0).toNat:Int))),[])
  | _,_=>none
def Q0d (ρ:Operand→SV) (x:Option Operand) (d:Int):Option Int:=
 match x with
 | none=>some d
 | some y=>(J4 (ρ y)).bind fun v=>(Xg v).bind fun p=>some p.2
def Qa6 (τ:Tab) (T:TypeId) (x:SV) (lo hi:Int):Res:=
 (J4 x).bind fun v=>
  match τ.td T with
  | some .str=>(Q2w v).bind fun s=>
    some (decide (0≤lo)&&decide (lo≤hi)&&decide (hi≤(s.size:Int)),.cv (.one (.pure .str (s.extract lo.toNat hi.toNat))),[])
  | some (.slc eT)=>(τ.ty eT).bind fun e0=>match v with
   | .pure (.sl eT' e) xs=>bif Nat.beq eT eT'&&Ty.beq e0 e then
     some (decide (0≤lo)&&decide (lo≤hi)&&decide (hi≤(List.length xs:Int)),.cv (.one (.pure (.sl eT' e) ((List.take hi.toNat xs).drop lo.toNat))),[]) else none
   | _=>none
  | _=>none
def Q2s (o:Lab→Option Ob):SV→Option Int
 | .cv (.one (.pure (.sl _ e) xs))=>some (List.length xs:Int)
 | .cv (.one (.pure .str s))=>some (s.size:Int)
 | .cv (.one .nil)=>some 0
 | .cv (.one (.ref l))=>match o l with
  | some (.row _ _ xs)=>some (xs.length:Int)
  | some (.arr _ _ xs)=>some (xs.length:Int)
  | some (.lrow _ vs)=>some (vs.length:Int)
  | some (.mem _ _ _ n0 _)=>some (n0:Int)
  | _=>none
 | .win _ _ n _=>some (n:Int)
 | _=>none
def Q6 {α:Type} (ys:List (Option α)) (p:Nat) (xs:List α):List (Option α):=ys.take p++xs.map some++ys.drop (p+xs.length)
def Q5e:List (Nat × Bool)→Nat→Option Bool
 | [],_=>none
 | (u,b)::r,t=>bif Nat.beq u t then some b else Q5e r t
def Q27 (kn:List (Nat × Bool)) (d:Option Nat):List (Nat × Bool):=
 match d with
 | none=>kn
 | some t=>kn.filter fun p=>!(Nat.beq p.1 t)
def Qcx (kn:List (Nat × Bool)) (c:Operand) (ρ:Operand→SV) (a b:Operand):Res:=
 let known:Option Bool:=match c with
  | .tmp t=>Q5e kn t
  | _=>none
 match known with
 | some true=>some (true,ρ a,[])
 | some false=>some (true,ρ b,[])
 | none=>match J4 (ρ c) with
  | some (.lit true)=>some (true,ρ a,[])
  | some (.lit false)=>some (true,ρ b,[])
  | some cv=>(Jt cv).bind fun q=>(J4 (ρ a)).bind fun x=>(J4 (ρ b)).bind fun y=>
    match Jt x,Jt y with
    | some p,some r=>some (true,.cv (.one (.pure .bool (bif q then p else r))),[])
    | _,_=>none
  | none=>none
def Q5p (τ:Tab) (o:Lab→Option Ob) (src dst:TypeId) (x:SV):Res:=
 (J4 x).bind fun v=>
  match τ.td src,τ.td dst with
  | some (.int _),some (.int k)=>(Xg v).bind fun p=>some (true,.cv (.one (.pure (.int k) (k.wrap p.2))),[])
  | some .str,some .str=>(Q2w v).bind fun s=>some (true,.cv (.one (.pure .str s)),[])
  | some (.slc eT),some .str=>match τ.td eT with
   | some (.int .u8)=>(Jj o (.sl eT (.int .u8)) v).bind fun xs=>some (true,.cv (.one (.pure .str (Q5g xs))),[])
   | _=>none
  | _,_=>none
def Qjm:LV→Bool
 | .pure t _=>t.flat
 | .lit _=>true
 | _=>false
def Q21 (τ:Tab) (ρ:Operand→SV) (o:Lab→Option Ob) (eT:TypeId) (e:Ty):Nat→List (Nat × Operand)→Option (List e.den)
 | _,[]=>some []
 | i,(j,x)::r=>bif Nat.beq i j then
   (match ρ x with
    | .cv c=>(bif Q02 c then Q1f o e c else none).bind fun y=>
      (Q21 τ ρ o eT e (i+1) r).bind fun l=>some (y::l)
    | _=>none)
   else none
def Q1x (ρ:Operand→SV):Nat→List (Nat × Operand)→Option (List LV)
 | _,[]=>some []
 | i,(j,x)::r=>bif Nat.beq i j then
   (match ρ x with
    | .cv (.one (.ref l))=>(Q1x ρ (i+1) r).bind fun vs=>some (.ref l::vs)
    | _=>none)
   else none
def Q8z (ρ:Operand→SV):List (Nat × Operand)→Bool
 | (_,x)::_=>(match ρ x with | .cv (.one (.ref l))=>Nat.beq l.2 77777 | _=>false)
 | []=>false
def Jy (fs:List (TypeId × Nat)) (τ:Tab) (ρ:Operand→SV):List LV→List (Nat × Operand)→Option (List LV)
 | vs,[]=>some vs
 | vs,(j,x)::r=>(fs[j]?).bind fun f=>(τ.ty f.1).bind fun t=>
   match ρ x with
   | .cv c=>
    let cs:=Xs c
    bif Nat.beq cs.length t.cells&&Nat.ble (f.2+t.cells) vs.length then Jy fs τ ρ (Q10 vs f.2 cs) r else none
   | _=>none
def Qcv (τ:Tab) (T:TypeId):Bool:=
 match τ.td T with
 | some .ifc=>true
 | _=>false
def Q6u (op:BinOp) (b:Bool):Res:=
 match op with
 | .eql=>some (true,.cv (.one (.pure .bool b)),[])
 | .neq=>some (true,.cv (.one (.pure .bool (!b))),[])
 | _=>none
def Qa5 (τ:Tab) (T:TypeId) (v:LV):Bool:=
 match Jt v,τ.td T with
 | some _,some .bool=>true
 | some _,_=>false
 | _,_=>true
def Q72 (τ:Tab) (T:TypeId) (v:SV):Bool:=
 match τ.td T,v with
 | some .str,.cv (.one (.pure .str _))=>true
 | some (.slc _),.cv (.one (.pure .str _))=>false
 | some (.slc _),_=>true
 | _,_=>false
def Q5v:Operand→Option Nat
 | .const (.int .i64 n)=>bif decide (0≤n) then some n.toNat else none
 | _=>none
def Qg4 (τ:Tab) (dst:Nat) (T:TypeId) (n c:Option Nat):Res:=
 match τ.td T,n,c with
 | some (.slc eT),some n,some c=>(τ.ty eT).bind fun e=>bif Nat.beq n c&&Nat.ble (n*e.cells) 16777216 then
   some (true,.cv (.one (.ref (dst,77777))),[((dst,77777),.row eT e (List.replicate n e.dflt))]) else none
 | _,_,_=>none
def ev1 (τ:Tab) (kn:List (Nat × Bool)) (ρ:Operand→SV) (o:Lab→Option Ob) (dst:Nat) (op:Op) (ty:TypeId):Res:=
 match op with
 | .move x=>some (true,ρ x,[])
 | .assign x=>some (true,ρ x,[])
 | .pick c a b=>Qcx kn c ρ a b
 | .load T x=>Q7r τ o T (ρ x)
 | .store T x v=>Qaj τ o T (ρ x) (ρ v)
 | .nilCheck x=>match ρ x with
  | .cv (.one (.ptr l off))=>some (true,.cv (.one (.ptr l off)),[])
  | .ep t y=>some (true,.ep t y,[])
  | .ap l i off sz=>some (true,.ap l i off sz,[])
  | _=>none
 | .fieldAddr T x j=>Q31 τ T j (ρ x)
 | .field T x j=>Qa4 τ T j (ρ x)
 | .indexAddr T x ix=>Q35 τ o T (ρ x) (ρ ix)
 | .index T x ix=>Qas τ T (ρ x) (ρ ix)
 | .extract x j=>match ρ x with
  | .tup cs=>(cs[j]?).bind fun c=>some (true,.cv c,[])
  | .tupe l i sz=>(match j with
   | 0=>some (true,.ap l i 0 sz,[])
   | 1=>some (true,.cv (.one (.pure .ifc IV.nil)),[])
   | _=>none)
  | .tupn v=>(match j with
   | 0=>some (true,.dead,[])
   | 1=>some (true,.cv (.one (.pure .ifc v)),[])
   | _=>none)
  | _=>none
 | .binOp bop T x y _=>
  match ρ x,ρ y with
  | .cv (.one (.pure .ifc v)),.cv (.one w)=>bif Q4w y&&Qcv τ T then Q6u bop (IV.isNil v) else none
  | .cv (.one v),.cv (.one .nil)=>(match τ.td T with
    | some (.slc eT)=>(Qjb o v).bind fun ne=>(match bop with
     | .eql=>some (true,.cv (.one (.nb ne)),[])
     | _=>none)
    | _=>none)
  | .cv (.one v),.cv (.one w)=>
   bif Qa5 τ T v then
   (Q9a bop v w).bind fun r=>some (r.1,.cv (.one r.2),[]) else none
  | .cv (.agg vs),.cv (.agg ws)=>match τ.td T with
   | some (.stc fs)=>bif Q1t τ 0 fs then (Qhx τ fs vs ws).bind fun b=>Q6u bop b else none
   | _=>none
  | _,_=>none
 | .unOp uop _ x=>(J4 (ρ x)).bind fun v=>(Qiz uop v).bind fun r=>some (true,.cv (.one r),[])
 | .convert s d x=>Q5p τ o s d (ρ x)
 | .slice T x lo hi none=>(Q2s o (ρ x)).bind fun n=>(Q0d ρ lo 0).bind fun l=>(Q0d ρ hi n).bind fun h=>Qa6 τ T (ρ x) l h
 | .alloc T=>match τ.td T with
  | some (.arr n eT)=>(τ.ty eT).bind fun e=>bif Nat.ble (n*e.cells) 16777216&&Nat.beq e.cells 1&&e.flat then
    some (true,.cv (.one (.ptr (dst,0) 0)),[((dst,0),.arr eT e (List.replicate n e.dflt))]) else none
  | _=>(τ.ty T).bind fun t=>some (true,.cv (.one (.ptr (dst,0) 0)),[((dst,0),.box T (Q0i t))])
 | .box T x=>(τ.ty T).bind fun t=>match ρ x with
  | .cv c=>
   let cs:=Xs c
   bif Nat.beq cs.length t.cells then some (true,.cv (.one (.ptr (dst,0) 0)),[((dst,0),.box T cs)]) else none
  | _=>none
 | .build T parts=>match τ.td T with
  | some (.stc fs)=>(τ.ty T).bind fun t=>(Jy fs τ ρ (Q0i t) parts.toList).bind fun vs=>some (true,.cv (.agg vs),[])
  | _=>none
 | .buildSlice T n parts=>match τ.td T with
  | some (.slc eT)=>(τ.ty eT).bind fun e=>bif Nat.beq parts.toList.length n&&Nat.ble (n*e.cells) 16777216 then
    bif Q8z ρ parts.toList&&Nat.beq e.cells 1 then (Q1x ρ 0 parts.toList).bind fun vs=>some (true,.cv (.one (.ref (dst,0))),[((dst,0),.lrow eT vs)])
    else (Q21 τ ρ o eT e 0 parts.toList).bind fun xs=>some (true,.cv (.one (.ref (dst,0))),[((dst,0),.row eT e xs)]) else none
  | _=>none
 | .makeSlice T l c=>Qg4 τ dst T (Q5v l) (Q5v c)
 | .makeInterface T x=>match τ.td T,ρ x with
  | some (.stc _),.cv (.agg vs)=>(τ.ty T).bind fun t=>(Q97 vs).bind fun l=>(Q47 t l).bind fun p=>match p.2 with
    | []=>some (true,.cv (.one (.pure .ifc (IV.mk T l))),[])
    | _=>none
  | _,_=>none
 | .typeAssert x X A true=>match τ.td A,τ.td X,ρ x with
  | some (.stc _),some .ifc,.cv (.one (.pure .ifc v))=>(τ.ty A).bind fun t=>some (true,.tup [.agg (lvs t (IV.val (bif IV.is v A then v else IV.nil) t)),.one (.pure .bool (IV.is v A))],[])
  | _,_,_=>none
 | .call { callee:=.builtin .len,args:=args,argTypes:=ts }=>match args.toList,ts.toList with
  | [x],[T]=>(Q2s o (ρ x)).bind fun n=>bif Q72 τ T (ρ x) then
    some (true,.cv (.one (.pure (.int .i64) n)),[]) else none
  | _,_=>none
 | .call { callee:=.builtin .max,args:=args,argTypes:=_ }=>match args.toList with
  | [x,y]=>(J4 (ρ x)).bind fun a=>(J4 (ρ y)).bind fun b=>(Xg a).bind fun p=>(Xg b).bind fun q=>
    bif Nat.beq (Qq p.1) (Qq q.1) then some (true,.cv (.one (.pure (.int p.1) (if q.2>p.2 then q.2 else p.2))),[]) else none
  | _=>none
 | .call { callee:=.builtin .min,args:=args,argTypes:=_ }=>match args.toList with
  | [x,y]=>(J4 (ρ x)).bind fun a=>(J4 (ρ y)).bind fun b=>(Xg a).bind fun p=>(Xg b).bind fun q=>
    bif Nat.beq (Qq p.1) (Qq q.1) then some (true,.cv (.one (.pure (.int p.1) (if q.2<p.2 then q.2 else p.2))),[]) else none
  | _=>none
 | _=>none
end Go.PE
set_option linter.unusedVariables false
namespace Go.PE
inductive PK where
 | val (t:Ty)
 | box (T:TypeId) (t:Ty) (own:List Bool)
 | rbox (t:Ty)
 | fn (ps rs:List Ty)
 | own (eT:TypeId) (e:Ty)
 | ownc (eT:TypeId) (e:Ty)
 | ownh (eT:TypeId) (e:Ty)
 | io (eT:TypeId) (e:Ty)
structure RK where
 t:Ty
 own:List Bool
 ptr:Option TypeId
def PD:PK→Type
 | .val t=>t.den
 | .box _ t _=>t.den
 | .rbox t=>t.den
 | .fn ps rs=>Zg ps→Option (Zg rs)
 | .own _ e=>List e.den
 | .ownc _ e=>List e.den
 | .ownh _ e=>List (Option e.den)
 | .io _ e=>List e.den
def PDs:List PK→Type
 | []=>Unit
 | p::r=>PD p × PDs r
def ODs:List PK→Type
 | []=>Unit
 | .box _ t _::r=>t.den × ODs r
 | .io _ e::r=>List e.den × ODs r
 | _::r=>ODs r
def RDs:List RK→Type
 | []=>Unit
 | k::r=>k.t.den × RDs r
structure Ent where
 ps:List PK
 rs:List RK
 G:PDs ps→Option (RDs rs × ODs ps)
abbrev Ctx:=List (Nat × Ent)
def Q8t:Ctx→Nat→Option Ent
 | [],_=>none
 | (u,v)::r,t=>bif Nat.beq u t then some v else Q8t r t
def Qx:LV→List Lab
 | .ref l=>[l]
 | .ptr l _=>[l]
 | _=>[]
def Q0z:CV→List Lab
 | .one v=>Qx v
 | .agg vs=>vs.flatMap Qx
def Qe:SV→List Lab
 | .cv c=>Q0z c
 | .tup cs=>cs.flatMap Q0z
 | .ap l _ _ _=>[l]
 | .win l _ _ _=>[l]
 | .tupe l _ _=>[l]
 | _=>[]
def Z0:Ob→List Lab
 | .box _ vs=>vs.flatMap Qx
 | .lrow _ vs=>vs.flatMap Qx
 | _=>[]
def Xu (l:Lab):List Lab→Bool
 | []=>false
 | m::r=>Xl m l||Xu l r
def Q7u (t:Nat):List Nat→Bool
 | []=>false
 | m::r=>Nat.beq m t||Q7u t r
def Zy (st:St) (l:Lab):Bool:=
 (match Q0 st.objs l with | none=>true | some _=>false) &&
 st.slots.all (fun p=>!(Xu l (Qe p.2)))&&st.objs.all (fun p=>!(Xu l (Z0 p.2)))
def Qbf (f:LV→LV):CV→CV
 | .one v=>.one (f v)
 | .agg vs=>.agg (vs.map f)
def Q11 (f:LV→LV) (g:Lab→Lab):SV→SV
 | .cv c=>.cv (Qbf f c)
 | .tup cs=>.tup (cs.map (Qbf f))
 | .ap l i off sz=>.ap (g l) i off sz
 | .win l lo n sz=>.win (g l) lo n sz
 | .tupe l i sz=>.tupe (g l) i sz
 | v=>v
def Q0a (f:LV→LV):Ob→Ob
 | .box T vs=>.box T (vs.map f)
 | .lrow eT vs=>.lrow eT (vs.map f)
 | o=>o
def Q42 (l:Lab) (v:LV):LV→LV
 | .ref m=>bif Xl m l then v else .ref m
 | u=>u
def Q3n (l:Lab):SV→SV
 | .ap m i off sz=>bif Xl m l then .dead else .ap m i off sz
 | .win m lo n sz=>bif Xl m l then .dead else .win m lo n sz
 | .tupe m i sz=>bif Xl m l then .dead else .tupe m i sz
 | v=>v
def frz (st:St) (l:Lab):Option St:=
 match Q0 st.objs l with
 | some (.row eT e xs)=>
  let f:=Q42 l (.pure (.sl eT e) xs)
  some { slots:=st.slots.map fun p=>(p.1,Q3n l (Q11 f id p.2)),objs:=(Jr st.objs l).map fun p=>(p.1,Q0a f p.2) }
 | _=>none
def Q1o (st:St):List Lab→Option St
 | []=>some st
 | l::r=>match Q0 st.objs l with
  | some (.row _ _ _)=>(frz st l).bind fun s=>Q1o s r
  | _=>Q1o st r
def Js (l m:Lab):LV→LV
 | .ref k=>bif Xl k l then .ref m else .ref k
 | u=>u
def ren (st:St) (l m:Lab):Option St:=
 bif Xl l m then some st else
 match Q0 st.objs l with
 | some (.row eT e xs)=>bif Zy st m then
   some { slots:=st.slots.map fun p=>(p.1,Q11 (Js l m) (fun k=>bif Xl k l then m else k) p.2),objs:=(Jr st.objs l).map (fun p=>(p.1,Q0a (Js l m) p.2))++[(m,.row eT e xs)] } else none
 | some (.lrow eT vs)=>bif Zy st m&&!(Xu l (vs.flatMap Qx)) then
   some { slots:=st.slots.map fun p=>(p.1,Q11 (Js l m) (fun k=>bif Xl k l then m else k) p.2),objs:=(Jr st.objs l).map (fun p=>(p.1,Q0a (Js l m) p.2))++[(m,.lrow eT vs)] } else none
 | _=>none
def Zt:List Lab→Bool
 | []=>true
 | l::r=>!(Xu l r)&&Zt r
def has (o:List (Lab × Ob)) (l:Lab):Bool:=match Q0 o l with | some _=>true | none=>false
def delAll (st:St):List Lab→St
 | []=>st
 | l::r=>delAll { st with objs:=Jr st.objs l } r
def Xm (d:Nat) (u:Upd):Upd:=u.filter fun p=>Nat.beq p.1.1 d
def Zh (d:Nat) (u:Upd):Upd:=u.filter fun p=>!(Nat.beq p.1.1 d)
def Q2r (o:List (Lab × Ob)):Upd→List (Lab × Ob)
 | []=>o
 | (l,x)::r=>Q2r (Q43 o l x) r
def Qs (st:St) (d:Nat) (u:Upd):Option St:=
 bif Zt (u.map (·.1))&&(Zh d u).all (fun p=>has st.objs p.1)&&(Xm d u).all (fun p=>Zy (delAll st ((Zh d u).map (·.1))) p.1) then
  some { st with objs:=Xm d u++Q2r st.objs (Zh d u) } else none
def Q26 (st:St) (dst:Option Nat) (v:SV):St:=
 match dst with
 | some d=>{ st with slots:=(d,v)::st.slots }
 | none=>st
noncomputable def Q3f {R:Type} (a b:Option R):Option R:=
 match Classical.propDecidable (a=b) with
 | .isTrue _=>a
 | .isFalse _=>none
theorem Qcu {R:Type} (a:Option R):Q3f a a=a:=by
 unfold Q3f;split<;>first | rfl | contradiction
theorem Qfo {R:Type} {a b:Option R} (h:a=b):Q3f a b=a:=by subst h;exact Qcu a
def Q6w (o:Lab→Option Ob) (eT:TypeId) (e:Ty):LV→Option (List Lab × List e.den)
 | .nil=>some ([],[])
 | .ref l=>match o l with
  | some (.row eT' e' xs)=>bif Nat.beq eT eT' then (Zi (.sl eT e') (.sl eT e) xs).bind fun ys=>some ([l],ys) else none
  | _=>none
 | _=>none
def Q8a (τ:Tab) (o:Lab→Option Ob) (eT:TypeId) (e:Ty) (T:TypeId) (v:LV):Option (List e.den):=
 match τ.td T with
 | some .str=>(Q2w v).bind fun s=>Zi (.sl eT (.int .u8)) (.sl eT e) (s.data.toList.map fun b=>(b.toNat:Int))
 | some (.slc eT')=>bif Nat.beq eT eT' then Jj o (.sl eT e) v else none
 | _=>none
def Q81 (τ:Tab) (st:St) (ρ:Operand→SV) (d:Nat) (s x:Operand) (T T':TypeId):Option (Bool × SV × List Lab × Upd):=
 match τ.td T with
 | some (.slc eT)=>(τ.ty eT).bind fun e=>(J4 (ρ s)).bind fun sv=>(J4 (ρ x)).bind fun xv=>
   (Q6w (Q0 st.objs) eT e sv).bind fun b=>(Q8a τ (Q0 st.objs) eT e T' xv).bind fun ys=>
   bif b.1.all (fun l=>!(Xu l (Qx xv))) then
   some (Nat.ble (b.2.length+ys.length) 1073741824,.cv (.one (.ref (d,0))),b.1,[((d,0),.row eT e (b.2++ys))]) else none
 | _=>none
def Q74 (o:Lab→Option Ob) (eT:TypeId):LV→Option (List Lab × List LV)
 | .nil=>some ([],[])
 | .ref l=>match o l with
  | some (.lrow eT' vs)=>bif Nat.beq eT eT' then some ([l],vs) else none
  | _=>none
 | _=>none
def Qib:LV→Bool
 | .ref _=>true
 | _=>false
def Qa7 (o:Lab→Option Ob) (eT:TypeId):LV→Option (List LV)
 | .ref l=>match o l with
  | some (.lrow eT' vs)=>bif Nat.beq eT eT'&&vs.all Qib then some vs else none
  | _=>none
 | _=>none
def Q5m (τ:Tab) (st:St) (ρ:Operand→SV) (d:Nat) (s x:Operand) (T T':TypeId):Option (Bool × SV × List Lab × Upd):=
 match τ.td T with
 | some (.slc eT)=>(τ.ty eT).bind fun e=>(J4 (ρ s)).bind fun sv=>(J4 (ρ x)).bind fun xv=>
   (Q74 (Q0 st.objs) eT sv).bind fun b=>(Qa7 (Q0 st.objs) eT xv).bind fun ys=>
   bif b.1.all (fun l=>!(Xu l (Qx xv)))&&Nat.beq e.cells 1&&Nat.beq T T'&&Nat.ble (b.2.length+ys.length) 1073741824&&!(Xu (d,0) ((b.2++ys).flatMap Qx)) then
   some (true,.cv (.one (.ref (d,0))),b.1,[((d,0),.lrow eT (b.2++ys))]) else none
 | _=>none
def isL (o:Lab→Option Ob):SV→Bool
 | .cv (.one (.ref l))=>match o l with
  | some (.lrow _ _)=>true
  | _=>false
 | _=>false
def Q6v (e:Ty):List LV→Option (List e.den)
 | []=>some []
 | .pure t x::r=>(Zi t e x).bind fun y=>(Q6v e r).bind fun l=>some (y::l)
 | _::_=>none
def Qih:List LV→Option Ty
 | .pure t _::_=>some t
 | _=>none
def Qh7 (st:St) (l:Lab):Option St:=
 match Q0 st.objs l with
 | some (.lrow _ vs)=>(Q1o st (vs.flatMap Qx)).bind fun s=>
  match Q0 s.objs l with
  | some (.lrow eT us)=>(Qih us).bind fun e=>(Q6v e us).bind fun xs=>bif Nat.beq e.cells 1 then some { s with objs:=Q43 s.objs l (.row eT e xs) } else none
  | _=>none
 | _=>some st
def Qgm (st:St) (l:Lab):St:=
 match Q0 st.objs l with
 | some (.row eT e xs)=>{ st with objs:=Q43 st.objs l (.mem eT e (xs.map some) xs.length false) }
 | _=>st
def Q3c:List (Nat × Nat)→Nat→St→Option St
 | [],_,st=>some st
 | (i,t)::r,id,st=>bif Nat.beq i id then
   bif Nat.ble 1000000 t then (match Q9 st.slots (t - 1000000) with
    | .cv (.one (.ref l))=>Q3c r id (Qgm st l)
    | _=>Q3c r id st)
   else (match Q9 st.slots t with
    | .cv (.one (.ref l))=>(Qh7 st l).bind fun s=>Q3c r id s
    | _=>Q3c r id st)
   else Q3c r id st
def Q4n:List Ty→List Ty→Bool
 | [],[]=>true
 | a::r,b::q=>Ty.beq a b&&Q4n r q
 | _,_=>false
theorem Q5r:∀ {a b:List Ty},Q4n a b=true→a=b
 | [],[],_=>rfl
 | a::r,b::q,h=>by
  simp only [Q4n,Bool.and_eq_true] at h
  rw [Ty.eq_of_beq h.1,Q5r h.2]
 | [],_::_,h=>by cases h
 | _::_,[],h=>by cases h
def Qdk (ps rs ps' rs':List Ty) (g:Zg ps→Option (Zg rs)):Option (Zg ps'→Option (Zg rs')):=
 match h:Q4n ps ps',h':Q4n rs rs' with
 | true,true=>some (Q5r h▸Q5r h'▸g)
 | _,_=>none
def Qgu:(ps:List PK)→(ts:List Ty)→Zg ts→Option (PDs ps)
 | [],[],_=>some ()
 | .val t::r,t'::q,x=>(Zi t' t x.1).bind fun y=>(Qgu r q x.2).bind fun z=>some (y,z)
 | _,_,_=>none
def Qee:(rs:List RK)→RDs rs→(ts:List Ty)→Option (Zg ts)
 | [],_,[]=>some ()
 | k::r,x,t::q=>(Zi k.t t x.1).bind fun y=>(Qee r x.2 q).bind fun z=>some (y,z)
 | _,_,_=>none
def Q0f (k:RK):Bool:=k.t.flat&&(match k.ptr with | none=>true | _=>false)
def Q50 (e:Ent) (ps rs:List Ty):Zg ps→Option (Zg rs):=fun x=>
 (Qgu e.ps ps x).bind fun y=>(e.G y).bind fun z=>Qee e.rs z.1 rs
def Qig:List PK→Option (List Ty)
 | []=>some []
 | .val t::r=>(Qig r).bind fun l=>some (t::l)
 | _=>none
def Q2g (e:Ent) (ps rs:List Ty):Bool:=
 (match Qig e.ps with | some l=>Q4n l ps | none=>false)&&Q4n (e.rs.map (·.t)) rs&&e.rs.all Q0f
def Qg:List LV→List Bool→List (LV × Bool)
 | [],_=>[]
 | v::r,[]=>(v,false)::Qg r []
 | v::r,b::q=>(v,b)::Qg r q
def Q3d (o:Lab→Option Ob):List (LV × Bool)→Bool
 | []=>true
 | (.ref l,true)::r=>(match o l with | some (.row _ _ _)=>true | _=>false)&&Q3d o r
 | (.nil,true)::r=>Q3d o r
 | (_,true)::_=>false
 | (_,false)::r=>Q3d o r
def Zs:List (LV × Bool)→List Lab
 | []=>[]
 | (.ref l,true)::r=>l::Zs r
 | _::r=>Zs r
def Qi:List (LV × Bool)→List Lab
 | []=>[]
 | (.ref l,false)::r=>l::Qi r
 | _::r=>Qi r
def Q2v (a b:List Lab):Bool:=a.all fun l=>!(Xu l b)
def Q0x:List LV→List Bool→Bool
 | .pure (.sl _ e) _::r,true::q=>Nat.blt 0 e.cells&&Q0x r q
 | _::r,_::q=>Q0x r q
 | _,_=>true
def Q0g (o:Lab→Option Ob) (l:Lab):Bool:=match o l with | some _=>true | none=>false
def Qgz (t t':Ty) (ys:List (Option t.den)):Option (List (Option t'.den)):=
 match h:Ty.beq t t' with
 | true=>some (Ty.eq_of_beq h▸ys)
 | false=>none
theorem Qd3 {t t':Ty} {ys:List (Option t.den)} {zs:List (Option t'.den)} (h:Qgz t t' ys=some zs):∃ e:t=t',e▸ys=zs:=by
 unfold Qgz at h
 split at h
 ·rename_i hb
  exact ⟨Ty.eq_of_beq hb,by simpa using h⟩
 ·cases h
def Q0b (o:Lab→Option Ob) (eT:TypeId) (e:Ty):LV→Option (List e.den × List Lab)
 | .nil=>some ([],[])
 | .ref l=>(match o l with
  | some (.row eT' e' xs)=>bif Nat.beq eT' eT then (Zi (.sl eT e') (.sl eT e) xs).bind fun ys=>some (ys,[l]) else none
  | _=>none)
 | _=>none
def Q7d {α:Type}:Nat→List (Option α)→List (Option α)
 | 0,_=>[]
 | n+1,[]=>none::Q7d n []
 | n+1,y::r=>y::Q7d n r
theorem Q1d {α:Type}:∀ (n:Nat) (ys:List (Option α)),(Q7d n ys).length=n
 | 0,_=>rfl
 | n+1,[]=>congrArg (·+1) (Q1d n [])
 | n+1,_::r=>congrArg (·+1) (Q1d n r)
theorem Q71 {α:Type}:∀ (n:Nat) (ys:List (Option α)) (i:Nat) (x:α),(Q7d n ys)[i]?=some (some x)→ys[i]?=some (some x)
 | 0,_,i,x,h=>by simp [Q7d] at h
 | n+1,[],0,x,h=>by simp [Q7d] at h
 | n+1,[],i+1,x,h=>by
  have:=Q71 n [] i x (by simpa [Q7d] using h)
  simp at this
 | n+1,y::r,0,x,h=>by simpa [Q7d] using h
 | n+1,y::r,i+1,x,h=>by
  have:=Q71 n r i x (by simpa [Q7d] using h)
  simpa using this
theorem Qi1 {α:Type}:∀ {n:Nat} {ys:List (Option α)},ys.length=n→Q7d n ys=ys
 | 0,[],_=>rfl
 | n+1,y::r,h=>congrArg (y::·) (Qi1 (by simpa using h))
def Q58 (o:Lab→Option Ob) (eT:TypeId) (e:Ty):LV→Option (List (Option e.den) × List Lab)
 | .ref l=>(match o l with
  | some (.row eT' e' xs)=>bif Nat.beq eT' eT then (Zi (.sl eT e') (.sl eT e) xs).bind fun ys=>some (List.map some (ys:List e.den),[l]) else none
  | some (.mem eT' e' ys n0 _)=>bif Nat.beq eT' eT then (Qgz e' e ys).bind fun zs=>some (Q7d n0 zs,[l]) else none
  | _=>none)
 | _=>none
def Qaw (o:Lab→Option Ob) (eT:TypeId) (e:Ty):LV→Option (List e.den × List Lab)
 | .ref l=>Q0b o eT e (.ref l)
 | _=>none
def Q17 (o:Lab→Option Ob) (t:Ty) (vs:List LV):Option t.den:=
 match Q1s o t vs with
 | some (x,[])=>some x
 | _=>none
def Q5s (o:Lab→Option Ob) (T:TypeId) (t:Ty) (own:List Bool) (l:Lab):Option (t.den × List LV):=
 match o l with
 | some (.box T' vs)=>bif Nat.beq T' T&&Q3d o (Qg vs own) then (Q17 o t vs).bind fun x=>bif Q0x (lvs t x) own then some (x,vs) else none else none
 | _=>none
def Zu (Γ:Ctx) (o:Lab→Option Ob):(ps:List PK)→List SV→Option (PDs ps × List Lab × List Lab)
 | [],[]=>some ((),[],[])
 | .val t::r,.cv c::q=>(Q1f o t c).bind fun x=>(Zu Γ o r q).bind fun z=>some ((x,z.1),z.2.1,Qi (Qg (Xs c) [])++z.2.2)
 | .own eT e::r,.cv (.one v)::q=>bif Nat.blt 0 e.cells then (Q0b o eT e v).bind fun x=>(Zu Γ o r q).bind fun z=>some ((x.1,z.1),x.2++z.2.1,z.2.2) else none
 | .ownc eT e::r,.cv (.one v)::q=>bif Nat.blt 0 e.cells then (Q0b o eT e v).bind fun x=>(Zu Γ o r q).bind fun z=>some ((x.1,z.1),x.2++z.2.1,z.2.2) else none
 | .ownh eT e::r,.cv (.one v)::q=>bif Nat.blt 0 e.cells then (Q58 o eT e v).bind fun x=>(Zu Γ o r q).bind fun z=>some ((x.1,z.1),x.2++z.2.1,z.2.2) else none
 | .io eT e::r,.cv (.one v)::q=>bif Nat.blt 0 e.cells then (Qaw o eT e v).bind fun x=>(Zu Γ o r q).bind fun z=>some ((x.1,z.1),x.2++z.2.1,z.2.2) else none
 | .box T t own::r,.cv (.one (.ptr l 0))::q=>(Q5s o T t own l).bind fun x=>(Zu Γ o r q).bind fun z=>
   some ((x.1,z.1),l::Zs (Qg x.2 own)++z.2.1,Qi (Qg x.2 own)++z.2.2)
 | .rbox t::r,.ep t' y::q=>(Zi t' t y).bind fun x=>(Zu Γ o r q).bind fun z=>some ((x,z.1),z.2)
 | .fn ps rs::r,.cv (.one (.clo ps' rs' g))::q=>(Qdk ps' rs' ps rs g).bind fun x=>(Zu Γ o r q).bind fun z=>some ((x,z.1),z.2)
 | .fn ps rs::r,.cv (.one (.gfn f))::q=>(Q8t Γ f).bind fun e=>bif Q2g e ps rs then (Zu Γ o r q).bind fun z=>some ((Q50 e ps rs,z.1),z.2) else none
 | _,_=>none
def Ze (d:Nat):Nat→List LV→List Bool→List LV × Upd
 | _,[],_=>([],[])
 | j,v::r,[]=>let z:=Ze d (j+1) r [];(v::z.1,z.2)
 | j,v::r,b::q=>
  let z:=Ze d (j+1) r q
  match v with
  | .pure (.sl eT e) xs=>bif b then (.ref (d,j)::z.1,((d,j),.row eT e xs)::z.2) else (v::z.1,z.2)
  | v=>(v::z.1,z.2)
def Q55 (d j:Nat) (k:RK) (x:k.t.den):CV × Upd:=
 match k.ptr with
 | none=>let z:=Ze d j (lvs k.t x) k.own
  (match k.t.isAgg,z.1 with
   | false,[v]=>(.one v,z.2)
   | _,vs=>(.agg vs,z.2))
 | some T=>let z:=Ze d (j+1) (lvs k.t x) k.own;(.one (.ptr (d,j) 0),((d,j),.box T z.1)::z.2)
def Q77 (d:Nat):Nat→(rs:List RK)→RDs rs→List CV × Upd
 | _,[],_=>([],[])
 | j,k::r,x=>let a:=Q55 d j k x.1;let z:=Q77 d (j+1+k.t.cells) r x.2;(a.1::z.1,a.2++z.2)
def Q1w (d:Nat) (rs:List RK) (x:RDs rs):SV × Upd:=
 match Q77 d 0 rs x with
 | ([c],u)=>(.cv c,u)
 | (cs,u)=>(.tup cs,u)
def Qr (d:Nat):Nat→(ps:List PK)→List SV→ODs ps→Upd
 | _,[],_,_=>[]
 | j,.box T t own::r,.cv (.one (.ptr l 0))::q,x=>
  let z:=Ze d j (lvs t x.1) own
  (l,.box T z.1)::z.2++Qr d (j+t.cells) r q x.2
 | j,.box T t own::r,_::q,x=>Qr d j r q x.2
 | j,.box T t own::r,[],x=>Qr d j r [] x.2
 | j,.io eT e::r,.cv (.one (.ref l))::q,x=>(l,.row eT e x.1)::Qr d (j+1) r q x.2
 | j,.io eT e::r,_::q,x=>Qr d j r q x.2
 | j,.io eT e::r,[],x=>Qr d j r [] x.2
 | j,.ownc _ _::r,_::q,x=>Qr d j r q x
 | j,.ownh _ _::r,_::q,x=>Qr d j r q x
 | j,.ownc _ _::r,[],x=>Qr d j r [] x
 | j,.ownh _ _::r,[],x=>Qr d j r [] x
 | j,.val _::r,_::q,x=>Qr d j r q x
 | j,.rbox _::r,_::q,x=>Qr d j r q x
 | j,.fn _ _::r,_::q,x=>Qr d j r q x
 | j,.own _ _::r,_::q,x=>Qr d j r q x
 | j,.val _::r,[],x=>Qr d j r [] x
 | j,.rbox _::r,[],x=>Qr d j r [] x
 | j,.fn _ _::r,[],x=>Qr d j r [] x
 | j,.own _ _::r,[],x=>Qr d j r [] x
def X2 (own:List Bool):List LV→Bool
 | []=>false
 | .pure t _::r=>(match own with
   | true::q=>(match t with | .sl _ e=>!e.flat | t=>!t.flat)||X2 q r
   | _::q=>!t.flat||X2 q r
   | []=>!t.flat||X2 [] r)
 | _::r=>X2 own.tail r
def Q8y (e:Ent):Bool:=
 e.rs.any (fun k=>X2 k.own (lvs k.t k.t.dflt))||e.ps.any (fun p=>match p with | .box _ t own=>X2 own (lvs t t.dflt) | .io _ e=>!e.flat | _=>false)
def Qit:List Lab→Bool
 | []=>true
 | _=>false
def Q1l {R:Type} (Γ:Ctx) (o:Lab→Option Ob) (d:Nat) (e:Ent) (args:List SV) (k:SV→List Lab→Upd→Option R):Option R:=
 (Zu Γ o e.ps args).bind fun a=>
  bif Zt a.2.1&&Q2v a.2.1 a.2.2&&a.2.1.all (Q0g o)&&a.2.2.all (Q0g o)&&(bif Q8y e then Qit a.2.2 else true) then
  (e.G a.1).bind fun r=>
   let v:=Q1w d e.rs r.1
   let u:=v.2++Qr d 1000 e.ps args r.2
   k v.1 (a.2.1.filter fun l=>!(Xu l (u.map (·.1)))) u
  else none
def Qji (ρ:Operand→SV) (c:Call):List SV:=c.args.toList.map ρ
def Qjw (ρ:Operand→SV) (x:Operand):SV:=ρ x
def Qhu (ρ:Operand→SV):Callee→Option FuncId
 | .value f=>match ρ f with
  | .cv (.one (.gfn g))=>some g
  | _=>none
 | _=>none
def Qjt:(t:Ty)→t.den→SV:=fun t x=>.cv (Qay t x)
def Q70 (o:Lab→Option Ob):(ts:List Ty)→List SV→Option (Zg ts × List Lab)
 | [],[]=>some ((),[])
 | t::r,.cv c::q=>(Q1f o t c).bind fun x=>(Q70 o r q).bind fun z=>some ((x,z.1),Qi (Qg (Xs c) [])++z.2)
 | _,_=>none
def Q9z:(ts:List Ty)→Zg ts→List CV
 | [],_=>[]
 | t::r,x=>Qay t x.1::Q9z r x.2
def Qdv (cs:List CV):SV:=
 match cs with
 | [c]=>.cv c
 | cs=>.tup cs
def Qf8 (l:Lab) (t:Ty) (x:t.den):SV→SV
 | .cv (.one (.ptr m 0))=>bif Xl m l then .ep t x else .cv (.one (.ptr m 0))
 | v=>bif Xu l (Qe v) then .dead else v
def frzBox (st:St) (l:Lab) (T:TypeId) (τ:Tab):Option (St × (t:Ty) × t.den):=
 match Q0 st.objs l with
 | some (.box T' vs)=>(τ.ty T').bind fun t=>(match Q1s (fun _=>none) t vs with | some (x,[])=>some x | _=>none).bind fun x=>
   some (({ slots:=st.slots.map fun (p:Nat × SV)=>(p.1,Qf8 l t x p.2),objs:=Jr st.objs l }:St),(⟨t,x⟩:(t:Ty) × t.den))
 | _=>none
def Qha:(ts:List Ty)→List (Σ t:Ty,t.den)→Option (Zg ts)
 | [],[]=>some ()
 | t::r,⟨t',x⟩::q=>(Zi t' t x).bind fun y=>(Qha r q).bind fun z=>some (y,z)
 | _,_=>none
def Qu:List PK→List Ty × List Ty
 | []=>([],[])
 | .val t::r=>let z:=Qu r;(t::z.1,z.2)
 | .rbox t::r=>let z:=Qu r;(z.1,t::z.2)
 | _::r=>Qu r
def Q7z:(ps:List PK)→Zg (Qu ps).1→Zg (Qu ps).2→Option (PDs ps)
 | [],_,_=>some ()
 | .val t::r,x,y=>(Q7z r x.2 y).bind fun z=>some (x.1,z)
 | .rbox t::r,x,y=>(Q7z r x y.2).bind fun z=>some (y.1,z)
 | .box _ _ _::r,_,_=>none
 | .fn _ _::r,_,_=>none
 | .own _ _::r,_,_=>none
 | .ownc _ _::r,_,_=>none
 | .ownh _ _::r,_,_=>none
 | .io _ _::r,_,_=>none
def Xh:List PK→Bool
 | .val _::r=>Xh r
 | l=>l.all fun p=>match p with | .rbox _=>true | _=>false
def Qbe (e:Ent) (y:Zg (Qu e.ps).2) (rs:List Ty):Zg (Qu e.ps).1→Option (Zg rs):=fun x=>
 (Q7z e.ps x y).bind fun z=>(e.G z).bind fun r=>Qee e.rs r.1 rs
def Jx (Γ:Ctx) (τ:Tab) (f:FuncId):St→List SV→List (Σ t:Ty,t.den)→Option (St × LV)
 | st,[],cs=>(Q8t Γ f).bind fun e=>bif Xh e.ps&&e.rs.all Q0f then
   (Qha (Qu e.ps).2 cs).bind fun y=>some (st,.clo (Qu e.ps).1 (e.rs.map (·.t)) (Qbe e y (e.rs.map (·.t)))) else none
 | st,.cv (.one (.ptr l 0))::r,cs=>(frzBox st l 0 τ).bind fun p=>Jx Γ τ f p.1 r (cs++[p.2])
 | st,.ep t x::r,cs=>Jx Γ τ f st r (cs++[⟨t,x⟩])
 | _,_,_=>none
def Q6m (Γ:Ctx):Bool:=match Γ with
 | (_,e)::_=>(match e.ps with | [.val .unit]=>true | _=>false)
 | []=>false
def Qjh:Ent:=⟨[.val .unit],[],fun _=>none⟩
def Qgk (o:Lab→Option Ob):SV→Bool
 | .win _ _ _ _=>true
 | .cv (.one (.ref l))=>(match o l with | some (.row _ _ _)=>true | some (.mem _ _ _ _ _)=>true | _=>false)
 | _=>false
def Q78 (mx:Option Int) (l:Lab) (lo:Nat) (a b:Int) (sz:Nat):SV:=
 match mx with
 | none=>.win l (lo+a.toNat) (b - a).toNat sz
 | some _=>.dead
def Q2i (mx:Option Int) (a b:Int) (room:Nat):Bool:=
 match mx with
 | none=>decide (0≤a)&&decide (a≤b)&&decide (b≤(room:Int))
 | some m=>decide (0≤a)&&decide (a≤b)&&decide (b≤m)&&decide (m≤(room:Int))
def Q7a (τ:Tab) (o:Lab→Option Ob) (T:TypeId) (x:SV) (a b:Int) (mx:Option Int):Res:=
 match τ.td T with
 | some (.slc eT)=>(τ.ty eT).bind fun e0=>match x with
  | .cv (.one (.ref l))=>(match o l with
   | some (.row eT' e xs)=>bif Nat.beq eT eT'&&Ty.beq e0 e then
     some (Q2i mx a b xs.length,Q78 mx l 0 a b e.cells,[(l,.mem eT' e (xs.map some) xs.length false)]) else none
   | some (.mem eT' e ys n0 ex)=>bif Nat.beq eT eT'&&Ty.beq e0 e then
     some (Q2i mx a b ys.length,Q78 mx l 0 a b e.cells,[]) else none
   | _=>none)
  | .win l lo n sz=>(match o l with
   | some (.mem eT' e ys n0 ex)=>bif Nat.beq eT eT'&&Ty.beq e0 e&&Nat.beq sz e.cells&&(Nat.beq lo 0||Nat.ble lo ys.length) then
     some (Q2i mx a b (ys.length - lo),Q78 mx l lo a b sz,[]) else none
   | _=>none)
  | _=>none
 | _=>none
def Qed (ρ:Operand→SV) (hi x:Option Operand):Option (Option Int):=
 match x,hi with
 | none,_=>some none
 | some _,none=>none
 | some y,some _=>(J4 (ρ y)).bind fun v=>(Xg v).bind fun p=>some (some p.2)
def Q8e (τ:Tab) (T:TypeId):Bool:=match τ.td T with | some (.slc _)=>true | _=>false
def qn:Option Nat→Nat→Nat
 | none,n=>n
 | some q,n=>min q n
def Qif {α:Type}:Option Nat→List α→List α
 | none,zs=>zs
 | some q,zs=>zs.take q
def Qbr (τ:Tab) (o:Lab→Option Ob) (eT:TypeId) (e:Ty) (T':TypeId) (q:Option Nat) (x:SV):Option (List e.den):=
 match x with
 | .win l lo n sz=>(match o l with
  | some (.mem eT' e' ys n0 ex)=>bif Nat.beq eT eT'&&Nat.beq sz e'.cells&&Nat.ble (lo+n) ys.length&&Q8e τ T' then
    (Qd ((ys.drop lo).take (qn q n))).bind fun zs=>Zi (.sl eT e') (.sl eT e) zs else none
  | _=>none)
 | .cv (.one v)=>(match τ.td T' with | some (.slc _)=>Q8a τ o eT e T' v | _=>none).bind fun zs=>some (Qif q zs)
 | _=>none
def Q99 {R:Type} (τ:Tab) (o:Lab→Option Ob) (eT:TypeId) (e:Ty) (T':TypeId) (q:Option Nat) (x:SV) (k:List e.den→Option R):Option R:=
 match x with
 | .win l lo n sz=>(match o l with
  | some (.mem eT' e' ys n0 ex)=>bif Nat.beq eT eT'&&Nat.beq sz e'.cells&&Q8e τ T' then
    bif Nat.ble (lo+n) ys.length then (Qd ((ys.drop lo).take (qn q n))).bind fun zs=>(Zi (.sl eT e') (.sl eT e) zs).bind k else none
   else none
  | _=>none)
 | .cv (.one v)=>(match τ.td T' with | some (.slc _)=>Q8a τ o eT e T' v | _=>none).bind fun zs=>k (Qif q zs)
 | _=>none
theorem X8 {R:Type} (τ:Tab) (o:Lab→Option Ob) (eT:TypeId) (e:Ty) (T':TypeId) (q:Option Nat) (x:SV) (k:List e.den→Option R) :
  Q99 τ o eT e T' q x k=(Qbr τ o eT e T' q x).bind k:=by
 unfold Q99 Qbr
 split
 ·split
  ·rename_i eT' e' ys n0 ex _
   cases Nat.beq eT eT'<;>cases Nat.beq _ e'.cells<;>cases Q8e τ T'<;>cases Nat.ble _ ys.length<;>first | rfl | (simp only [Bool.and_true,cond_true];cases Qd ((ys.drop _).take (qn q _))<;>rfl)
  ·rfl
 ·rw [Option.bind_assoc];rfl
 ·rfl
def Qdr (τ:Tab) (e:Ty) (T':TypeId) (x:SV):Option (Bool × List e.den):=
 match τ.td T' with
 | some (.int _)=>(J4 x).bind fun v=>(Xg v).bind fun p=>some (decide (0<p.2),List.replicate p.2.toNat e.dflt)
 | _=>none
def Q2h (τ:Tab) (T:TypeId) (eT:TypeId) (e:Ty):Bool:=
 match τ.td T with
 | some (.slc eT')=>Nat.beq eT eT'&&(match τ.ty eT' with | some e'=>Ty.beq e' e | none=>false)
 | _=>false
def Q01 {R:Type} (τ:Tab) (st:St) (ρ:Operand→SV) (d:Nat) (s x:Operand) (T T':TypeId) (k:SV→List Lab→Upd→Option R):Option R:=
 match τ.td T with
 | some (.slc eT)=>(τ.ty eT).bind fun e=>(J4 (ρ s)).bind fun sv=>(Q6w (Q0 st.objs) eT e sv).bind fun b=>Q99 τ (Q0 st.objs) eT e T' none (ρ x) fun ys=>
   bif b.1.all (fun l=>!(Xu l (Qe (ρ x))))&&Nat.ble (b.2.length+ys.length) 1073741824 then k (.cv (.one (.ref (d,0)))) b.1 [((d,0),.row eT e (b.2++ys))] else none
 | _=>none
def Qc9 (τ:Tab) (o:Lab→Option Ob) (g:FuncId):List SV→Option Unit
 | [.cv (.one (.ref l)),.win m lo n sz]=>match τ.td (2000000000+g),o l,o m with
  | some (.ovl f),some (.row _ _ _),some (.mem _ _ _ _ _)=>bif Xl l m||!(Nat.beq f g) then none else some ()
  | _,_,_=>none
 | _=>none
def Qgy (τ:Tab) (W:TypeId) (k:IntKind) (c:Int):Bool:=match τ.ty W with
 | some t=>(match Q47 t [.int k c] with | some (_,[])=>true | _=>false)
 | none=>true
def Qeo (τ:Tab) (o:Lab→Option Ob) (g:FuncId):List SV→Option (Bool × IV × Lab × Int × Nat)
 | [.cv (.one (.ptr l 0)),.cv (.one v)]=>(Xg v).bind fun p=>match τ.td (3000000000+g),o l with
  | some (.elt f W k c sz),some (.box _ (.ref m::_))=>(match o m with
   | some (.row _ e xs)=>bif Nat.beq f g&&Qgy τ W k c&&Nat.beq sz e.cells&&Nat.beq (Qq p.1) 3 then
     some (decide (p.2<1)||decide (p.2>(xs.length:Int)),IV.mk W [.int k c],m,p.2 - 1,sz) else none
   | _=>none)
  | _,_=>none
 | _=>none
def Qhq (τ:Tab) (m:String):List TypeId:=τ.filterMap fun r=>match r.2.1 with
 | .mth T n _=>bif decide (n=m) then some T else none
 | _=>none
def J0 {R:Type} (Γ:Ctx) (τ:Tab) (o:Lab→Option Ob) (d:Nat) (m:String) (v:IV) (args:List SV) (k:SV→List Lab→Upd→Option R):List TypeId→Option R
 | []=>none
 | T::r=>match τ.td (1000000000+T),τ.ty T with
  | some (.mth T' n f),some t=>bif decide (n=m)&&t.isAgg&&Nat.beq T' T then
    bif IV.is v T then (Q8t Γ f).bind fun e=>Q1l Γ o d e (.cv (.agg (lvs t (IV.val v t)))::args) k else J0 Γ τ o d m v args k r
   else none
  | _,_=>none
structure Q6o (o:Lab→Option Ob) where
 l:Lab
 lo:Nat
 n:Nat
 eT:TypeId
 e:Ty
 ys:List (Option e.den)
 n0:Nat
 ex:Bool
 is:o l=some (.mem eT e ys n0 ex)
def Q7t (o:Lab→Option Ob) (x:SV):Option (Q6o o):=
 match x with
 | .win l lo n sz=>match h:o l with
  | some (.mem eT e ys n0 ex)=>bif Nat.beq sz e.cells&&Nat.ble (lo+n) ys.length then some ⟨l,lo,n,eT,e,ys,n0,ex,h⟩ else none
  | _=>none
 | _=>none
def Q7y {R:Type} (o:Lab→Option Ob) (x:SV) (k:Q6o o→Option R):Option R:=
 match x with
 | .win l lo n sz=>match h:o l with
  | some (.mem eT e ys n0 ex)=>bif Nat.beq sz e.cells then bif Nat.ble (lo+n) ys.length then k ⟨l,lo,n,eT,e,ys,n0,ex,h⟩ else none else none
  | _=>none
 | _=>none
theorem Jl {R:Type} (o:Lab→Option Ob) (x:SV) (k:Q6o o→Option R):Q7y o x k=(Q7t o x).bind k:=by
 unfold Q7y Q7t
 split
 ·split
  ·rename_i eT e ys n0 ex _
   cases Nat.beq _ e.cells<;>cases Nat.ble _ ys.length<;>rfl
  ·rfl
 ·rfl
theorem Qil {R:Type} {o:Lab→Option Ob} {x:SV} {k:Q6o o→Option R} {res:R} (h:Q7y o x k=some res):∃ r,Q7t o x=some r∧k r=some res:=by
 rw [Jl] at h;exact Option.bind_eq_some_iff.1 h
theorem Qir {R:Type} {τ:Tab} {o:Lab→Option Ob} {eT:TypeId} {e:Ty} {T':TypeId} {q:Option Nat} {x:SV} {k:List e.den→Option R} {res:R} (h:Q99 τ o eT e T' q x k=some res):∃ r,Qbr τ o eT e T' q x=some r∧k r=some res:=by
 rw [X8] at h;exact Option.bind_eq_some_iff.1 h
def Q6x (Γ:Ctx) (ob:Lab→Option Ob) (ρ:Operand→SV) (o:Oper):List Lab:=
 match o.op with
 | .buildSlice _ _ parts=>parts.toList.flatMap fun p=>(Qe (ρ p.2)).filter fun l=>!(Nat.beq l.2 77777)
 | .store _ x v=>(match ρ x with | .ap _ _ _ _=>Qe (ρ v) | _=>[])
 | .slice _ x _ _ _=>bif Q6m Γ then [] else Qe (ρ x)
 | .call c=>(match Qhu ρ c.callee with
  | some f=>(match Q8t Γ f with
   | some e=>bif Q8y e then ((c.args.toList.zip e.ps).flatMap fun (p:Operand × PK)=>match p.2 with
     | .val _=>Qe (ρ p.1)
     | .box _ _ own=>(match ρ p.1 with | .cv (.one (.ptr l 0))=>(match ob l with | some (.box _ vs)=>Qi (Qg vs own) | _=>[]) | _=>[])
     | _=>[]) else []
   | none=>[])
  | none=>[])
 | _=>[]
def Qgn (st:St) (ls:List Lab):Bool:=ls.any fun l=>match Q0 st.objs l with | some (.row _ _ _)=>true | _=>false
def Jw (o:Oper):Bool:=match o.op with | .makeFunc _ _ _=>true | _=>false
def Z3 {R:Type} (st:St) (o:Oper) (v:SV) (del:List Lab) (u:Upd) (k:St→List Lab→Option R):Option R:=
 (Qs (delAll st del) (o.dst.getD 999999999) u).bind fun s=>k (Q26 s o.dst v) (del++u.map (·.1))
def Q5d (τ:Tab) (o:Lab→Option Ob) (sT dT:TypeId) (x:SV):Option (Bool × SV × List Lab):=
 match τ.td dT with
 | some (.slc eT)=>(match τ.td eT,τ.ty eT with
  | some (.int .u8),some (.int .u8)=>(J4 x).bind fun v=>(match τ.td sT with
   | some .str=>(Q2w v).bind fun s=>some (Nat.ble s.size 1073741824,.cv (.one (.pure (.sl eT (.int .u8)) (s.data.toList.map fun b=>(b.toNat:Int)))),[])
   | some (.slc _)=>(match v with
    | .ref l=>(match o l with
     | some (.row eT' e xs)=>bif Nat.beq sT dT&&Nat.beq eT' eT&&!(List.isEmpty xs) then some (true,.cv (.one (.pure (.sl eT e) xs)),[l]) else none
     | _=>none)
    | _=>none)
   | _=>none)
  | _,_=>none)
 | _=>none
def Q3a (τ:Tab) (d:Nat) (sT dT:TypeId) (x:SV):Option (Bool × SV × Upd):=
 match τ.td dT with
 | some (.slc eT)=>(match τ.td eT,τ.ty eT with
  | some (.int .u8),some (.int .u8)=>(match τ.td sT with
   | some .str=>(J4 x).bind fun v=>(Q2w v).bind fun s=>some (Nat.ble s.size 1073741824,.cv (.one (.ref (d,0))),[((d,0),.arr eT (.int .u8) (s.data.toList.map fun b=>(b.toNat:Int)))])
   | _=>none)
  | _,_=>none)
 | _=>none
def Zp {R:Type} (Γ:Ctx) (τ:Tab) (kn:List (Nat × Bool)) (st:St) (o:Oper) (k:St→List Lab→Option R):Option R:=
  let ρ:=Qb st.slots
  let d:=o.dst.getD 999999999
  match o.op with
  | .slice T x lo hi mx=>bif Q6m Γ&&Qgk (Q0 st.objs) (ρ x) then
    (Q2s (Q0 st.objs) (ρ x)).bind fun n=>(Q0d ρ lo 0).bind fun a=>(Q0d ρ hi n).bind fun b=>(Qed ρ hi mx).bind fun m=>
     (Q7a τ (Q0 st.objs) T (ρ x) a b m).bind fun r=>bif r.1 then Z3 st o r.2.1 [] r.2.2 k else none
   else (ev1 τ kn ρ (Q0 st.objs) d (.slice T x lo hi mx) o.type).bind fun r=>bif r.1 then Z3 st o r.2.1 [] r.2.2 k else none
  | .call { callee:=.builtin .cap,args:=args,argTypes:=ts }=>match args.toList,ts.toList with
   | [x],[T]=>Q7y (Q0 st.objs) (ρ x) fun r=>bif Q2h τ T r.eT r.e&&r.ex then Z3 st o (.cv (.one (.pure (.int .i64) ((r.ys.length - r.lo:Nat):Int)))) [] [] k else none
   | _,_=>none
  | .call { callee:=.builtin .copy,args:=args,argTypes:=ts }=>match args.toList,ts.toList with
   | [x,y],[T,T']=>Q7y (Q0 st.objs) (ρ x) fun r=>bif Q2h τ T r.eT r.e then
     Q99 τ (Q0 st.objs) r.eT r.e T' (some r.n) (ρ y) fun zs=>
      Z3 st o (.cv (.one (.pure (.int .i64) (zs.length:Int)))) [] [(r.l,.mem r.eT r.e (Q6 r.ys r.lo zs) r.n0 r.ex)] k else none
   | _,_=>none
  | .call { callee:=.builtin .clear,args:=args,argTypes:=ts }=>match args.toList,ts.toList with
   | [x],[T]=>Q7y (Q0 st.objs) (ρ x) fun r=>bif Q2h τ T r.eT r.e then
     Z3 st o (.tup []) [] [(r.l,.mem r.eT r.e (Q6 r.ys r.lo (List.replicate r.n r.e.dflt)) r.n0 r.ex)] k else none
   | _,_=>none
  | .call { callee:=.builtin .append,args:=args,argTypes:=ts }=>match args.toList,ts.toList with
   | [s,x],[T,T']=>match ρ s with
    | .win _ _ _ _=>Q7y (Q0 st.objs) (ρ s) fun r=>bif Q2h τ T r.eT r.e&&Nat.beq r.lo 0 then
      match Qdr τ r.e T' (ρ x) with
      | some z=>bif z.1&&r.ex&&Nat.blt r.ys.length (r.n+z.2.length)&&Nat.ble (r.ys.length+z.2.length) 536870912 then
        Z3 st o (.win (d,0) 0 (r.n+z.2.length) r.e.cells) [] [((d,0),.mem r.eT r.e (r.ys.take r.n++z.2.map some) (r.n+z.2.length) false)] k else none
      | none=>Q99 τ (Q0 st.objs) r.eT r.e T' none (ρ x) fun zs=>
        bif Nat.ble (r.n+zs.length) r.ys.length then Z3 st o (.win r.l 0 (r.n+zs.length) r.e.cells) [] [(r.l,.mem r.eT r.e (Q6 r.ys r.n zs) r.n0 r.ex)] k
        else bif r.ex&&Nat.ble (r.n+zs.length) 1073741824 then
         (Qd (r.ys.take r.n)).bind fun xs=>Z3 st o (.cv (.one (.ref (d,0)))) [] [((d,0),.row r.eT r.e (xs++zs))] k else none
     else none
    | _=>match ρ x with
     | .win _ _ _ _=>Q01 τ st ρ d s x T T' fun v del u=>Z3 st o v del u k
     | _=>(bif isL (Q0 st.objs) (ρ x) then Q5m τ st ρ d s x T T' else Q81 τ st ρ d s x T T').bind fun r=>bif r.1 then Z3 st o r.2.1 r.2.2.1 r.2.2.2 k else none
   | _,_=>none
  | .call { callee:=.invoke r m,args:=args,argTypes:=_ }=>match ρ r with
   | .cv (.one (.pure .ifc v))=>J0 Γ τ (Q0 st.objs) d m v (args.toList.map ρ) (fun x del u=>Z3 st o x del u k) (Qhq τ m)
   | _=>none
  | .call { callee:=.value f,args:=args,argTypes:=_ }=>match ρ f with
   | .cv (.one (.gfn g))=>match Q8t Γ g with
    | some e=>Q1l Γ (Q0 st.objs) d e (args.toList.map ρ) fun v del u=>Z3 st o v del u k
    | none=>match Qeo τ (Q0 st.objs) g (args.toList.map ρ) with
     | some z=>bif z.1 then Z3 st o (.tupn z.2.1) [] [] k else Z3 st o (.tupe z.2.2.1 z.2.2.2.1 z.2.2.2.2) [] [] k
     | none=>(Qc9 τ (Q0 st.objs) g (args.toList.map ρ)).bind fun _=>Z3 st o (.cv (.one (.lit false))) [] [] k
   | .cv (.one (.clo ps rs g))=>(Q70 (Q0 st.objs) ps (args.toList.map ρ)).bind fun a=>bif a.2.all (Q0g (Q0 st.objs)) then (g a.1).bind fun r=>Z3 st o (Qdv (Q9z rs r)) [] [] k else none
   | _=>none
  | .makeFunc fn first captured=>match fn,first.toList with
   | .func f,[]=>(Jx Γ τ f st (captured.toList.map ρ) []).bind fun p=>Z3 p.1 o (.cv (.one p.2)) [] [] k
   | _,_=>none
  | .convert sT dT x=>match (bif Q6m Γ then Q3a τ d sT dT (ρ x) else none) with
   | some r=>bif r.1 then Z3 st o r.2.1 [] r.2.2 k else none
   | none=>match Q5d τ (Q0 st.objs) sT dT (ρ x) with
   | some r=>bif r.1 then Z3 st o r.2.1 r.2.2 [] k else none
   | none=>(ev1 τ kn ρ (Q0 st.objs) d (.convert sT dT x) o.type).bind fun r=>bif r.1 then Z3 st o r.2.1 [] r.2.2 k else none
  | op=>(ev1 τ kn ρ (Q0 st.objs) d op o.type).bind fun r=>bif r.1 then Z3 st o r.2.1 [] r.2.2 k else none
def Q41 {R:Type} (Γ:Ctx) (τ:Tab) (kn:List (Nat × Bool)) (st0:St) (o:Oper) (k:St→List Lab→Option R):Option R:=
 (Q1o st0 (Q6x Γ (Q0 st0.objs) (Qb st0.slots) o)).bind fun st=>
  Zp Γ τ kn st o fun s W=>k s ((bif Qgn st0 (Q6x Γ (Q0 st0.objs) (Qb st0.slots) o)||Jw o then st0.objs.map (·.1) else [])++W)
noncomputable def Q62 {R:Type} (kn:List (Nat × Bool)) (t:Nat) (v:SV) (k:List (Nat × Bool)→Bool→Option R):Option R:=
 match Q5e kn t with
 | some b=>k kn b
 | none=>match v with
  | .cv (.one (.lit b))=>k kn b
  | .cv (.one (.pure .bool x))=>bif x then k ((t,true)::kn) true else k ((t,false)::kn) false
  | .cv (.one (.nb ne))=>bif ne then k ((t,false)::kn) false else Q3f (k ((t,true)::kn) true) (k ((t,false)::kn) false)
  | _=>none
noncomputable def Q1h {R:Type} (Γ:Ctx) (τ:Tab) (all:List Oper):List Oper→List (Nat × Bool)→St→(St→Option R)→Option R
 | [],_,st,k=>k st
 | o::r,kn,st,k=>
  match o.guard with
  | none=>Q41 Γ τ kn st o fun s _=>Q1h Γ τ all r (Q27 kn o.dst) s k
  | some (i,want)=>match (all[i]?).bind (·.dst) with
   | none=>none
   | some t=>match Q9 st.slots t with
    | .skip=>Q1h Γ τ all r (Q27 kn o.dst) (Q26 st o.dst .skip) k
    | v=>Q62 kn t v fun kn' b=>
     match b,want with
     | true,true=>Q41 Γ τ kn' st o fun s _=>Q1h Γ τ all r (Q27 kn' o.dst) s k
     | false,false=>Q41 Γ τ kn' st o fun s _=>Q1h Γ τ all r (Q27 kn' o.dst) s k
     | _,_=>Q1h Γ τ all r (Q27 kn' o.dst) (Q26 st o.dst .skip) k
def Qh5 (l:List Operand):List Nat:=l.filterMap fun x=>match x with | .tmp t=>some t | _=>none
def Xf (all:List Oper) (o:Oper):List Nat:=
 Qh5 o.op.operands.toList++(match o.guard with | some (i,_)=>((all[i]?).bind (·.dst)).toList | none=>[])
def Zf (o:Oper):List Nat:=o.dst.toList
def Q5z (a b:List Nat):Bool:=a.all fun t=>!(Q7u t b)
def Qam (acc:List Nat) (es:List Edge):Nat:=es.foldl (fun s e=>bif Region.binds .any e then s ||| 2 ^ e.on ||| acc.getD e.on 0 else s) 0
def Q1y:List Oper→List Nat→List Nat
 | [],acc=>acc
 | o::r,acc=>Q1y r (acc++[Qam acc o.after.toList])
def Q03 (bf:List Nat) (i j:Nat):Bool:=(bf.getD j 0).testBit i
def Q9l (all:List Oper) (x y:Oper):Bool:=
 Q5z (Zf x) (Xf all y)&&Q5z (Zf y) (Xf all x)&&Q5z (Zf x) (Zf y)
def Q5u (bf:List Nat) (all:List Oper):Bool:=
 all.zipIdx.all fun p=>all.zipIdx.all fun q=>bif Nat.blt p.2 q.2 then Q03 bf p.2 q.2||Q9l all p.1 q.1 else true
structure Tr where
 i:Nat
 rd:List Lab
 wr:List Lab
def Qiv (bf:List Nat) (ts:List Tr) (x:Tr):Bool:=
 ts.all fun t=>Q03 bf t.i x.i||(Q2v t.wr x.rd&&Q2v t.wr x.wr&&Q2v x.wr t.rd)
def Q4d:List Lab→List Lab
 | []=>[]
 | l::r=>bif Xu l r then Q4d r else l::Q4d r
def Q7l (st:St) (ts:List Nat):List Lab:=
 let a:=ts.flatMap fun t=>Qe (Q9 st.slots t)
 Q4d (a++a.flatMap fun l=>match Q0 st.objs l with | some b=>Z0 b | none=>[])
def Q9n (st:St) (ts:List Nat) (ls:List Lab):St:=
 {slots:=ts.map fun t=>(t,Q9 st.slots t),objs:=ls.filterMap fun l=>(Q0 st.objs l).map fun b=>(l,b) }
def Qem (st:St) (ls W:List Lab) (s:St) (dst:Option Nat):St:=
 {slots:=(match dst with | some d=>[(d,Q9 s.slots d)] | none=>[])++st.slots,objs:=s.objs++(delAll st (ls++W)).objs }
def within (ls:List Lab) (dst:Option Nat) (l:Lab):Bool:=Xu l ls||(match dst with | some d=>Nat.beq l.1 d | none=>false)
def Qek (ls rf r2:List Lab) (dst:Option Nat) (s:St) (W:List Lab):Bool:=
 (match dst with | some d=>(Qe (Q9 s.slots d)).all (fun l=>Xu l rf||(within ls dst l||Xu l r2)) | none=>true) &&
 s.objs.all (fun p=>within ls dst p.1&&(Z0 p.2).all (fun l=>within ls dst l||Xu l r2))&&W.all (within ls dst)
def Qec (all:List Oper):List Nat:=
 all.flatMap fun o=>(match o.guard with | some (i,_)=>((all[i]?).bind (·.dst)).toList | none=>[]) ++
  (match o.op with | .pick (.tmp t) _ _=>[t] | _=>[])
def split {R:Type} (all:List Oper) (dst:Option Nat) (s:St) (k:St→Option R):Option R:=
 match dst with
 | none=>k s
 | some d=>bif Q7u d (Qec all) then
   (match Q9 s.slots d with
    | .cv (.one (.pure .bool x))=>bif x then k (Q26 s (some d) (.cv (.one (.lit true)))) else k (Q26 s (some d) (.cv (.one (.lit false))))
    | _=>k s)
   else k s
def Qbd (o:Oper):Bool:=match o.op with | .move _=>true | .assign _=>true | .nilCheck _=>true | .fieldAddr _ _ _=>true | _=>false
def Qb9 (st:St) (o:Oper):Bool:=match o.op with
 | .load _ x=>(match Qb st.slots x with | .cv (.one (.ptr _ _))=>true | _=>false)
 | _=>false
def Q7x (st:St) (all:List Oper) (o:Oper):List Lab:=bif Qbd o then [] else bif Qb9 st o then Q4d ((Xf all o).flatMap fun t=>Qe (Q9 st.slots t)) else Q7l st (Xf all o)
def Qgl (st:St) (ls:List Lab):List Lab:=ls.flatMap fun l=>match Q0 st.objs l with | some b=>Z0 b | none=>[]
def Qiw (st:St) (all:List Oper) (o:Oper):List Lab:=(Xf all o).flatMap fun t=>Qe (Q9 st.slots t)
def Qae {R:Type} (Γ:Ctx) (τ:Tab) (bf:List Nat) (all:List Oper):List Oper→Nat→List Tr→St→(St→Option R)→Option R
 | [],_,_,st,k=>k st
 | o::r,i,ts,st,k=>
  let go:=fun (_:Unit)=>
   let tl:=Xf all o
   let ls:=Q7x st all o
   Q41 Γ τ [] (Q9n st tl ls) o fun s W=>
    let x:Tr:={ i:=i,rd:=ls,wr:=W }
    bif Qiv bf ts x&&Qek ls (Qiw st all o) (Qgl st ls) o.dst s W then
     split all o.dst s fun s'=>Qae Γ τ bf all r (i+1) (x::ts) (Qem st ls W s' o.dst) k else none
  match o.guard with
  | none=>go ()
  | some (g,want)=>match (all[g]?).bind (·.dst) with
   | none=>none
   | some t=>match Q9 st.slots t with
    | .skip=>Qae Γ τ bf all r (i+1) ts (Q26 st o.dst .skip) k
    | .cv (.one (.lit b))=>bif (b==want) then go () else Qae Γ τ bf all r (i+1) ts (Q26 st o.dst .skip) k
    | _=>none
def Q89 (st:St) (d:Nat):Bool:=
 st.objs.all (fun p=>!(Nat.beq p.1.1 d)&&(Z0 p.2).all fun l=>!(Nat.beq l.1 d))&&st.slots.all fun p=>(Qe p.2).all fun l=>!(Nat.beq l.1 d)
def Q39:List Nat→Bool
 | []=>true
 | t::r=>!(Q7u t r)&&Q39 r
def Qat (all:List Oper):Bool:=all.zipIdx.all fun p=>p.1.after.toList.all fun e=>!(Region.binds .any e)||Nat.blt e.on p.2
def Qdg (st:St) (all:List Oper):Bool:=
 Q39 (all.flatMap Zf)&&!(Q7u 999999999 (all.flatMap Zf))&&(999999999::all.flatMap Zf).all (Q89 st)&&Qat all
def Qe5 {R:Type} (Γ:Ctx) (τ:Tab) (ops:Array Oper) (st:St) (k:St→Option R):Option R:=
 bif Q5u (Q1y ops.toList []) ops.toList&&Qdg st ops.toList then Qae Γ τ (Q1y ops.toList []) ops.toList ops.toList 0 [] st k else none
inductive EX where
 | normal
 | exit (id:Nat)
 | ret
structure Fi where
 keep:List Nat
 vty:List (Nat × TypeId)
 vals:List (Nat × Nat)
 live:List (Nat × List Nat):=[]
 melt:List (Nat × Nat):=[]
 cap:Nat:=0
def trim (ks:List Nat) (s:List (Nat × SV)):List (Nat × SV):=
 ks.filterMap fun t=>match Q9 s t with
  | .dead=>none
  | .skip=>none
  | v=>some (t,v)
def Qbc:List (Nat × TypeId)→Nat→Option TypeId
 | [],_=>none
 | (u,T)::r,t=>bif Nat.beq u t then some T else Qbc r t
def Q5h (p:Nat × Nat):List (Nat × Nat)→Bool
 | []=>false
 | m::r=>(Nat.beq m.1 p.1&&Nat.beq m.2 p.2)||Q5h p r
def slotSet (st:St) (t:Nat) (v:SV):St:={ st with slots:=st.slots.map fun p=>bif Nat.beq p.1 t then (t,v) else p }
def Q9y:Ty→List Ty
 | .pair a b=>Q9y a++Q9y b
 | .unit=>[]
 | t=>[t]
def Jp (fi:Fi) (t:Nat) (l:Lab):List LV→List Ty→Nat→St→Option St
 | .nil::r,ty::q,j,st=>match ty with
  | .sl eT e=>match Q0 st.objs l with
   | some (.box T' vs)=>match vs[j]? with
    | some .nil=>bif Q5h (t,j+1) fi.vals then Jp fi t l r q (j+1) { st with objs:=Q43 st.objs l (.box T' (vs.set j (.pure (.sl eT e) []))) }
     else bif Zy st (l.1,j+1)&&Nat.blt 0 e.cells then
      Jp fi t l r q (j+1) { st with objs:=((l.1,j+1),.row eT e [])::Q43 st.objs l (.box T' (vs.set j (.ref (l.1,j+1)))) }
     else none
    | _=>none
   | _=>none
  | _=>none
 | .ref m::r,_::q,j,st=>bif Q5h (t,j+1) fi.vals then (frz st m).bind fun s=>Jp fi t l r q (j+1) s
   else (ren st m (l.1,j+1)).bind fun s=>Jp fi t l r q (j+1) s
 | _::r,_::q,j,st=>Jp fi t l r q (j+1) st
 | _,_,_,st=>some st
def Q8h (t:Nat):Lab:=(888888,t)
def Q9u (t:Nat):List LV→Nat→St→Option St
 | .ref k::r,i,st=>(ren st k (700000+t,i)).bind fun s=>Q9u t r (i+1) s
 | _::r,i,st=>Q9u t r (i+1) st
 | [],_,st=>some st
def Qfy (t:Nat) (st:St):Option St:=
 match Q0 st.objs (Q8h t) with
 | some (.lrow _ vs)=>Q9u t vs 0 st
 | _=>some st
def Zz (τ:Tab) (fi:Fi):List Nat→St→Option St
 | [],st=>some st
 | t::r,st=>match Q9 st.slots t with
  | .cv (.one .nil)=>bif Q5h (t,999) fi.vals then Zz τ fi r st else (Qbc fi.vty t).bind fun T=>match τ.td T with
   | some (.slc eT)=>(τ.ty eT).bind fun e=>bif Q5h (t,0) fi.vals then Zz τ fi r (slotSet st t (.cv (.one (.pure (.sl eT e) []))))
     else bif Zy st (Q8h t) then Zz τ fi r { (slotSet st t (.cv (.one (.ref (Q8h t))))) with objs:=(Q8h t,.row eT e [])::st.objs } else none
   | _=>none
  | .cv (.one (.ref l))=>bif Q5h (t,0) fi.vals then (frz st l).bind fun s=>Zz τ fi r s else (ren st l (Q8h t)).bind fun s=>(Qfy t s).bind fun s=>Zz τ fi r s
  | .cv (.one (.lit b))=>Zz τ fi r (slotSet st t (.cv (.one (.pure .bool b))))
  | .cv (.one (.ptr l 0))=>(match Q0 st.objs l with
    | some (.box T vs)=>(τ.ty T).bind fun ty=>Jp fi t l vs (Q9y ty) 0 st
    | _=>some st).bind fun s=>Zz τ fi r s
  | _=>Zz τ fi r st
def Qg0 (st:St):List Lab:=
 let a:=st.slots.flatMap fun p=>Qe p.2
 (a.flatMap fun l=>l::(match Q0 st.objs l with | some b=>Z0 b | none=>[]))
def Q88 (st:St) (ls:List Lab):St:={ st with objs:=ls.filterMap fun l=>(Q0 st.objs l).map fun b=>(l,b) }
def Qg2 (s:List (Nat × SV)):List Nat:=s.map (·.1)
def Qfk (τ:Tab) (fi:Fi) (ks:List Nat) (st:St):Option St:=
 (Zz τ fi ks (Q88 { st with slots:=trim ks st.slots } (Q4d (Qg0 { st with slots:=trim ks st.slots })))).bind fun s=>some (Q88 s (Q4d (Qg0 s)))
noncomputable def Q75 {R:Type} (body:St→(EX→St→Option R)→Option R) (nm:St→Option St):Nat→St→(EX→St→Option R)→Option R
 | 0,_,_=>none
 | n+1,st,k=>body st fun e s=>match e with
  | .normal=>(nm s).bind fun s'=>Q75 body nm n s' k
  | e=>k e s
def Qew:List (Nat × List Nat)→Nat→Option (List Nat)
 | [],_=>none
 | (u,l)::r,t=>bif Nat.beq u t then some l else Qew r t
def Qdi (fi:Fi) (id:Nat):List Nat:=match Qew fi.live id with | some l=>l | none=>fi.keep
noncomputable def Xb {R:Type} (Γ:Ctx) (τ:Tab) (fi:Fi) (n:Nat):Code→St→(EX→St→Option R)→Option R
 | .skip,st,k=>k .normal st
 | .region id ops draw,st,k=>
  (Q3c fi.melt id st).bind fun st=>
  bif draw then Qe5 Γ τ ops st fun s=>k .normal { s with slots:=trim (Qdi fi id) s.slots }
  else Q1h Γ τ ops.toList ops.toList [] st fun s=>k .normal { s with slots:=trim (Qdi fi id) s.slots }
 | .seq a b,st,k=>Xb Γ τ fi n a st fun e s=>match e with
  | .normal=>Xb Γ τ fi n b s k
  | e=>k e s
 | .cond c a b,st,k=>match c with
  | .tmp t=>Q62 [] t (Q9 st.slots t) fun _ q=>match q with
   | true=>Xb Γ τ fi n a st k
   | false=>Xb Γ τ fi n b st k
  | .const (.bool true)=>Xb Γ τ fi n a st k
  | .const (.bool false)=>Xb Γ τ fi n b st k
  | _=>none
 | .block id b,st,k=>Xb Γ τ fi n b st fun e s=>match e with
  | .exit j=>bif Nat.beq j id then k .normal s else k (.exit j) s
  | e=>k e s
 | .loop b,st,k=>(Qfk τ fi (Qg2 st.slots) st).bind fun s=>Q75 (Xb Γ τ fi n b) (Qfk τ fi (Qg2 st.slots)) n s k
 | .exit id,st,k=>k (.exit id) st
 | .ret,st,k=>k .ret st
 | _,_,_=>none
def Zk:Nat→(ps:List PK)→PDs ps→List (Nat × SV)
 | _,[],_=>[]
 | i,.val t::r,x=>(i,.cv (Qay t x.1))::Zk (i+1) r x.2
 | i,.own _ _::r,x=>(i,.cv (.one (.ref (i,0))))::Zk (i+1) r x.2
 | i,.ownc _ e::r,x=>(i,.win (600000,0) 0 (List.length x.1) e.cells)::Zk (i+1) r x.2
 | i,.ownh _ e::r,x=>(i,.win (600000,0) 0 (List.length (α:=Option e.den) x.1) e.cells)::Zk (i+1) r x.2
 | i,.io _ _::r,x=>(i,.cv (.one (.ref (i,0))))::Zk (i+1) r x.2
 | i,.box _ _ _::r,x=>(i,.cv (.one (.ptr (i,0) 0)))::Zk (i+1) r x.2
 | i,.rbox t::r,x=>(i,.ep t x.1)::Zk (i+1) r x.2
 | i,.fn ps rs::r,x=>(i,.cv (.one (.clo ps rs x.1)))::Zk (i+1) r x.2
def Zl (c:Nat):Nat→(ps:List PK)→PDs ps→Upd
 | _,[],_=>[]
 | i,.val _::r,x=>Zl c (i+1) r x.2
 | i,.own eT e::r,x=>((i,0),.row eT e x.1)::Zl c (i+1) r x.2
 | i,.ownc eT e::r,x=>((600000,0),.mem eT e (List.map some x.1++List.replicate c none) (List.length x.1) true)::Zl c (i+1) r x.2
 | i,.ownh eT e::r,x=>((600000,0),.mem eT e (List.append (α:=Option e.den) x.1 (List.replicate c none)) (List.length (α:=Option e.den) x.1) true)::Zl c (i+1) r x.2
 | i,.io eT e::r,x=>((i,0),.row eT e x.1)::Zl c (i+1) r x.2
 | i,.box T t own::r,x=>((i,0),.box T (Ze i 1 (lvs t x.1) own).1)::(Ze i 1 (lvs t x.1) own).2++Zl c (i+1) r x.2
 | i,.rbox _::r,x=>Zl c (i+1) r x.2
 | i,.fn _ _::r,x=>Zl c (i+1) r x.2
def Jo:List PK→Bool
 | []=>true
 | .ownc _ _::_=>false
 | .ownh _ _::_=>false
 | _::r=>Jo r
def Qca:List PK→Bool
 | .ownc _ _::r=>Jo r
 | .ownh _ _::r=>Jo r
 | r=>Jo r
def Q2p:Nat→List PK→List Nat
 | _,[]=>[]
 | i,.box _ _ _::r=>i::Q2p (i+1) r
 | i,.io _ _::r=>i::Q2p (i+1) r
 | i,_::r=>Q2p (i+1) r
def X7 (n:Nat) (no:List Nat):Code→Bool
 | .region _ ops _=>ops.toList.all fun o=>match o.dst with | some d=>Nat.blt d n&&!(Q7u d no) | none=>true
 | .seq a b=>X7 n no a&&X7 n no b
 | .cond _ a b=>X7 n no a&&X7 n no b
 | .block _ b=>X7 n no b
 | .loop b=>X7 n no b
 | _=>true
def Qio (o:Lab→Option Ob) (k:RK) (v:SV):Option (k.t.den × List Lab × List Lab):=
 match k.ptr,v with
 | none,.cv c=>(Q1f o k.t c).bind fun x=>bif Q3d o (Qg (Xs c) k.own)&&Q0x (lvs k.t x) k.own then some (x,Zs (Qg (Xs c) k.own),Qi (Qg (Xs c) k.own)) else none
 | some T,.cv (.one (.ptr l 0))=>(Q5s o T k.t k.own l).bind fun x=>some (x.1,l::Zs (Qg x.2 k.own),Qi (Qg x.2 k.own))
 | _,_=>none
def Qfu (τ:Tab) (st:St):ResultVar→Option SV
 | .tmp t=>some (Q9 st.slots t)
 | .cell a T=>(Q7r τ (Q0 st.objs) T (Q9 st.slots a)).bind fun r=>bif r.1 then some r.2.1 else none
def Qh1 (τ:Tab) (st:St):(rs:List RK)→List ResultVar→Option (RDs rs × List Lab × List Lab)
 | [],[]=>some ((),[],[])
 | k::r,x::q=>(Qfu τ st x).bind fun v=>(Qio (Q0 st.objs) k v).bind fun a=>(Qh1 τ st r q).bind fun z=>
   some ((a.1,z.1),a.2.1++z.2.1,a.2.2++z.2.2)
 | _,_=>none
def Q2u (st:St):Nat→(ps:List PK)→Option (ODs ps × List Lab × List Lab)
 | _,[]=>some ((),[],[])
 | i,.box T t own::r=>match Q9 st.slots i with
  | .cv (.one (.ptr l 0))=>(Q5s (Q0 st.objs) T t own l).bind fun x=>
    (Q2u st (i+1) r).bind fun z=>some ((x.1,z.1),l::Zs (Qg x.2 own)++z.2.1,Qi (Qg x.2 own)++z.2.2)
  | _=>none
 | i,.val _::r=>Q2u st (i+1) r
 | i,.rbox _::r=>Q2u st (i+1) r
 | i,.fn _ _::r=>Q2u st (i+1) r
 | i,.own _ _::r=>Q2u st (i+1) r
 | i,.ownc _ _::r=>Q2u st (i+1) r
 | i,.ownh _ _::r=>Q2u st (i+1) r
 | i,.io eT e::r=>match Q9 st.slots i with
  | .cv (.one (.ref l))=>bif Nat.blt 0 e.cells then (Q0b (Q0 st.objs) eT e (.ref l)).bind fun x=>(Q2u st (i+1) r).bind fun z=>some ((x.1,z.1),x.2++z.2.1,z.2.2) else none
  | _=>none
def Q5a (st:St) (t:Nat):Option St:=
 match Q9 st.slots t with
 | .win l 0 n sz=>match Q0 st.objs l with
  | some (.mem eT e ys n0 ex)=>bif Nat.beq sz e.cells&&Zy st (777000,t)&&Nat.ble n ys.length then
    (Qd (ys.take n)).bind fun xs=>some { slots:=(t,.cv (.one (.ref (777000,t))))::st.slots,objs:=((777000,t),.row eT e xs)::Jr st.objs l } else none
  | _=>none
 | _=>some st
def Q20:List ResultVar→St→Option St
 | [],st=>some st
 | .tmp t::r,st=>(Q5a st t).bind fun s=>Q20 r s
 | .cell _ _::r,st=>Q20 r st
def Qa2 (τ:Tab) (ps:List PK) (rs:List RK) (fn:Func) (st:St):Option (RDs rs × ODs ps):=
 (Qh1 τ st rs fn.results.toList).bind fun a=>(Q2u st 0 ps).bind fun b=>
  bif Zt (a.2.1++b.2.1)&&Q2v (a.2.1++b.2.1) (a.2.2++b.2.2)&&(a.2.1++b.2.1).all (Q0g (Q0 st.objs))&&(a.2.2++b.2.2).all (Q0g (Q0 st.objs)) then some (a.1,b.1) else none
def Q80 {R:Type} (st:St) (t:Nat) (k:St→Option R):Option R:=
 match Q9 st.slots t with
 | .win l 0 n sz=>match Q0 st.objs l with
  | some (.mem eT e ys n0 ex)=>bif Nat.beq sz e.cells&&Zy st (777000,t) then bif Nat.ble n ys.length then
    (Qd (ys.take n)).bind fun xs=>k { slots:=(t,.cv (.one (.ref (777000,t))))::st.slots,objs:=((777000,t),.row eT e xs)::Jr st.objs l } else none else none
  | _=>none
 | _=>k st
theorem Qco {R:Type} (st:St) (t:Nat) (k:St→Option R):Q80 st t k=(Q5a st t).bind k:=by
 unfold Q80 Q5a
 split
 ·split
  ·rename_i eT e ys n0 ex _
   cases Nat.beq _ e.cells<;>cases Zy st (777000,t)<;>cases Nat.ble _ ys.length<;>first | rfl | (simp only [Bool.and_true,cond_true];rw [Option.bind_assoc];rfl)
  ·rfl
 ·rfl
def Q28 {R:Type}:List ResultVar→St→(St→Option R)→Option R
 | [],st,k=>k st
 | .tmp t::r,st,k=>Q80 st t fun s=>Q28 r s k
 | .cell _ _::r,st,k=>Q28 r st k
theorem Q2f {R:Type}:∀ (l:List ResultVar) (st:St) (k:St→Option R),Q28 l st k=(Q20 l st).bind k
 | [],st,k=>rfl
 | .tmp t::r,st,k=>by
  rw [Q28,Qco,Q20,Option.bind_assoc]
  congr 1;funext s;exact Q2f r s k
 | .cell _ _::r,st,k=>Q2f r st k
def Q4a (τ:Tab) (ps:List PK) (rs:List RK) (fn:Func) (st:St):Option (RDs rs × ODs ps):=Q28 fn.results.toList st fun s=>Qa2 τ ps rs fn s
theorem Qg7 (τ:Tab) (ps:List PK) (rs:List RK) (fn:Func) (st:St):Q4a τ ps rs fn st=(Q20 fn.results.toList st).bind fun s=>Qa2 τ ps rs fn s:=Q2f ..
noncomputable def Qde (Γ:Ctx) (τ:Tab) (fi:Fi) (n:Nat) (ps:List PK) (rs:List RK) (fn:Func) (x:PDs ps):Option (RDs rs × ODs ps):=
 match fn.body with
 | none=>none
 | some c=>bif X7 fn.ntmps (Q2p 0 ps) c&&Zt ((Zl fi.cap 0 ps x).map (·.1))&&Qca ps then
   Xb Γ τ { fi with keep:=Q2p 0 ps++fi.keep,cap:=0 } n c { slots:=Zk 0 ps x,objs:=Zl fi.cap 0 ps x } fun e s=>match e with
   | .normal=>Q4a τ ps rs fn s
   | .ret=>Q4a τ ps rs fn s
   | .exit _=>none
  else none
def Jg:Code→List (List Oper)
 | .region _ ops _=>[ops.toList]
 | .seq a b=>Jg a++Jg b
 | .cond _ a b=>Jg a++Jg b
 | .block _ b=>Jg b
 | .loop b=>Jg b
 | _=>[]
def Q2d:Code→List Nat
 | .seq a b=>Q2d a++Q2d b
 | .cond c a b=>Qh5 [c]++Q2d a++Q2d b
 | .block _ b=>Q2d b
 | .loop b=>Q2d b
 | _=>[]
def asks (all:List Oper):List Oper→List Nat→List Nat
 | [],_=>[]
 | o::r,made=>((Xf all o).filter fun t=>!(Q7u t made))++asks all r (match o.guard with | none=>Zf o++made | some _=>Zf o++made)
def Qh4:List Nat→List Nat
 | []=>[]
 | t::r=>t::((Qh4 r).filter fun u=>!(Nat.beq u t))
def Qgp (l:List ResultVar):List Nat:=l.map fun r=>match r with | .tmp t=>t | .cell a _=>a
def Qk4 (fn:Func) (vals:List (Nat × Nat)):Fi:=
 match fn.body with
 | none=>{ keep:=[],vty:=[],vals:=vals }
 | some c=>
  {keep:=Qh4 (Qgp fn.results.toList++Q2d c++(Jg c).flatMap fun l=>asks l l [])
   vty:=(Jg c).flatMap fun l=>l.filterMap fun o=>match o.op,o.dst with
    | .assign _,some d=>some (d,o.type)
    | .move _,some d=>some (d,o.type)
    | _,_=>none
   vals:=vals }
end Go.PE
set_option linter.unusedVariables false
namespace Go.PE
def Fr (X:Nat→Prop) (w w':World):Prop:=
 w'.os=w.os∧w'.tape=w.tape∧w'.output=w.output∧w.heap.size≤w'.heap.size∧∀ k,k<w.heap.size→¬ X k→w'.heap[k]?=w.heap[k]?
theorem Fr.refl (X:Nat→Prop) (w:World):Fr X w w:=⟨rfl,rfl,rfl,Nat.le_refl _,fun _ _ _=>rfl⟩
theorem Fr.trans {X:Nat→Prop} {a b c:World} (h:Fr X a b) (k:Fr X b c):Fr X a c:=
 ⟨k.1.trans h.1,k.2.1.trans h.2.1,k.2.2.1.trans h.2.2.1,Nat.le_trans h.2.2.2.1 k.2.2.2.1,fun i hi hx=>
  (k.2.2.2.2 i (Nat.lt_of_lt_of_le hi h.2.2.2.1) hx).trans (h.2.2.2.2 i hi hx)⟩
theorem Fr.trans' {X Y:Nat→Prop} {a b c:World} (h:Fr X a b) (k:Fr Y b c) (hy:∀ i,i<a.heap.size→Y i→X i):Fr X a c:=
 ⟨k.1.trans h.1,k.2.1.trans h.2.1,k.2.2.1.trans h.2.2.1,Nat.le_trans h.2.2.2.1 k.2.2.2.1,fun i hi hx=>
  (k.2.2.2.2 i (Nat.lt_of_lt_of_le hi h.2.2.2.1) (fun hyi=>hx (hy i hi hyi))).trans (h.2.2.2.2 i hi hx)⟩
theorem Fr.mono {X Y:Nat→Prop} {w w':World} (h:Fr X w w') (hxy:∀ k,X k→Y k):Fr Y w w':=
 ⟨h.1,h.2.1,h.2.2.1,h.2.2.2.1,fun i hi hy=>h.2.2.2.2 i hi (fun hx=>hy (hxy i hx))⟩
theorem Fr.size {X:Nat→Prop} {w w':World} (h:Fr X w w'):w.heap.size≤w'.heap.size:=h.2.2.2.1
theorem Fr.block {X:Nat→Prop} {w w':World} (h:Fr X w w') {k:Nat} (hk:k<w.heap.size) (hx:¬ X k):w'.heap[k]?=w.heap[k]?:=h.2.2.2.2 k hk hx
theorem Fr.drew (X:Nat→Prop) (w:World):Fr X w w.drew:=⟨rfl,rfl,rfl,Nat.le_refl _,fun _ _ _=>rfl⟩
theorem Fr.alloc (X:Nat→Prop) (w:World) (o:Obj):Fr X w (w.alloc o):=
 ⟨rfl,rfl,rfl,by simp,fun k hk _=>RowKit.Below.heap_alloc w o k hk⟩
theorem Fr.setCell (w:World) (p:Addr) (u:Value):Fr (fun k=>k=p.block) w (w.setCell p u):=
 ⟨rfl,rfl,rfl,by simp,fun k _ hx=>RowKit.Below.heap_setCell w p u k hx⟩
theorem Fr.grown {w w':World} {row:Option Nat} (h:w.grownBy w' row):Fr (fun k=>some k=row) w w':=
 ⟨h.os,h.tape,h.output,h.size,fun k hk hx=>h.block k hk hx⟩
theorem Fr.below {w w':World} (h:Fr (fun _=>False) w w'):RowKit.Below w.heap.size w w':=
 ⟨h.1,h.2.1,h.2.2.1,h.2.2.2.1,fun k hk=>h.2.2.2.2 k hk (fun x=>x)⟩
theorem Fr.cell {X:Nat→Prop} {w w':World} (h:Fr X w w') {a:Addr} (hk:a.block<w.heap.size) (hx:¬ X a.block):w'.cell? a=w.cell? a:=
 World.cell?_of_block (h.block hk hx)
section
variable (τ:TypeId→Option Ty)
def Q0j (S:Nat→Prop) (w:World) (t:Ty) (x:t.den) (v:Value):Prop:=
 (t.isAgg=true∧∃ cs:List Value,v=.agg cs.toArray∧Rep τ S w t x cs)∨(t.isAgg=false∧Rep τ S w t x [v])
def Xr (S:Nat→Prop) (w:World):(ts:List Ty)→Zg ts→List Value→Prop
 | [],_,vs=>vs=[]
 | t::r,x,vs=>∃ v vr,vs=v::vr∧Q0j τ S w t x.1 v∧Xr S w r x.2 vr
def Q5n:List Value→Value
 | [v]=>v
 | vs=>.tuple vs.toArray
def Qdt (P:Program) (f:FuncId):Prop:=∃ fn,P.funcs[f]?=some fn∧(fn.name=="runtime.NumGoroutine")=false∧fn.body.isNone=false
def Q3b (P:Program) (S:Nat→Prop) (w:World) (ps rs:List Ty) (g:Zg ps→Option (Zg rs)) (v:Value):Prop:=
 (∀ t∈rs,t.flat=true) ∧
 ∃ f cap,v=.func (.func f) #[] cap∧Qdt P f ∧
  ∀ (w':World) (S':Nat→Prop) (x:Zg ps) (vals:List Value) (r:Zg rs),
   (∀ k,S k→S' k)→w.heap.size≤w'.heap.size→(∀ k,S k→k<w.heap.size→w'.heap[k]?=w.heap[k]?)→(∀ k,S' k→k<w'.heap.size) →
   Xr τ S' w' ps x vals→g x=some r →
   Calls P f (vals.toArray++cap) w' fun e w''=>∃ vs,e=.returned (Q5n vs)∧Xr τ S' w'' rs r vs∧Fr (fun _=>False) w' w''
end
section
variable {τ:TypeId→Option Ty}
theorem Q0j.frame {S S':Nat→Prop} {w w':World} (hS:∀ k,S k→S' k) (hsz:w.heap.size≤w'.heap.size)
  (hk:∀ k,S k→k<w.heap.size→w'.heap[k]?=w.heap[k]?) {t:Ty} {x:t.den} {v:Value} (h:Q0j τ S w t x v):Q0j τ S' w' t x v:=by
 rcases h with ⟨ha,cs,hv,hr⟩ | ⟨ha,hr⟩
 ·exact .inl ⟨ha,cs,hv,hr.frame hS hsz hk⟩
 ·exact .inr ⟨ha,hr.frame hS hsz hk⟩
theorem Q0j.mono {S S':Nat→Prop} {w:World} {t:Ty} {x:t.den} {v:Value} (h:Q0j τ S w t x v) (hS:∀ k,S k→S' k):Q0j τ S' w t x v:=
 h.frame hS (Nat.le_refl _) (fun _ _ _=>rfl)
theorem Q0j.flat {S S':Nat→Prop} {w w':World} {t:Ty} {x:t.den} {v:Value} (hf:t.flat=true) (h:Q0j τ S w t x v):Q0j τ S' w' t x v:=by
 rcases h with ⟨ha,cs,hv,hr⟩ | ⟨ha,hr⟩
 ·exact .inl ⟨ha,cs,hv,hr.flat hf⟩
 ·exact .inr ⟨ha,hr.flat hf⟩
theorem Q3b.frame {P:Program} {S S':Nat→Prop} {w w':World} (hS:∀ k,S k→S' k) (hsz:w.heap.size≤w'.heap.size)
  (hk:∀ k,S k→k<w.heap.size→w'.heap[k]?=w.heap[k]?) (hlt:∀ k,S k→k<w.heap.size) {ps rs:List Ty} {g:Zg ps→Option (Zg rs)} {v:Value} (h:Q3b τ P S w ps rs g v):Q3b τ P S' w' ps rs g v:=by
 obtain ⟨hfl,f,cap,hv,hok,hc⟩:=h
 refine ⟨hfl,f,cap,hv,hok,fun w'' S'' x vals r h1 h2 h3 h4 h5 h6=>?_⟩
 exact hc w'' S'' x vals r (fun k hk'=>h1 k (hS k hk')) (Nat.le_trans hsz h2)
  (fun k hk' hl=>(h3 k (hS k hk') (Nat.lt_of_lt_of_le hl hsz)).trans (hk k hk' hl)) h4 h5 h6
end
section
variable (P:Program) (τ:TypeId→Option Ty)
def Qm (S:Nat→Prop) (β:Lab→Value) (w:World):LV→Value→Prop
 | .pure t x,v=>Rep τ S w t x [v]
 | .nil,v=>v=.slice none 0 0
 | .lit b,v=>v=.bool b
 | .ref l,v=>β l=v∧∃ A n c,v=.slice A n c
 | .ptr l off,v=>∃ b,β l=.pointer (some ⟨b,0,none⟩)∧v=.pointer (some ⟨b,off,none⟩)
 | .gfn f,v=>v=.func (.func f) #[] #[]
 | .clo ps rs g,v=>Q3b τ P S w ps rs g v
 | .nb ne,v=>∃ b,v=.bool b∧(ne=true→b=false)
def Q5 (S:Nat→Prop) (β:Lab→Value) (w:World):List LV→List Value→Prop
 | [],cs=>cs=[]
 | x::r,cs=>∃ c cr,cs=c::cr∧Qm P τ S β w x c∧Q5 S β w r cr
def Xk (S:Nat→Prop) (β:Lab→Value) (w:World):CV→Value→Prop
 | .one v,c=>Qm P τ S β w v c
 | .agg vs,c=>∃ cs:List Value,c=.agg cs.toArray∧Q5 P τ S β w vs cs
def Zv (S:Nat→Prop) (β:Lab→Value) (w:World):List CV→List Value→Prop
 | [],cs=>cs=[]
 | x::r,cs=>∃ c cr,cs=c::cr∧Xk P τ S β w x c∧Zv S β w r cr
def blk:Value→Option Nat
 | .slice (some a) _ _=>some a.block
 | .pointer (some a)=>some a.block
 | _=>none
def Jb (S:Nat→Prop) (w:World) (t:Ty) (x:t.den) (v:Value):Prop:=
 ∃ b o cs,v=.pointer (some ⟨b,o,none⟩)∧S b∧b<w.heap.size∧Xz w b o cs∧Rep τ S w t x cs
def Qf (S:Nat→Prop) (β:Lab→Value) (w:World):SV→Value→Prop
 | .dead,_=>True
 | .skip,v=>v=undef
 | .cv c,v=>Xk P τ S β w c v
 | .tup cs,v=>∃ vs:List Value,v=.tuple vs.toArray∧Zv P τ S β w cs vs
 | .ep t x,v=>Jb τ S w t x v
 | .ap l i off sz,v=>∃ b,blk (β l)=some b∧v=.pointer (some ⟨b,i.toNat*sz+off,none⟩)
 | .tupe l i sz,v=>∃ b,blk (β l)=some b∧v=.tuple #[.pointer (some ⟨b,i.toNat*sz,none⟩),.nilIface]
 | .tupn x,v=>∃ u,v=.tuple #[u,IV.value x]∧IV.ok τ x
 | .win l lo n sz,v=>∃ A n0 c0 A',β l=.slice A n0 c0∧lo+n≤c0∧v=.slice A' n (c0 - lo)∧(lo<c0∨lo=0→A'=A.map (·.add (lo*sz)))
def Q1 (S:Nat→Prop) (w:World) (e:Ty):List e.den→List Value→Prop
 | [],cs=>cs=[]
 | x::r,cs=>∃ c cr,cs=c++cr∧Rep τ S w e x c∧Q1 S w e r cr
def Q8 (S:Nat→Prop) (w:World) (e:Ty) (ys:List (Option e.den)) (cs:List Value):Prop:=
 ∀ i x,ys[i]?=some (some x)→Rep τ S w e x ((cs.drop (i*e.cells)).take e.cells)
def Z6 (S:Nat→Prop) (β:Lab→Value) (w:World):Ob→Value→Prop
 | .row eT e xs,v=>0<e.cells∧∃ cells,w.ownsRow 0 eT e.cells v xs.length cells∧Q1 τ S w e xs cells
 | .box _ vs,v=>∃ b T cs,v=.pointer (some ⟨b,0,none⟩)∧w.heap[b]?=some (.cells cs T (0,0))∧Q5 P τ S β w vs cs.toList
 | .arr _ e xs,v=>∃ b T cs fr,(v=.pointer (some ⟨b,0,none⟩)∨∃ cap,v=.slice (some ⟨b,0,none⟩) xs.length cap∧xs.length≤cap∧cap≤maxLen)∧w.heap[b]?=some (.cells cs T fr)∧(fr=(0,0)∨cs.size≤fr.1) ∧
   Q1 τ S w e xs (cs.toList.take (xs.length*e.cells))
 | .lrow eT vs,v=>∃ cells,w.ownsRow 0 eT 1 v vs.length cells∧Q5 P τ S β w vs cells
 | .mem eT e ys n0 ex,v=>0<e.cells∧∃ A c,v=.slice A n0 c∧ys.length≤c∧n0≤c∧c≤maxLen∧(ex=true→c=ys.length) ∧
   ((A=none∧c=0)∨∃ g cur,A=some ⟨g,0,none⟩∧w.heap[g]?=some (.cells cur eT (0,0))∧cur.size=c*e.cells∧Q8 τ S w e ys cur.toList)
abbrev FF:=(Nat→Prop) × (Nat→Prop)
abbrev NN:=Nat × List (Nat × Value)
def okD (N:NN) (d:Nat):Prop:=d<N.1∧∀ p∈N.2,p.1≠d
structure Qan (N:NN) (w0:World) (F:FF) (S:Nat→Prop) (β:Lab→Value) (sl:Nat→SV) (ob:Lab→Option Ob) (a:Act) (w:World):Prop where
 sb:∀ k,S k→k<w.heap.size
 slots:∀ t,Qf P τ S β w (sl t) (a.tmps.getD t undef)
 objs:∀ l x,ob l=some x→Z6 P τ S β w x (β l)
 excl:∀ l x,ob l=some x→∀ b,blk (β l)=some b→¬ S b∧(w0.heap.size≤b∨F.1 b)∧b<w.heap.size
 dist:∀ l l' x x',ob l=some x→ob l'=some x'→l≠l'→∀ b,blk (β l)=some b→blk (β l')≠some b
 fr:Fr F.1 w0 w
 size:a.tmps.size=N.1
 nodef:a.defers=[]
 within:∀ k,S k→F.2 k∨w0.heap.size≤k∨F.1 k
 par:∀ p∈N.2,a.tmps.getD p.1 undef=p.2
abbrev Rel (N:NN) (w0:World) (F:FF) (S:Nat→Prop) (β:Lab→Value) (st:St) (a:Act) (w:World):Prop:=
 Qan P τ N w0 F S β (Q9 st.slots) (Q0 st.objs) a w
end
theorem Zd {a b:Lab}:Xl a b=true↔a=b:=by
 obtain ⟨a1,a2⟩:=a
 obtain ⟨b1,b2⟩:=b
 simp only [Xl,Bool.and_eq_true,Prod.mk.injEq]
 exact ⟨fun h=>⟨Nat.eq_of_beq_eq_true h.1,Nat.eq_of_beq_eq_true h.2⟩,fun h=>by rw [h.1,h.2];exact ⟨Nat.beq_refl _,Nat.beq_refl _⟩⟩
theorem X5 {a b:Lab}:Xl a b=false↔a≠b:=by
 rw [← Bool.not_eq_true,Zd]
theorem Z7 {a b:Nat}:Nat.beq a b=true↔a=b:=⟨Nat.eq_of_beq_eq_true,fun h=>by rw [h];exact Nat.beq_refl _⟩
theorem Qz {a b:Nat}:Nat.beq a b=false↔a≠b:=by rw [← Bool.not_eq_true,Z7]
theorem Qk (d:Nat) (v:SV) (s:List (Nat × SV)) (t:Nat):Q9 ((d,v)::s) t=if d=t then v else Q9 s t:=by
 simp only [Q9]
 by_cases h:d=t
 ·rw [Z7.2 h,if_pos h];rfl
 ·rw [Qz.2 h,if_neg h];rfl
theorem Q3 (m:Lab) (b:Ob) (o:List (Lab × Ob)) (l:Lab):Q0 ((m,b)::o) l=if m=l then some b else Q0 o l:=by
 simp only [Q0]
 by_cases h:m=l
 ·rw [Zd.2 h,if_pos h];rfl
 ·rw [X5.2 h,if_neg h];rfl
theorem Jd (o:List (Lab × Ob)) (l:Lab) (x:Ob) (m:Lab):Q0 (Q43 o l x) m=if l=m then (Q0 o l).map (fun _=>x) else Q0 o m:=by
 induction o with
 | nil=>simp only [Q43,Q0];split<;>rfl
 | cons p r ih=>
  obtain ⟨k,b⟩:=p
  simp only [Q43]
  by_cases hk:k=l
  ·rw [Zd.2 hk]
   simp only [cond_true,Q3,hk]
   split
   ·simp
   ·rfl
  ·rw [X5.2 hk]
   simp only [cond_false,Q3,ih]
   by_cases hkm:k=m
   ·subst hkm
    rw [if_pos rfl,if_neg (fun h=>hk h.symm),if_pos rfl]
   ·rw [if_neg hkm,if_neg hkm,if_neg hk]
theorem Zw (o:List (Lab × Ob)) (l m:Lab):Q0 (Jr o l) m=if l=m then none else Q0 o m:=by
 induction o with
 | nil=>simp [Jr,Q0]
 | cons p r ih=>
  obtain ⟨k,b⟩:=p
  simp only [Jr]
  by_cases hk:k=l
  ·rw [Zd.2 hk]
   simp only [cond_true,ih,Q3,hk]
   split<;>rfl
  ·rw [X5.2 hk]
   simp only [cond_false,Q3,ih]
   by_cases hkm:k=m
   ·subst hkm
    rw [if_pos rfl,if_neg (fun h=>hk h.symm),if_pos rfl]
   ·rw [if_neg hkm,if_neg hkm]
theorem Q09 {l:Lab} {ls:List Lab}:Xu l ls=true↔l∈ls:=by
 induction ls with
 | nil=>simp [Xu]
 | cons m r ih=>simp only [Xu,Bool.or_eq_true,Zd,ih,List.mem_cons];constructor<;>(rintro (h | h)<;>simp [h])
theorem Zx {l:Lab} {ls:List Lab}:Xu l ls=false↔l ∉ ls:=by rw [← Bool.not_eq_true,Q09]
theorem Q22 {t:Nat} {ls:List Nat}:Q7u t ls=true↔t∈ls:=by
 induction ls with
 | nil=>simp [Q7u]
 | cons m r ih=>simp only [Q7u,Bool.or_eq_true,Z7,ih,List.mem_cons];constructor<;>(rintro (h | h)<;>simp [h])
theorem Qc8 {s:List (Nat × SV)} {t:Nat} {v:SV} (h:Q9 s t=v) (hd:v≠.dead):∃ p∈s,p.2=v:=by
 induction s with
 | nil=>simp [Q9] at h;exact absurd h.symm hd
 | cons p r ih=>
  obtain ⟨u,x⟩:=p
  rw [Qk] at h
  split at h
  ·exact ⟨_,List.mem_cons_self ..,h⟩
  ·obtain ⟨q,hq,h2⟩:=ih h;exact ⟨q,List.mem_cons_of_mem _ hq,h2⟩
theorem Qby {o:List (Lab × Ob)} {l:Lab} {b:Ob} (h:Q0 o l=some b):∃ p∈o,p.2=b:=by
 induction o with
 | nil=>simp [Q0] at h
 | cons p r ih=>
  obtain ⟨m,x⟩:=p
  rw [Q3] at h
  split at h
  ·exact ⟨_,List.mem_cons_self ..,by simpa using h⟩
  ·obtain ⟨q,hq,h2⟩:=ih h;exact ⟨q,List.mem_cons_of_mem _ hq,h2⟩
section
variable {P:Program} {τ:TypeId→Option Ty} {S S':Nat→Prop} {β β':Lab→Value} {w w':World}
theorem Qm.frame (hS:∀ k,S k→S' k) (hsz:w.heap.size≤w'.heap.size) (hk:∀ k,S k→k<w.heap.size→w'.heap[k]?=w.heap[k]?)
  (hlt:∀ k,S k→k<w.heap.size) {x:LV} {v:Value} (hβ:∀ l∈Qx x,β' l=β l) (h:Qm P τ S β w x v):Qm P τ S' β' w' x v:=by
 cases x with
 | pure t y=>exact Rep.frame hS hsz hk h
 | nil=>exact h
 | lit b=>exact h
 | ref l=>exact ⟨(hβ l (by simp [Qx])).trans h.1,h.2⟩
 | ptr l off=>obtain ⟨b,h1,h2⟩:=h;exact ⟨b,(hβ l (by simp [Qx])).trans h1,h2⟩
 | gfn f=>exact h
 | clo ps rs g=>exact Q3b.frame hS hsz hk hlt h
 | nb ne=>exact h
theorem Q5.frame (hS:∀ k,S k→S' k) (hsz:w.heap.size≤w'.heap.size) (hk:∀ k,S k→k<w.heap.size→w'.heap[k]?=w.heap[k]?)
  (hlt:∀ k,S k→k<w.heap.size):∀ {xs:List LV} {cs:List Value},(∀ l∈xs.flatMap Qx,β' l=β l)→Q5 P τ S β w xs cs→Q5 P τ S' β' w' xs cs
 | [],cs,_,h=>h
 | x::r,cs,hβ,h=>by
  obtain ⟨c,cr,hc,h1,h2⟩:=h
  exact ⟨c,cr,hc,h1.frame hS hsz hk hlt (fun l hl=>hβ l (by simp [hl])),Q5.frame hS hsz hk hlt (fun l hl=>hβ l (by simp only [List.flatMap_cons,List.mem_append];exact .inr hl)) h2⟩
theorem Xk.frame (hS:∀ k,S k→S' k) (hsz:w.heap.size≤w'.heap.size) (hk:∀ k,S k→k<w.heap.size→w'.heap[k]?=w.heap[k]?)
  (hlt:∀ k,S k→k<w.heap.size) {x:CV} {v:Value} (hβ:∀ l∈Q0z x,β' l=β l) (h:Xk P τ S β w x v):Xk P τ S' β' w' x v:=by
 cases x with
 | one y=>exact Qm.frame hS hsz hk hlt hβ h
 | agg vs=>obtain ⟨cs,hc,h⟩:=h;exact ⟨cs,hc,h.frame hS hsz hk hlt hβ⟩
theorem Zv.frame (hS:∀ k,S k→S' k) (hsz:w.heap.size≤w'.heap.size) (hk:∀ k,S k→k<w.heap.size→w'.heap[k]?=w.heap[k]?)
  (hlt:∀ k,S k→k<w.heap.size):∀ {xs:List CV} {cs:List Value},(∀ l∈xs.flatMap Q0z,β' l=β l)→Zv P τ S β w xs cs→Zv P τ S' β' w' xs cs
 | [],cs,_,h=>h
 | x::r,cs,hβ,h=>by
  obtain ⟨c,cr,hc,h1,h2⟩:=h
  exact ⟨c,cr,hc,h1.frame hS hsz hk hlt (fun l hl=>hβ l (by simp [hl])),Zv.frame hS hsz hk hlt (fun l hl=>hβ l (by simp only [List.flatMap_cons,List.mem_append];exact .inr hl)) h2⟩
theorem Jb.frame (hS:∀ k,S k→S' k) (hsz:w.heap.size≤w'.heap.size) (hk:∀ k,S k→k<w.heap.size→w'.heap[k]?=w.heap[k]?)
  {t:Ty} {x:t.den} {v:Value} (h:Jb τ S w t x v):Jb τ S' w' t x v:=by
 obtain ⟨b,o,cs,h1,h2,h3,h4,h5⟩:=h
 exact ⟨b,o,cs,h1,hS b h2,Nat.lt_of_lt_of_le h3 hsz,h4.of_block (hk b h2 h3),h5.frame hS hsz hk⟩
theorem Qf.frame (hS:∀ k,S k→S' k) (hsz:w.heap.size≤w'.heap.size) (hk:∀ k,S k→k<w.heap.size→w'.heap[k]?=w.heap[k]?)
  (hlt:∀ k,S k→k<w.heap.size) {x:SV} {v:Value} (hβ:∀ l∈Qe x,β' l=β l) (h:Qf P τ S β w x v):Qf P τ S' β' w' x v:=by
 cases x with
 | dead=>trivial
 | skip=>exact h
 | cv c=>exact Xk.frame hS hsz hk hlt hβ h
 | tup cs=>obtain ⟨vs,hv,h⟩:=h;exact ⟨vs,hv,h.frame hS hsz hk hlt hβ⟩
 | ep t x=>exact Jb.frame hS hsz hk h
 | ap l i off sz=>obtain ⟨b,h1,h2⟩:=h;exact ⟨b,by rw [hβ l (by simp [Qe])];exact h1,h2⟩
 | tupe l i sz=>obtain ⟨b,h1,h2⟩:=h;exact ⟨b,by rw [hβ l (by simp [Qe])];exact h1,h2⟩
 | tupn x=>exact h
 | win l lo n sz=>obtain ⟨A,n0,c0,A',h1,h2⟩:=h;exact ⟨A,n0,c0,A',by rw [hβ l (by simp [Qe])];exact h1,h2⟩
theorem Q1.frame (hS:∀ k,S k→S' k) (hsz:w.heap.size≤w'.heap.size) (hk:∀ k,S k→k<w.heap.size→w'.heap[k]?=w.heap[k]?)
  {e:Ty}:∀ {xs:List e.den} {cs:List Value},Q1 τ S w e xs cs→Q1 τ S' w' e xs cs
 | [],cs,h=>h
 | x::r,cs,h=>by obtain ⟨c,cr,hc,h1,h2⟩:=h;exact ⟨c,cr,hc,h1.frame hS hsz hk,Q1.frame hS hsz hk h2⟩
theorem Q1.length {e:Ty}:∀ {xs:List e.den} {cs:List Value},Q1 τ S w e xs cs→cs.length=xs.length*e.cells
 | [],cs,h=>by simp only [Q1] at h;simp [h]
 | x::r,cs,h=>by
  obtain ⟨c,cr,hc,h1,h2⟩:=h
  rw [hc,List.length_append,h1.length,Q1.length h2,List.length_cons,Nat.add_mul,Nat.one_mul,Nat.add_comm]
theorem Q1.append {e:Ty}:∀ {xs ys:List e.den} {cs ds:List Value},Q1 τ S w e xs cs→Q1 τ S w e ys ds→Q1 τ S w e (xs++ys) (cs++ds)
 | [],ys,cs,ds,h,h'=>by simp only [Q1] at h;subst h;exact h'
 | x::r,ys,cs,ds,h,h'=>by
  obtain ⟨c,cr,hc,h1,h2⟩:=h
  exact ⟨c,cr++ds,by rw [hc,List.append_assoc],h1,Q1.append h2 h'⟩
theorem Q1.elem {e:Ty}:∀ {xs:List e.den} {cs:List Value} (i:Nat),Q1 τ S w e xs cs→i<xs.length →
  Rep τ S w e (xs.getD i e.dflt) ((cs.drop (i*e.cells)).take e.cells)
 | [],cs,i,_,hi=>by simp at hi
 | x::r,cs,0,h,_=>by
  obtain ⟨c,cr,hc,h1,h2⟩:=h
  subst hc
  simpa [← h1.length] using h1
 | x::r,cs,i+1,h,hi=>by
  obtain ⟨c,cr,hc,h1,h2⟩:=h
  have ih:=Q1.elem i h2 (by simpa using hi)
  subst hc
  have e1:(c++cr).drop ((i+1)*e.cells)=cr.drop (i*e.cells):=by
   rw [Nat.add_mul,Nat.one_mul,Nat.add_comm,← h1.length,List.drop_append]
   simp
  rw [e1]
  simpa using ih
theorem Q1.set {e:Ty}:∀ {xs:List e.den} {cs:List Value} (i:Nat) (y:e.den) (d:List Value),Q1 τ S w e xs cs→i<xs.length→Rep τ S w e y d →
  Q1 τ S w e (xs.set i y) (cs.take (i*e.cells)++d++cs.drop (i*e.cells+e.cells))
 | [],cs,i,_,_,_,hi,_=>by simp at hi
 | x::r,cs,0,y,d,h,_,hd=>by
  obtain ⟨c,cr,hc,h1,h2⟩:=h
  subst hc
  refine ⟨d,cr,?_,hd,h2⟩
  simp [← h1.length]
 | x::r,cs,i+1,y,d,h,hi,hd=>by
  obtain ⟨c,cr,hc,h1,h2⟩:=h
  have ih:=Q1.set i y d h2 (by simpa using hi) hd
  subst hc
  refine ⟨c,_,?_,h1,ih⟩
  have e0:(i+1)*e.cells=c.length+i*e.cells:=by rw [Nat.add_mul,Nat.one_mul,Nat.add_comm,h1.length]
  rw [e0,List.take_append,List.take_of_length_le (by omega),show c.length+i*e.cells - c.length=i*e.cells by omega,
   show c.length+i*e.cells+e.cells=c.length+(i*e.cells+e.cells) by omega,List.drop_append,List.drop_eq_nil_of_le (by omega)]
  simp [List.append_assoc]
theorem Q8.frame (hS:∀ k,S k→S' k) (hsz:w.heap.size≤w'.heap.size) (hk:∀ k,S k→k<w.heap.size→w'.heap[k]?=w.heap[k]?)
  {e:Ty} {ys:List (Option e.den)} {cs:List Value} (h:Q8 τ S w e ys cs):Q8 τ S' w' e ys cs:=fun i x hi=>(h i x hi).frame hS hsz hk
theorem Z6.frame (hS:∀ k,S k→S' k) (hsz:w.heap.size≤w'.heap.size) (hk:∀ k,S k→k<w.heap.size→w'.heap[k]?=w.heap[k]?)
  (hlt:∀ k,S k→k<w.heap.size) {x:Ob} {v:Value} (hβ:∀ l∈Z0 x,β' l=β l) (hb:∀ b,blk v=some b→w'.heap[b]?=w.heap[b]?) (h:Z6 P τ S β w x v):Z6 P τ S' β' w' x v:=by
 cases x with
 | row eT e xs=>
  obtain ⟨h0,cells,h1,h2⟩:=h
  refine ⟨h0,cells,⟨h1.1,?_⟩,h2.frame hS hsz hk⟩
  rcases h1.2 with hn | ⟨g,cap,cur,rfl,hg,hh,rest⟩
  ·exact .inl hn
  ·exact .inr ⟨g,cap,cur,rfl,hg,(hb g rfl).trans hh,rest⟩
 | box T vs=>
  obtain ⟨b,T',cs,rfl,h2,h3⟩:=h
  exact ⟨b,T',cs,rfl,(hb b rfl).trans h2,h3.frame hS hsz hk hlt hβ⟩
 | arr eT e xs=>
  obtain ⟨b,T',cs,fr,hv,h2,h3,h4⟩:=h
  have hbv:blk v=some b:=by rcases hv with rfl | ⟨_,rfl,_⟩<;>rfl
  exact ⟨b,T',cs,fr,hv,(hb b hbv).trans h2,h3,h4.frame hS hsz hk⟩
 | lrow eT vs=>
  obtain ⟨cells,h1,h2⟩:=h
  refine ⟨cells,⟨h1.1,?_⟩,h2.frame hS hsz hk hlt hβ⟩
  rcases h1.2 with hn | ⟨g,cap,cur,rfl,hg,hh,rest⟩
  ·exact .inl hn
  ·exact .inr ⟨g,cap,cur,rfl,hg,(hb g rfl).trans hh,rest⟩
 | mem eT e ys n0 ex=>
  obtain ⟨h0,A,c,rfl,h1,h2,h3,h4,h5⟩:=h
  refine ⟨h0,A,c,rfl,h1,h2,h3,h4,?_⟩
  rcases h5 with hn | ⟨g,cur,rfl,hh,hsz',hm⟩
  ·exact .inl hn
  ·exact .inr ⟨g,cur,rfl,(hb g rfl).trans hh,hsz',hm.frame hS hsz hk⟩
end
def Qi4 (st:St):Prop:=∀ l eT e xs,Q0 st.objs l=some (.row eT e xs)→0<e.cells
theorem Rel.pos {P:Program} {τ:TypeId→Option Ty} {N:NN} {w0:World} {F:FF} {S:Nat→Prop} {β:Lab→Value} {st:St} {a:Act} {w:World}
  (h:Rel P τ N w0 F S β st a w):Qi4 st:=fun l eT e xs ho=>(h.objs l _ ho).1
end Go.PE
set_option linter.unusedVariables false
namespace Go.PE
section
variable {P:Program} {τ:TypeId→Option Ty} {N:NN} {w0:World} {F:FF} {S:Nat→Prop} {β:Lab→Value} {st:St} {a:Act} {w:World}
def Q00 (β:Lab→Value) (l:Lab) (v:Value):Lab→Value:=fun m=>if m=l then v else β m
theorem Qh (β:Lab→Value) (l:Lab) (v:Value):Q00 β l v l=v:=if_pos rfl
theorem Qn {β:Lab→Value} {l m:Lab} {v:Value} (h:m≠l):Q00 β l v m=β m:=if_neg h
theorem Z4 {l:Lab} (h:Zy st l=true):Q0 st.objs l=none∧(∀ t,l ∉ Qe (Q9 st.slots t))∧(∀ m ob,Q0 st.objs m=some ob→l ∉ Z0 ob):=by
 simp only [Zy,Bool.and_eq_true,List.all_eq_true] at h
 obtain ⟨⟨h1,h2⟩,h3⟩:=h
 refine ⟨?_,fun t hm=>?_,fun m ob hm hmem=>?_⟩
 ·cases ho:Q0 st.objs l with
  | none=>rfl
  | some x=>rw [ho] at h1;cases h1
 ·by_cases hd:Q9 st.slots t=.dead
  ·rw [hd] at hm;simp [Qe] at hm
  ·obtain ⟨p,hp,hpv⟩:=Qc8 rfl hd
   have:=h2 p hp
   rw [hpv,Bool.not_eq_true',Zx] at this
   exact this hm
 ·obtain ⟨p,hp,hpv⟩:=Qby hm
  have:=h3 p hp
  rw [hpv,Bool.not_eq_true',Zx] at this
  exact this hmem
theorem Q32 {xs:Array Value} {d t:Nat} {v u:Value} (h:d<xs.size):(xs.setIfInBounds d v).getD t u=if d=t then v else xs.getD t u:=by
 simp only [Array.getD_eq_getD_getElem?,Array.getElem?_setIfInBounds]
 by_cases hdt:d=t
 ·subst hdt;simp [h]
 ·simp [hdt]
theorem Rel.put (h:Rel P τ N w0 F S β st a w) {d:Option Nat} {v:SV} {x:Value} (hd:∀ e,d=some e→okD N e) (hv:Qf P τ S β w v x) :
  Rel P τ N w0 F S β (Q26 st d v) (a.put d x) w:=by
 cases d with
 | none=>exact h
 | some d=>
  have hlt:d<a.tmps.size:=by rw [h.size];exact (hd d rfl).1
  refine ⟨h.sb,fun t=>?_,h.objs,h.excl,h.dist,h.fr,?_,h.nodef,h.within,fun p hp=>by simp only [Act.put];rw [Q32 hlt,if_neg (fun e=>(hd d rfl).2 p hp e.symm)];exact h.par p hp⟩
  ·simp only [Q26,Act.put,Qk,Q32 hlt]
   split
   ·exact hv
   ·exact h.slots t
  ·simp only [Act.put,Array.size_setIfInBounds];exact h.size
theorem Rel.weaken (h:Rel P τ N w0 F S β st a w) {st':St} (hs:∀ t,Q9 st'.slots t=.dead∨Q9 st'.slots t=Q9 st.slots t)
  (ho:∀ l ob,Q0 st'.objs l=some ob→Q0 st.objs l=some ob):Rel P τ N w0 F S β st' a w:=
 ⟨h.sb,fun t=>(hs t).elim (fun e=>by rw [e];trivial) (fun e=>by rw [e];exact h.slots t),fun l ob hl=>h.objs l ob (ho l ob hl),
  fun l ob hl=>h.excl l ob (ho l ob hl),fun l l' ob ob' hl hl'=>h.dist l l' ob ob' (ho l ob hl) (ho l' ob' hl'),h.fr,h.size,h.nodef,h.within,h.par⟩
theorem Rel.trim (h:Rel P τ N w0 F S β st a w) (ks:List Nat):Rel P τ N w0 F S β { st with slots:=trim ks st.slots } a w:=by
 refine h.weaken (fun t=>?_) (fun _ _ h=>h)
 show Q9 (PE.trim ks st.slots) t=.dead∨Q9 (PE.trim ks st.slots) t=Q9 st.slots t
 induction ks with
 | nil=>exact .inl rfl
 | cons k r ih=>
  simp only [PE.trim,List.filterMap_cons]
  split
  ·exact ih
  ·rename_i v hv
   split at hv
   ·cases hv
   ·cases hv
   ·rename_i hne
    simp only [Option.some.injEq] at hv
    subst hv
    rw [Qk]
    by_cases hk:k=t
    ·subst hk;rw [if_pos rfl];exact .inr rfl
    ·rw [if_neg hk];exact ih
theorem Rel.grow (h:Rel P τ N w0 F S β st a w) {S':Nat→Prop} {w':World} (hf:Fr (fun _=>False) w w') (hS:∀ k,S k→S' k)
  (hn:∀ k,S' k→S k∨w.heap.size≤k) (hb:∀ k,S' k→k<w'.heap.size):Rel P τ N w0 F S' β st a w':=by
 have hk:∀ k,S k→k<w.heap.size→w'.heap[k]?=w.heap[k]?:=fun k _ hl=>hf.block hl (fun x=>x)
 refine ⟨hb,fun t=>(h.slots t).frame hS hf.size hk h.sb (fun _ _=>rfl),fun l ob hl=>?_,fun l ob hl b hbl=>?_,h.dist,h.fr.trans' hf (fun _ _ x=>x.elim),h.size,h.nodef,fun k hk=>(hn k hk).elim (h.within k) (fun hw=>.inr (.inl (Nat.le_trans h.fr.size hw))),h.par⟩
 ·exact (h.objs l ob hl).frame hS hf.size hk h.sb (fun _ _=>rfl) (fun b hbl=>hf.block (h.excl l ob hl b hbl).2.2 (fun x=>x))
 ·obtain ⟨h1,h2,h3⟩:=h.excl l ob hl b hbl
  exact ⟨fun hs=>by rcases hn b hs with hs | hs;exact h1 hs;omega,h2,Nat.lt_of_lt_of_le h3 hf.size⟩
theorem Rel.grow' (h:Rel P τ N w0 F S β st a w) {w':World} (hf:Fr (fun _=>False) w w'):Rel P τ N w0 F S β st a w':=
 h.grow hf (fun _ x=>x) (fun _ x=>.inl x) (fun k hk=>Nat.lt_of_lt_of_le (h.sb k hk) hf.size)
theorem Rel.del (h:Rel P τ N w0 F S β st a w) (l:Lab):Rel P τ N w0 F S β { st with objs:=Jr st.objs l } a w:=
 h.weaken (fun _=>.inr rfl) (fun m ob hm=>by simp only [Zw] at hm;split at hm;cases hm;exact hm)
theorem Rel.delAll (h:Rel P τ N w0 F S β st a w) (ls:List Lab):Rel P τ N w0 F S β (delAll st ls) a w:=by
 induction ls generalizing st with
 | nil=>exact h
 | cons l r ih=>exact ih (h.del l)
theorem Rel.setObj (h:Rel P τ N w0 F S β st a w) {w':World} {l:Lab} {ob:Ob} {v:Value} {objs':List (Lab × Ob)} {X:Nat→Prop}
  (hf:Fr X w w') (hX:∀ k,k<w.heap.size→X k→∃ ob0,Q0 st.objs l=some ob0∧blk (β l)=some k)
  (hβ:β l=v∨((∀ t,l ∉ Qe (Q9 st.slots t))∧(∀ m ob,Q0 st.objs m=some ob→m≠l→l ∉ Z0 ob)))
  (hl:β l=v∨l ∉ Z0 ob)
  (hob:Z6 P τ S β w' ob v) (hoe:∀ b,blk v=some b→(w.heap.size≤b∨(∃ ob0,Q0 st.objs l=some ob0)∧blk (β l)=some b)∧b<w'.heap.size)
  (hget:∀ m,Q0 objs' m=if l=m then some ob else Q0 st.objs m):Rel P τ N w0 F S (Q00 β l v) { st with objs:=objs' } a w':=by
 have hXS:∀ k,S k→k<w.heap.size→w'.heap[k]?=w.heap[k]?:=fun k hs hlt=>hf.block hlt (fun hx=>by
  obtain ⟨ob0,ho,hb⟩:=hX k hlt hx
  exact (h.excl l ob0 ho k hb).1 hs)
 have hb0:∀ m,m≠l→∀ ob',Q0 st.objs m=some ob'→∀ b,blk (β m)=some b→w'.heap[b]?=w.heap[b]?:=fun m hm ob' ho b hb=>
  hf.block (h.excl m ob' ho b hb).2.2 (fun hx=>by
   obtain ⟨ob0,ho0,hb0⟩:=hX b (h.excl m ob' ho b hb).2.2 hx
   exact h.dist m l ob' ob0 ho ho0 hm b hb hb0)
 have hβs:∀ t,∀ m∈Qe (Q9 st.slots t),Q00 β l v m=β m:=fun t m hm=>by
  by_cases e:m=l
  ·subst e
   rcases hβ with e | e
   ·rw [Qh,e]
   ·exact absurd hm (e.1 t)
  ·exact Qn e
 refine ⟨fun k hk=>Nat.lt_of_lt_of_le (h.sb k hk) hf.size,fun t=>(h.slots t).frame (fun _ x=>x) hf.size hXS h.sb (hβs t),fun m ob' hm=>?_,fun m ob' hm b hb=>?_,fun m m' ob1 ob2 hm hm' hne b hb hb'=>?_,?_,h.size,h.nodef,h.within,h.par⟩
 ·simp only [hget] at hm
  split at hm
  ·rename_i e;subst e
   simp only [Option.some.injEq] at hm
   subst hm
   rw [Qh]
   cases ob with
   | row eT e xs=>exact hob
   | arr eT e xs=>exact hob
   | mem eT e ys n0 ex=>exact hob
   | lrow eT vs=>
    obtain ⟨cells,h1,h3⟩:=hob
    exact ⟨cells,h1,h3.frame (fun _ x=>x) (Nat.le_refl _) (fun _ _ _=>rfl) (fun k hk=>Nat.lt_of_lt_of_le (h.sb k hk) hf.size) (fun m hm=>by
     by_cases e:m=l
     ·subst e
      rcases hl with hl | hl
      ·rw [Qh,hl]
      ·exact absurd hm hl
     ·exact Qn e)⟩
   | box T vs=>
    obtain ⟨b,T',cs,h1,h2,h3⟩:=hob
    exact ⟨b,T',cs,h1,h2,h3.frame (fun _ x=>x) (Nat.le_refl _) (fun _ _ _=>rfl) (fun k hk=>Nat.lt_of_lt_of_le (h.sb k hk) hf.size) (fun m hm=>by
     by_cases e:m=l
     ·subst e
      rcases hl with hl | hl
      ·rw [Qh,hl]
      ·exact absurd hm hl
     ·exact Qn e)⟩
  ·rename_i e
   have e':m≠l:=fun x=>e x.symm
   rw [Qn e']
   refine (h.objs m ob' hm).frame (fun _ x=>x) hf.size hXS h.sb (fun k hk=>?_) (hb0 m e' ob' hm)
   by_cases e2:k=l
   ·subst e2
    rcases hβ with e3 | e3
    ·rw [Qh,e3]
    ·exact absurd hk (e3.2 m ob' hm e')
   ·exact Qn e2
 ·simp only [hget] at hm
  split at hm
  ·rename_i e;subst e
   rw [Qh] at hb
   obtain ⟨h1,h2⟩:=hoe b hb
   refine ⟨fun hs=>?_,?_,h2⟩
   ·rcases h1 with h1 | ⟨⟨ob0,ho⟩,h1⟩
    ·have:=h.sb b hs;omega
    ·exact (h.excl l ob0 ho b h1).1 hs
   ·rcases h1 with h1 | ⟨⟨ob0,ho⟩,h1⟩
    ·exact .inl (Nat.le_trans h.fr.size h1)
    ·exact (h.excl l ob0 ho b h1).2.1
  ·rename_i e
   rw [Qn (fun x=>e x.symm)] at hb
   obtain ⟨h1,h2,h3⟩:=h.excl m ob' hm b hb
   exact ⟨h1,h2,Nat.lt_of_lt_of_le h3 hf.size⟩
 ·simp only [hget] at hm hm'
  have key:∀ m,m≠l→∀ ob',Q0 st.objs m=some ob'→blk (β m)=some b→blk v=some b→False:=fun m hml ob' ho hb hbv=>by
   rcases (hoe b hbv).1 with h1 | ⟨⟨ob0,ho0⟩,h1⟩
   ·have:=(h.excl m ob' ho b hb).2.2;omega
   ·exact h.dist m l ob' ob0 ho ho0 hml b hb h1
  by_cases e:l=m
  ·subst e
   rw [Qh] at hb
   rw [if_neg hne] at hm'
   rw [Qn (fun x=>hne x.symm)] at hb'
   exact key m' (fun x=>hne x.symm) ob2 hm' hb' hb
  ·rw [if_neg e] at hm
   rw [Qn (fun x=>e x.symm)] at hb
   by_cases e2:l=m'
   ·subst e2
    rw [Qh] at hb'
    exact key m (fun x=>e x.symm) ob1 hm hb hb'
   ·rw [if_neg e2] at hm'
    rw [Qn (fun x=>e2 x.symm)] at hb'
    exact h.dist m m' ob1 ob2 hm hm' hne b hb hb'
 ·refine h.fr.trans' hf (fun i hi hx=>?_)
  obtain ⟨ob0,ho,hb⟩:=hX i (Nat.lt_of_lt_of_le hi h.fr.size) hx
  rcases (h.excl l ob0 ho i hb).2.1 with h1 | h1
  ·omega
  ·exact h1
theorem Q8b {f:LV→LV} (hf:∀ v,Qx (f v) ⊆ Qx v):∀ (vs:List LV),(vs.map f).flatMap Qx ⊆ vs.flatMap Qx
 | []=>by simp
 | v::r=>by
  intro l hl
  simp only [List.map_cons,List.flatMap_cons,List.mem_append] at hl ⊢
  rcases hl with hl | hl
  ·exact .inl (hf v hl)
  ·exact .inr (Q8b hf r hl)
theorem Q5.map {S':Nat→Prop} {β':Lab→Value} {w':World} {f:LV→LV} (hf:∀ v c,Qm P τ S β w v c→Qm P τ S' β' w' (f v) c) :
  ∀ {xs:List LV} {cs:List Value},Q5 P τ S β w xs cs→Q5 P τ S' β' w' (xs.map f) cs
 | [],cs,h=>h
 | x::r,cs,h=>by obtain ⟨c,cr,hc,h1,h2⟩:=h;exact ⟨c,cr,hc,hf x c h1,Q5.map hf h2⟩
theorem Xk.map {S':Nat→Prop} {β':Lab→Value} {w':World} {f:LV→LV} (hf:∀ v c,Qm P τ S β w v c→Qm P τ S' β' w' (f v) c)
  {x:CV} {v:Value} (h:Xk P τ S β w x v):Xk P τ S' β' w' (Qbf f x) v:=by
 cases x with
 | one y=>exact hf y v h
 | agg vs=>obtain ⟨cs,hc,h⟩:=h;exact ⟨cs,hc,h.map hf⟩
theorem Zv.map {S':Nat→Prop} {β':Lab→Value} {w':World} {f:LV→LV} (hf:∀ v c,Qm P τ S β w v c→Qm P τ S' β' w' (f v) c) :
  ∀ {xs:List CV} {cs:List Value},Zv P τ S β w xs cs→Zv P τ S' β' w' (xs.map (Qbf f)) cs
 | [],cs,h=>h
 | x::r,cs,h=>by obtain ⟨c,cr,hc,h1,h2⟩:=h;exact ⟨c,cr,hc,h1.map hf,Zv.map hf h2⟩
theorem Q8k (g:SV→SV) (hg:g .dead=.dead) (s:List (Nat × SV)) (t:Nat):Q9 (s.map fun p=>(p.1,g p.2)) t=g (Q9 s t):=by
 induction s with
 | nil=>exact hg.symm
 | cons p r ih=>
  obtain ⟨u,v⟩:=p
  simp only [List.map_cons,Qk,ih]
  split<;>rfl
theorem Q2z (g:Ob→Ob) (o:List (Lab × Ob)) (l:Lab):Q0 (o.map fun p=>(p.1,g p.2)) l=(Q0 o l).map g:=by
 induction o with
 | nil=>rfl
 | cons p r ih=>
  obtain ⟨m,b⟩:=p
  simp only [List.map_cons,Q3,ih]
  split<;>rfl
theorem Qhv {eT:TypeId} {e:Ty} {xs:List e.den} {v:Value} (h:Z6 P τ S β w (.arr eT e xs) v) (hs:∃ A n c,v=.slice A n c):Rep τ (fun k=>S k∨blk v=some k) w (.sl eT e) xs [v]:=by
 obtain ⟨g,T,cur,fr,hv,hh,_,hrc⟩:=h
 rcases hv with rfl | ⟨cap,rfl,h1,h2⟩
 ·obtain ⟨_,_,_,h⟩:=hs;cases h
 ·refine ⟨some ⟨g,0,none⟩,cap,rfl,h1,h2,fun hpos=>⟨g,0,rfl,.inr rfl,(Array.getElem?_eq_some_iff.1 hh).1,fun i hi=>?_⟩⟩
  have he:=hrc.elem i hi
  have hlen:=hrc.length
  rw [List.length_take] at hlen
  have hcl:cur.toList.length=cur.size:=by simp
  refine ⟨_,he.length,fun j hj=>?_,he.mono (fun k hk=>.inl hk)⟩
  rw [he.length] at hj
  rw [cell_of_row w g _ cur T fr hh]
  have hi2:(i+1)*e.cells≤xs.length*e.cells:=Nat.mul_le_mul_right _ hi
  rw [Nat.add_mul,Nat.one_mul] at hi2
  have hsz:i*e.cells+j<cur.size:=by omega
  simp only [List.getD_eq_getElem?_getD,List.getElem?_take,List.getElem?_drop,if_pos hj]
  rw [if_pos (by omega),Nat.zero_add,Array.getElem?_toList,Array.getElem?_eq_getElem hsz]
  rfl
theorem Qep {eT:TypeId} {e:Ty} {xs:List e.den} {v:Value} (h:Z6 P τ S β w (.row eT e xs) v):Rep τ (fun k=>S k∨blk v=some k) w (.sl eT e) xs [v]:=by
 obtain ⟨hp,cells,hown,hrc⟩:=h
 obtain ⟨hlen,hc⟩:=hown
 rcases hc with ⟨rfl,h0⟩ | ⟨g,cap,cur,rfl,_,hh,h1,h2,h3,h4⟩
 ·have:xs=[]:=List.eq_nil_of_length_eq_zero h0
  subst this
  exact ⟨none,0,rfl,Nat.le_refl _,by simp [maxLen],fun h=>absurd h (by simp)⟩
 ·refine ⟨some ⟨g,0,none⟩,cap,rfl,h1,h2,fun hpos=>⟨g,0,rfl,.inr rfl,(Array.getElem?_eq_some_iff.1 hh).1,fun i hi=>?_⟩⟩
  have he:=hrc.elem i hi
  refine ⟨_,he.length,fun j hj=>?_,he.mono (fun k hk=>.inl hk)⟩
  have hce:((cells.drop (i*e.cells)).take e.cells).length=e.cells:=he.length
  rw [hce] at hj
  rw [cell_of_row w g _ cur eT (0,0) hh]
  have hi2:(i+1)*e.cells≤xs.length*e.cells:=Nat.mul_le_mul_right _ hi
  rw [Nat.add_mul,Nat.one_mul] at hi2
  have hgd:((cells.drop (i*e.cells)).take e.cells).getD j undef=cells.getD (i*e.cells+j) undef:=by
   simp only [List.getD_eq_getElem?_getD,List.getElem?_take,List.getElem?_drop,if_pos hj]
  rw [hgd,← h4]
  simp only [List.getD_eq_getElem?_getD,List.getElem?_take]
  rw [if_pos (by omega)]
  have hsz:i*e.cells+j<cur.size:=by
   rw [h3]
   exact Nat.lt_of_lt_of_le (by omega) (Nat.mul_le_mul_right e.cells h1)
  rw [Nat.zero_add,Array.getElem?_toList,Array.getElem?_eq_getElem hsz]
  rfl
theorem Rel.frz (h:Rel P τ N w0 F S β st a w) {l:Lab} {st':St} (hf:PE.frz st l=some st') :
  ∃ S',(∀ k,S k→S' k)∧Rel P τ N w0 F S' β st' a w:=by
 unfold PE.frz at hf
 split at hf
 case h_2=>cases hf
 case h_1 eT e xs ho=>
 simp only [Option.some.injEq] at hf
 subst hf
 have hsub:∀ k,S k→(S k∨blk (β l)=some k):=fun k hk=>.inl hk
 have hr:=Qep (h.objs l _ ho)
 have hlv:∀ v c,Qm P τ S β w v c→Qm P τ (fun k=>S k∨blk (β l)=some k) β w (Q42 l (.pure (.sl eT e) xs) v) c:=by
  intro v c hv
  have hv':=hv.frame (S':=fun k=>S k∨blk (β l)=some k) (β':=β) hsub (Nat.le_refl _) (fun _ _ _=>rfl) h.sb (fun _ _=>rfl)
  cases v<;>try exact hv'
  case ref m=>
   simp only [Q42]
   by_cases e:m=l
   ·subst e
    rw [Zd.2 rfl]
    have:β m=c:=hv.1
    subst this
    exact hr
   ·rw [X5.2 e];exact hv'
 refine ⟨fun k=>S k∨blk (β l)=some k,hsub,⟨fun k hk=>?_,fun t=>?_,fun m ob hm=>?_,fun m ob hm b hb=>?_,fun m m' ob ob' hm hm' hne b hb=>?_,h.fr,h.size,h.nodef,fun k hk=>hk.elim (h.within k) (fun hb=>.inr (h.excl l _ ho k hb).2.1),h.par⟩⟩
 ·rcases hk with hk | hk
  ·exact h.sb k hk
  ·exact (h.excl l _ ho k hk).2.2
 ·have e1:Q9 (st.slots.map fun p=>(p.1,Q3n l (Q11 (Q42 l (.pure (.sl eT e) xs)) id p.2))) t=Q3n l (Q11 (Q42 l (.pure (.sl eT e) xs)) id (Q9 st.slots t)):=
   Q8k (fun v=>Q3n l (Q11 (Q42 l (.pure (.sl eT e) xs)) id v)) rfl st.slots t
  show Qf P τ _ β w (Q9 (st.slots.map fun p=>(p.1,Q3n l (Q11 (Q42 l (.pure (.sl eT e) xs)) id p.2))) t) _
  rw [e1]
  have hs:=h.slots t
  revert hs
  cases Q9 st.slots t with
  | dead=>intro _;trivial
  | skip=>intro hs;exact hs
  | cv c=>intro hs;exact Xk.map hlv hs
  | tup cs=>intro hs;obtain ⟨vs,hv,hc⟩:=hs;exact ⟨vs,hv,hc.map hlv⟩
  | ep t x=>intro hs;exact Jb.frame hsub (Nat.le_refl _) (fun _ _ _=>rfl) hs
  | ap m i off sz=>
   intro hs
   simp only [Q11,Q3n,id]
   by_cases e:m=l
   ·rw [Zd.2 e];trivial
   ·rw [X5.2 e];exact hs
  | win m lo n sz=>
   intro hs
   simp only [Q11,Q3n,id]
   by_cases e:m=l
   ·rw [Zd.2 e];trivial
   ·rw [X5.2 e];exact hs
  | tupe m i sz=>
   intro hs
   simp only [Q11,Q3n,id]
   by_cases e:m=l
   ·rw [Zd.2 e];trivial
   ·rw [X5.2 e];exact hs
  | tupn x=>intro hs;exact hs
 ·have e1:Q0 ((Jr st.objs l).map fun p=>(p.1,Q0a (Q42 l (.pure (.sl eT e) xs)) p.2)) m=(Q0 (Jr st.objs l) m).map (Q0a (Q42 l (.pure (.sl eT e) xs))):=Q2z _ _ _
  simp only [e1,Zw] at hm
  split at hm
  ·cases hm
  ·cases ho':Q0 st.objs m with
   | none=>rw [ho'] at hm;cases hm
   | some ob0=>
    rw [ho'] at hm
    simp only [Option.map_some,Option.some.injEq] at hm
    subst hm
    have hob:=h.objs m ob0 ho'
    cases ob0 with
    | row eT' e' xs'=>obtain ⟨h0,cells,h1,h2⟩:=hob;exact ⟨h0,cells,h1,h2.frame hsub (Nat.le_refl _) (fun _ _ _=>rfl)⟩
    | arr eT' e' xs'=>obtain ⟨b,T',cs,fr,h0,h1,h2,h3⟩:=hob;exact ⟨b,T',cs,fr,h0,h1,h2,h3.frame hsub (Nat.le_refl _) (fun _ _ _=>rfl)⟩
    | mem eT' e' ys n0 ex=>
     obtain ⟨h0,A,c,e1,h1,h2,h3,h4,h5⟩:=hob
     refine ⟨h0,A,c,e1,h1,h2,h3,h4,?_⟩
     rcases h5 with hn | ⟨g,cur,e2,hh,hsz',hm⟩
     ·exact .inl hn
     ·exact .inr ⟨g,cur,e2,hh,hsz',hm.frame hsub (Nat.le_refl _) (fun _ _ _=>rfl)⟩
    | box T vs=>obtain ⟨b,T',cs,h1,h2,h3⟩:=hob;exact ⟨b,T',cs,h1,h2,h3.map hlv⟩
    | lrow eT' vs=>obtain ⟨cells,h1,h2⟩:=hob;exact ⟨cells,(by rw [List.length_map];exact h1),h2.map hlv⟩
 ·have e1:Q0 ((Jr st.objs l).map fun p=>(p.1,Q0a (Q42 l (.pure (.sl eT e) xs)) p.2)) m=(Q0 (Jr st.objs l) m).map (Q0a (Q42 l (.pure (.sl eT e) xs))):=Q2z _ _ _
  simp only [e1,Zw] at hm
  split at hm
  ·cases hm
  ·rename_i hne
   cases ho':Q0 st.objs m with
   | none=>rw [ho'] at hm;cases hm
   | some ob0=>
    obtain ⟨h1,h2,h3⟩:=h.excl m ob0 ho' b hb
    refine ⟨fun hs=>?_,h2,h3⟩
    rcases hs with hs | hs
    ·exact h1 hs
    ·exact h.dist m l ob0 _ ho' ho (fun x=>hne x.symm) b hb hs
 ·have e1:∀ m,Q0 ((Jr st.objs l).map fun p=>(p.1,Q0a (Q42 l (.pure (.sl eT e) xs)) p.2)) m=(Q0 (Jr st.objs l) m).map (Q0a (Q42 l (.pure (.sl eT e) xs))):=fun m=>Q2z _ _ _
  simp only [e1,Zw] at hm hm'
  split at hm
  ·cases hm
  ·split at hm'
   ·cases hm'
   ·cases ho1:Q0 st.objs m with
    | none=>rw [ho1] at hm;cases hm
    | some x1=>
     cases ho2:Q0 st.objs m' with
     | none=>rw [ho2] at hm';cases hm'
     | some x2=>exact h.dist m m' x1 x2 ho1 ho2 hne b hb
end
end Go.PE
set_option linter.unusedVariables false
namespace Go.PE
def Qju (P:Program) (T:TypeId):TD→Prop
 | .int k=>P.underlying T=some (.int k)
 | .bool=>P.underlying T=some .bool
 | .str=>P.underlying T=some .string
 | .ifc=>∃ ms,P.underlying T=some (.interface ms)
 | .slc e=>P.underlying T=some (.slice e)
 | .stc fs=>∃ gs,P.underlying T=some (.struct gs)∧gs.toList.map (fun g=>(g.type,g.offset))=fs
 | .ptr e=>P.underlying T=some (.pointer e)
 | .arr n e=>P.underlying T=some (.array n e)
 | .fnc=>True
 | .ovl _=>True
 | .mth _ _ _=>True
 | .elt _ _ _ _ _=>True
def notAgg:TypeDesc→Bool
 | .struct _=>false
 | .array _ _=>false
 | _=>true
def Zc:Ty→List Value
 | .pair a b=>Zc a++Zc b
 | .unit=>[]
 | .int k=>[.int k 0]
 | .bool=>[.bool false]
 | .str=>[.string ⟨#[]⟩]
 | .ifc=>[.nilIface]
 | .sl _ _=>[.slice none 0 0]
structure Q5i (P:Program) (T:TypeId) (t:Ty):Prop where
 info:∃ i z,P.info? T=some i∧i.size=t.cells∧i.zero=some z∧z.cells.toList=Zc t∧(t.isAgg=true→∃ c,z=.agg c)∧i.bytes≤131072
 agg:t.isAgg=true→(∃ fs,P.underlying T=some (.struct fs))∨(∃ n e,P.underlying T=some (.array n e))
 one:t.isAgg=false→∃ d,P.underlying T=some d∧notAgg d=true
def Q3v (fn:Func) (n:String):Option (Array Value→Sem Value):=
 (Extern.allGenericRows.lookup n).map (· fn.targs fn.params fn.resultTypes) <|> (Extern.allTypedRows.lookup n).map (· fn.params fn.resultTypes) <|> Extern.allRows.lookup n
def Qie (P:Program) (g:Nat):Prop:=
 ∃ fn tS tR e i,P.funcs[g]?=some fn∧(fn.name=="runtime.NumGoroutine")=false∧fn.body.isNone=true∧Extern.findNext fn=none∧(Q3v fn fn.name).isNone=true∧fn.origin="slices.overlaps" ∧
  fn.params=#[tS,tS]∧fn.resultTypes=#[tR]∧P.underlying tS=some (.slice e)∧P.info? e=some i
def Qia (P:Program) (T:TypeId) (m:String) (g:FuncId):Prop:=
 ∃ i mm fs,P.info? T=some i∧i.methods.find? (·.name==m)=some mm∧mm.path.toList=[]∧mm.func=some (g,false)∧P.underlying T=some (.struct fs)
def Qi5 (P:Program) (f:FuncId) (W:TypeId) (k:IntKind) (c:Int) (sz:Nat):Prop:=
 Qdt P f∧∀ (w:World) (b:Nat) (cs:Array Value) (T:TypeId) (A:Option Addr) (n cp:Nat) (r:Int),w.heap[b]?=some (.cells cs T (0,0))→cs[0]?=some (.slice A n cp)→n≤maxLen →
  ((r<1∨(n:Int)<r)→Calls P f #[.pointer (some ⟨b,0,none⟩),.int .i64 r] w fun ex w'=>(∃ u,ex=.returned (.tuple #[u,.iface W (.agg #[.int k c])]))∧Fr (fun _=>False) w w') ∧
  (1≤r→r≤(n:Int)→∀ g,A=some ⟨g,0,none⟩→Calls P f #[.pointer (some ⟨b,0,none⟩),.int .i64 r] w fun ex w'=>ex=.returned (.tuple #[.pointer (some ⟨g,(r - 1).toNat*sz,none⟩),.nilIface])∧Fr (fun _=>False) w w')
structure Qc (P:Program) (τ:Tab):Prop where
 td:∀ T d,τ.td T=some d→Qju P T d
 ty:∀ T t,τ.ty T=some t→Q5i P T t
 arrz:∀ T n eT e,τ.td T=some (.arr n eT)→τ.ty eT=some e→e.cells=1→∃ i z,P.info? T=some i∧i.zero=some (.agg z)∧z.toList=List.replicate n ((Zc e).getD 0 undef)
 fld:∀ T fs,τ.td T=some (.stc fs)→∀ f∈fs,∃ i,P.info? f.1=some i
 ovl:∀ K g,τ.td K=some (.ovl g)→Qie P g
 elt:∀ K f W k c sz,τ.td K=some (.elt f W k c sz)→Qi5 P f W k c sz
 mth:∀ K T m g,τ.td K=some (.mth T m g)→Qia P T m g
 pos:∀ T eT e,τ.td T=some (.slc eT)→τ.ty eT=some e→0<e.cells
 u8:∀ eT,τ.ty eT=some (.int .u8)→∃ i,P.info? eT=some i∧i.size=1∧i.bytes=1∧i.zero=some (.int .u8 0)
 eqs:∀ T fs,τ.td T=some (.stc fs)→Q1t τ 0 fs=true→P.stoodInHeld T=false∧P.eqGuardType P.depth T=false∧∀ f∈(P.fieldsOf T).toList,f.name≠"_"
theorem Ty.cells_one {t:Ty} (h:t.isAgg=false):t.cells=1:=by cases t<;>first | rfl | cases h
section
variable {P:Program} {tab:Tab} {N:NN} {w0:World} {F:FF} {S:Nat→Prop} {β:Lab→Value} {st:St} {a:Act} {w:World}
theorem Zq (b o n:Nat):(⟨b,o,none⟩:Addr).add n=⟨b,o+n,none⟩:=by unfold Addr.add;split<;>simp_all
theorem Q0q {T:TypeId} {t:Ty} (h:Q5i P T t):(isAgg T).run P w=.ok t.isAgg w:=by
 cases ha:t.isAgg with
 | true=>
  rcases h.agg ha with ⟨fs,hu⟩ | ⟨n,e,hu⟩<;>simp [isAgg,run_underlying hu]
 | false=>
  obtain ⟨d,hu,hd⟩:=h.one ha
  cases d<;>first | (cases hd;done) | simp [isAgg,run_underlying hu]
theorem Z8 {T:TypeId} {t:Ty} (h:Q5i P T t):(sizeOf T).run P w=.ok t.cells w:=by
 obtain ⟨i,z,h1,h2,_⟩:=h.info
 simp [sizeOf,typeInfo,h1,h2]
theorem Q46 {T:TypeId} {t:Ty} (h:Q5i P T t):∃ z,(zeroValue T).run P w=.ok z w∧z.cells.toList=Zc t∧(t.isAgg=true→∃ c,z=.agg c):=by
 obtain ⟨i,z,h1,h2,h3,h4,h5,_⟩:=h.info
 exact ⟨z,by simp [zeroValue,typeInfo,h1,h3],h4,h5⟩
def Xe (t:Ty) (cs:List Value):Value:=bif t.isAgg then .agg cs.toArray else cs.getD 0 undef
theorem Q6h {T:TypeId} {t:Ty} (h:Q5i P T t) {b o:Nat} {cs:List Value} (hl:cs.length=t.cells) (hc:Xz w b o cs) :
  (loadVar T ⟨b,o,none⟩).run P w=.ok (Xe t cs) w:=by
 cases ha:t.isAgg with
 | true=>
  have h1:=run_loadCells_list (P:=P) w ⟨b,o,none⟩ cs (fun j v hv=>by
   have hj:j<cs.length:=by
    rcases Nat.lt_or_ge j cs.length with hj | hj
    ·exact hj
    ·rw [List.getElem?_eq_none hj] at hv;cases hv
   rw [Zq,hc j hj,List.getD_eq_getElem?_getD,hv];rfl)
  rw [hl] at h1
  simp [loadVar,Q0q h,ha,Z8 h,h1,Xe]
 | false=>
  have h0:=hc 0 (by rw [hl,Ty.cells_one ha];omega)
  simp only [Nat.add_zero] at h0
  simp [loadVar,Q0q h,ha,h0,Xe]
theorem Q2j {τ:TypeId→Option Ty} {t:Ty} {x:t.den} {cs:List Value} (h:Rep τ S w t x cs):Q0j τ S w t x (Xe t cs):=by
 unfold Xe
 cases ha:t.isAgg with
 | true=>exact .inl ⟨ha,cs,rfl,h⟩
 | false=>
  have hl:=h.length
  rw [Ty.cells_one ha] at hl
  obtain ⟨c,rfl⟩:=List.length_eq_one_iff.1 hl
  exact .inr ⟨ha,h⟩
theorem Q5.append {τ:TypeId→Option Ty}:∀ {xs ys:List LV} {cs ds:List Value},Q5 P τ S β w xs cs→Q5 P τ S β w ys ds→Q5 P τ S β w (xs++ys) (cs++ds)
 | [],ys,cs,ds,h,h'=>by simp only [Q5] at h;subst h;exact h'
 | x::r,ys,cs,ds,h,h'=>by obtain ⟨c,cr,rfl,h1,h2⟩:=h;exact ⟨c,cr++ds,rfl,h1,Q5.append h2 h'⟩
theorem Qau {τ:TypeId→Option Ty}:∀ {t:Ty} {x:t.den} {cs:List Value},Rep τ S w t x cs→Q5 P τ S β w (lvs t x) cs:=by
 intro t
 induction t with
 | int k=>intro x cs h;have:=h.length;obtain ⟨c,rfl⟩:=List.length_eq_one_iff.1 this;exact ⟨c,[],rfl,h,rfl⟩
 | bool=>intro x cs h;have:=h.length;obtain ⟨c,rfl⟩:=List.length_eq_one_iff.1 this;exact ⟨c,[],rfl,h,rfl⟩
 | str=>intro x cs h;have:=h.length;obtain ⟨c,rfl⟩:=List.length_eq_one_iff.1 this;exact ⟨c,[],rfl,h,rfl⟩
 | ifc=>intro x cs h;have:=h.length;obtain ⟨c,rfl⟩:=List.length_eq_one_iff.1 this;exact ⟨c,[],rfl,h,rfl⟩
 | sl n e ih=>intro x cs h;have:=h.length;obtain ⟨c,rfl⟩:=List.length_eq_one_iff.1 this;exact ⟨c,[],rfl,h,rfl⟩
 | pair a b iha ihb=>
  intro x cs h
  obtain ⟨c1,c2,rfl,h1,h2⟩:=h
  exact Q5.append (iha h1) (ihb h2)
 | unit=>intro x cs h;simp only [Rep] at h;subst h;rfl
theorem Q37 {τ:TypeId→Option Ty} {t:Ty} {x:t.den} {v:Value} (h:Q0j τ S w t x v):Xk P τ S β w (Qay t x) v:=by
 unfold Qay
 rcases h with ⟨ha,cs,rfl,hr⟩ | ⟨ha,hr⟩
 ·rw [ha];exact ⟨cs,rfl,Qau hr⟩
 ·rw [ha];exact hr
theorem Q5.length {τ:TypeId→Option Ty}:∀ {xs:List LV} {cs:List Value},Q5 P τ S β w xs cs→cs.length=xs.length
 | [],cs,h=>by simp only [Q5] at h;simp [h]
 | x::r,cs,h=>by obtain ⟨c,cr,rfl,_,h2⟩:=h;simp [Q5.length h2]
theorem Q5.get {τ:TypeId→Option Ty}:∀ {xs:List LV} {cs:List Value} (i:Nat) {v:LV},Q5 P τ S β w xs cs→xs[i]?=some v→∃ c,cs[i]?=some c∧Qm P τ S β w v c
 | [],cs,i,v,h,hi=>by simp at hi
 | x::r,cs,0,v,h,hi=>by obtain ⟨c,cr,rfl,h1,_⟩:=h;simp at hi;subst hi;exact ⟨c,rfl,h1⟩
 | x::r,cs,i+1,v,h,hi=>by obtain ⟨c,cr,rfl,_,h2⟩:=h;exact Q5.get i h2 (by simpa using hi)
theorem Q5.drop {τ:TypeId→Option Ty}:∀ {xs:List LV} {cs:List Value} (n:Nat),Q5 P τ S β w xs cs→Q5 P τ S β w (xs.drop n) (cs.drop n)
 | [],cs,n,h=>by simp only [Q5] at h;subst h;simp [Q5]
 | x::r,cs,0,h=>h
 | x::r,cs,n+1,h=>by obtain ⟨c,cr,rfl,_,h2⟩:=h;exact Q5.drop n h2
theorem Q5.take {τ:TypeId→Option Ty}:∀ {xs:List LV} {cs:List Value} (n:Nat),Q5 P τ S β w xs cs→Q5 P τ S β w (xs.take n) (cs.take n)
 | [],cs,n,h=>by simp only [Q5] at h;subst h;simp [Q5]
 | x::r,cs,0,h=>by simp [Q5]
 | x::r,cs,n+1,h=>by obtain ⟨c,cr,rfl,h1,h2⟩:=h;exact ⟨c,cr.take n,rfl,h1,Q5.take n h2⟩
theorem Q5.set {τ:TypeId→Option Ty}:∀ {xs:List LV} {cs:List Value} (i:Nat) {v:LV} {c:Value},Q5 P τ S β w xs cs→Qm P τ S β w v c→Q5 P τ S β w (xs.set i v) (cs.set i c)
 | [],cs,i,v,c,h,hv=>by simp only [Q5] at h;subst h;simp [Q5]
 | x::r,cs,0,v,c,h,hv=>by obtain ⟨c',cr,rfl,h1,h2⟩:=h;exact ⟨c,cr,rfl,hv,h2⟩
 | x::r,cs,i+1,v,c,h,hv=>by obtain ⟨c',cr,rfl,h1,h2⟩:=h;exact ⟨c',cr.set i c,rfl,h1,Q5.set i h2 hv⟩
def Q25 (S:Nat→Prop) (β:Lab→Value) (ls:List Lab):Nat→Prop:=fun k=>S k∨∃ l∈ls,blk (β l)=some k
theorem Xx {τ:TypeId→Option Ty} {t t':Ty} {x:t.den} {y:t'.den} {cs:List Value} (h:Zi t t' x=some y) (hr:Rep τ S w t x cs):Rep τ S w t' y cs:=by
 obtain ⟨e,he⟩:=Z1 h
 subst e;subst he;exact hr
theorem Q24 {τ:TypeId→Option Ty} (hob:∀ l ob,Q0 st.objs l=some ob→Z6 P τ S β w ob (β l))
  {t:Ty} {v:LV} {x:t.den} {c:Value} (hd:Jj (Q0 st.objs) t v=some x) (hv:Qm P τ S β w v c):Rep τ (Q25 S β (Qi [(v,false)])) w t x [c]:=by
 cases v with
 | pure t' y=>exact (Xx hd hv).mono (fun _ h=>.inl h)
 | nil=>
  have:c=.slice none 0 0:=hv
  subst this
  cases t with
  | sl n e=>
   have hx:([]:List e.den)=x:=Option.some.inj hd
   subst hx
   exact ⟨none,0,rfl,Nat.le_refl _,by simp [maxLen],fun h=>absurd h (by simp)⟩
  | _=>cases hd
 | lit b=>
  have:c=.bool b:=hv
  subst this
  exact Xx (t:=.bool) (x:=b) hd rfl
 | ref l=>
  simp only [Jj] at hd
  split at hd
  case h_3=>cases hd
  case h_2 eT e xs ho=>
   have hc:β l=c:=hv.1
   have ho':=hob l _ ho
   rw [hc] at ho'
   have hr:=Qhv ho' hv.2
   refine (Xx hd hr).mono (fun k hk=>?_)
   rcases hk with hk | hk
   ·exact .inl hk
   ·exact .inr ⟨l,by simp [Qi],by rw [hc];exact hk⟩
  case h_1 eT e xs ho=>
  have hr:=Qep (hob l _ ho)
  have hc:β l=c:=hv.1
  rw [hc] at hr
  refine (Xx hd hr).mono (fun k hk=>?_)
  rcases hk with hk | hk
  ·exact .inl hk
  ·exact .inr ⟨l,by simp [Qi],by rw [hc];exact hk⟩
 | ptr l off=>cases hd
 | gfn f=>cases hd
 | clo ps rs g=>cases hd
 | nb ne=>cases hd
theorem Xw (v:LV) (r:List (LV × Bool)):Qi ((v,false)::r)=Qi [(v,false)]++Qi r:=by
 cases v<;>simp [Qi]
theorem Q7o (vs:List LV):Qg vs []=vs.map fun v=>(v,false):=by
 induction vs with
 | nil=>rfl
 | cons v r ih=>simp [Qg,ih]
theorem Qd2 {τ:TypeId→Option Ty} (hob:∀ l ob,Q0 st.objs l=some ob→Z6 P τ S β w ob (β l)) :
  ∀ {t:Ty} {vs:List LV} {x:t.den} {r:List LV} {cs:List Value},Q1s (Q0 st.objs) t vs=some (x,r)→Q5 P τ S β w vs cs →
   ∃ c1 c2 v1,cs=c1++c2∧vs=v1++r∧Rep τ (Q25 S β (Qi (v1.map fun v=>(v,false)))) w t x c1∧Q5 P τ S β w r c2:=by
 have leaf:∀ {t:Ty} {vs:List LV} {x:t.den} {r:List LV} {cs:List Value},(∀ v q,vs=v::q→Jj (Q0 st.objs) t v=some x→r=q →
   Q5 P τ S β w vs cs→∃ c1 c2 v1,cs=c1++c2∧vs=v1++r∧Rep τ (Q25 S β (Qi (v1.map fun v=>(v,false)))) w t x c1∧Q5 P τ S β w r c2):=by
  intro t vs x r cs v q hvs hd hr h
  subst hvs;subst hr
  obtain ⟨c,cr,rfl,h1,h2⟩:=h
  exact ⟨[c],cr,[v],rfl,rfl,Q24 hob hd h1,h2⟩
 have base:∀ {t:Ty} {v:LV} {q:List LV} {x:t.den} {r:List LV},((Jj (Q0 st.objs) t v).bind fun x=>some (x,q))=some (x,r)→Jj (Q0 st.objs) t v=some x∧r=q:=by
  intro t v q x r h
  simp only [Option.bind_eq_some_iff,Option.some.injEq,Prod.mk.injEq] at h
  obtain ⟨y,hy,rfl,rfl⟩:=h
  exact ⟨hy,rfl⟩
 intro t
 induction t with
 | int k=>
  intro vs x r cs hd h
  cases vs with
  | nil=>cases hd
  | cons v q=>obtain ⟨h1,h2⟩:=base hd;exact leaf v q rfl h1 h2 h
 | bool=>
  intro vs x r cs hd h
  cases vs with
  | nil=>cases hd
  | cons v q=>obtain ⟨h1,h2⟩:=base hd;exact leaf v q rfl h1 h2 h
 | str=>
  intro vs x r cs hd h
  cases vs with
  | nil=>cases hd
  | cons v q=>obtain ⟨h1,h2⟩:=base hd;exact leaf v q rfl h1 h2 h
 | ifc=>
  intro vs x r cs hd h
  cases vs with
  | nil=>cases hd
  | cons v q=>obtain ⟨h1,h2⟩:=base hd;exact leaf v q rfl h1 h2 h
 | sl n e ih=>
  intro vs x r cs hd h
  cases vs with
  | nil=>cases hd
  | cons v q=>obtain ⟨h1,h2⟩:=base hd;exact leaf v q rfl h1 h2 h
 | pair a b iha ihb=>
  intro vs x r cs hd h
  simp only [Q1s,Option.bind_eq_some_iff,Option.some.injEq,Prod.exists] at hd
  obtain ⟨x1,r1,hd1,x2,r2,hd2,rfl,rfl⟩:=hd
  obtain ⟨c1,c2,v1,rfl,rfl,hr1,h2⟩:=iha hd1 h
  obtain ⟨d1,d2,v2,rfl,rfl,hr2,h3⟩:=ihb hd2 h2
  refine ⟨c1++d1,d2,v1++v2,by simp,by simp,⟨c1,d1,rfl,hr1.mono ?_,hr2.mono ?_⟩,h3⟩
  ·rintro k (hk | ⟨l,hl,hb⟩)
   ·exact .inl hk
   ·refine .inr ⟨l,?_,hb⟩
    clear h hd1 hd2 hr1 hr2 h2 h3
    induction v1 with
    | nil=>simp [Qi] at hl
    | cons v q ih=>
     rw [List.map_cons,Xw] at hl
     rw [List.cons_append,List.map_cons,Xw]
     rcases List.mem_append.1 hl with hl | hl
     ·exact List.mem_append.2 (.inl hl)
     ·exact List.mem_append.2 (.inr (ih hl))
  ·rintro k (hk | ⟨l,hl,hb⟩)
   ·exact .inl hk
   ·refine .inr ⟨l,?_,hb⟩
    clear h hd1 hd2 hr1 hr2 h2 h3
    induction v1 with
    | nil=>simpa using hl
    | cons v q ih=>
     rw [List.cons_append,List.map_cons,Xw]
     exact List.mem_append.2 (.inr ih)
 | unit=>
  intro vs x r cs hd h
  simp only [Q1s,Option.some.injEq] at hd
  obtain ⟨_,rfl⟩:=hd
  exact ⟨[],cs,[],rfl,rfl,rfl,h⟩
theorem Q5q {τ:TypeId→Option Ty} (hob:∀ l ob,Q0 st.objs l=some ob→Z6 P τ S β w ob (β l))
  {t:Ty} {c:CV} {x:t.den} {v:Value} (hd:Q1f (Q0 st.objs) t c=some x) (hv:Xk P τ S β w c v) :
  Q0j τ (Q25 S β (Qi (Qg (Xs c) []))) w t x v:=by
 cases c with
 | one y=>
  simp only [Q1f] at hd
  cases ha:t.isAgg with
  | true=>rw [ha] at hd;cases hd
  | false=>
   rw [ha] at hd
   exact .inr ⟨ha,Q24 hob hd hv⟩
 | agg vs=>
  simp only [Q1f] at hd
  cases ha:t.isAgg with
  | false=>rw [ha] at hd;cases hd
  | true=>
   rw [ha] at hd
   simp only [cond_true] at hd
   split at hd
   case h_2=>cases hd
   case h_1 y he=>
   simp only [Option.some.injEq] at hd
   subst hd
   obtain ⟨cs,rfl,hc⟩:=hv
   obtain ⟨c1,c2,v1,rfl,h1,h2,h3⟩:=Qd2 hob he hc
   simp only [Q5] at h3
   subst h3
   rw [List.append_nil] at h1
   subst h1
   refine .inl ⟨ha,c1,by simp,?_⟩
   rw [Xs,Q7o]
   exact h2
end
end Go.PE
set_option linter.unusedVariables false
set_option linter.unusedSimpArgs false
namespace Go.PE
section
variable {P:Program} {tab:Tab} {N:NN} {w0:World} {F:FF} {S:Nat→Prop} {β:Lab→Value} {st:St} {a:Act} {w:World}
def Qjs (P:Program) (o:Oper) (a:Act) (w:World) (x:Value) (w':World):Prop:=
 (execOp a.eval o).run P w=.ok (.value x) w'∨((execOp a.eval o).run P w=.ok .skip w'∧x=undef)
def Qa (P:Program) (tab:Tab) (N:NN) (w0:World) (F:FF) (S:Nat→Prop) (β:Lab→Value) (st:St) (a:Act) (w:World) (o:Oper) (v:SV) (u:Upd):Prop:=
 ∃ x w',Qjs P o a w x w'∧∀ st',Qs st (o.dst.getD 999999999) u=some st' →
  ∃ S' β',(∀ k,S k→S' k)∧(∀ l:Lab,l.1≠o.dst.getD 999999999→β' l=β l)∧Rel P tab.ty N w0 F S' β' st' a w'∧Qf P tab.ty S' β' w' v x
theorem Qar (st:St) (d:Nat):Qs st d []=some st:=rfl
theorem Qa.plain (h:Rel P tab.ty N w0 F S β st a w) {o:Oper} {v:SV} {x:Value} (hr:(execOp a.eval o).run P w=.ok (.value x) w) (hv:Qf P tab.ty S β w v x) :
  Qa P tab N w0 F S β st a w o v []:=
 ⟨x,w,.inl hr,fun st' he=>by rw [Qar] at he;have:=Option.some.inj he;subst this;exact ⟨S,β,fun _ h=>h,fun _ _=>rfl,h,hv⟩⟩
theorem Qcf {v:Value} {l:LV} (h:Q3w v=some l):Qm P tab.ty S β w l v:=by
 unfold Q3w at h
 split at h
 case h_1=>have h:=Option.some.inj h;subst h;exact (rfl:[_]=[_])
 case h_2=>have h:=Option.some.inj h;subst h;exact rfl
 case h_3=>have h:=Option.some.inj h;subst h;exact (rfl:[_]=[_])
 case h_4=>have h:=Option.some.inj h;subst h;exact rfl
 case h_5=>have h:=Option.some.inj h;subst h;exact ⟨rfl,trivial⟩
 case h_6=>cases h
theorem Q4 (h:Rel P tab.ty N w0 F S β st a w) (x:Operand):Qf P tab.ty S β w (Qb st.slots x) (a.eval x):=by
 cases x with
 | tmp t=>exact h.slots t
 | const v=>
  simp only [Qb,Qaq,Act.eval]
  cases hc:Q3w v with
  | none=>trivial
  | some l=>exact Qcf hc
 | func f=>exact rfl
 | global g=>trivial
theorem Qy {v:SV} {l:LV} {x:Value} (h:J4 v=some l) (hv:Qf P tab.ty S β w v x):Qm P tab.ty S β w l x:=by
 unfold J4 at h
 split at h
 ·simp only [Option.some.injEq] at h;subst h;exact hv
 ·cases h
theorem Qv {l:LV} {p:IntKind × Int} {x:Value} (h:Xg l=some p) (hv:Qm P tab.ty S β w l x):x=.int p.1 p.2:=by
 unfold Xg at h
 split at h
 ·have h:=Option.some.inj h
  subst h
  exact List.singleton_inj.1 hv
 ·cases h
theorem X6 {l:LV} {b:Bool} {x:Value} (h:Jt l=some b) (hv:Qm P tab.ty S β w l x):x=.bool b:=by
 unfold Jt at h
 split at h
 ·have h:=Option.some.inj h;subst h;exact hv
 ·have h:=Option.some.inj h
  subst h
  exact List.singleton_inj.1 hv
 ·cases h
theorem X0 {l:LV} {s:ByteArray} {x:Value} (h:Q2w l=some s) (hv:Qm P tab.ty S β w l x):x=.string s:=by
 unfold Q2w at h
 split at h
 ·have h:=Option.some.inj h
  subst h
  exact List.singleton_inj.1 hv
 ·cases h
theorem Q5y (k:IntKind) (n:Int):Qf P tab.ty S β w (.cv (.one (.pure (.int k) n))) (.int k n):=(rfl:[Value.int k n]=[.int k n])
theorem Q52 (b:Bool):Qf P tab.ty S β w (.cv (.one (.pure .bool b))) (.bool b):=(rfl:[Value.bool b]=[.bool b])
theorem Qe2 (s:ByteArray):Qf P tab.ty S β w (.cv (.one (.pure .str s))) (.string s):=(rfl:[Value.string s]=[.string s])
theorem Qj1 {a b:IntKind} (h:Nat.beq (Qq a) (Qq b)=true):a=b:=Jz (Nat.eq_of_beq_eq_true h)
theorem Qdj {op:BinOp} {k:IntKind} {x y:Int} {c:Bool} {r:LV} (T:TypeId) (h:Qdl op k x y=some (c,r)) (hc:c=true) :
  ∃ v,(binOp op T (.int k x) (.int k y)).run P w=.ok v w∧Qm P tab.ty S β w r v:=by
 cases op<;>simp only [Qdl,Option.some.injEq,Prod.mk.injEq,reduceCtorEq] at h<;>first | (cases h;done) | skip
 all_goals obtain ⟨h1,h2⟩:=h
 all_goals subst h2
 case quo=>subst h1;simp only [Bool.not_eq_true',beq_eq_false_iff_ne] at hc;exact ⟨_,by simp [binOp,Op.intDiv,hc],(rfl:[_]=[_])⟩
 case rem=>subst h1;simp only [Bool.not_eq_true',beq_eq_false_iff_ne] at hc;exact ⟨_,by simp [binOp,Op.intDiv,hc],(rfl:[_]=[_])⟩
 all_goals exact ⟨_,by simp [binOp,Op.intArith,Op.intBits,Op.intCmp],(rfl:[_]=[_])⟩
theorem Q94 {op:BinOp} {k k':IntKind} {x y:Int} {c:Bool} {r:LV} (T:TypeId) (h:Qez op k x y=some (c,r)) (hc:c=true) :
  ∃ v,(binOp op T (.int k x) (.int k' y)).run P w=.ok v w∧Qm P tab.ty S β w r v:=by
 cases op<;>simp only [Qez,Option.some.injEq,Prod.mk.injEq,reduceCtorEq] at h<;>first | (cases h;done) | skip
 all_goals obtain ⟨h1,h2⟩:=h
 all_goals subst h2
 all_goals subst h1
 all_goals have hy:¬ y<0:=by simpa using hc
 all_goals exact ⟨_,by simp [binOp,Op.shift,hy],(rfl:[_]=[_])⟩
theorem Qdf {op:BinOp} {x y:ByteArray} {c:Bool} {r:LV} (T:TypeId) (h:Qdo op x y=some (c,r)) (hc:c=true) :
  ∃ v,(binOp op T (.string x) (.string y)).run P w=.ok v w∧Qm P tab.ty S β w r v:=by
 cases op<;>simp only [Qdo,Option.some.injEq,Prod.mk.injEq,reduceCtorEq] at h<;>first | (cases h;done) | skip
 all_goals obtain ⟨h1,h2⟩:=h
 all_goals subst h2
 case add=>
  subst h1
  have hy:¬ (((x.size+y.size:Nat):Int)>IntKind.i64.max):=by
   have:=of_decide_eq_true hc
   simp [IntKind.max,IntKind.signed,IntKind.bits];omega
  exact ⟨_,by simp only [binOp,Op.stringOp,if_neg hy];rfl,(rfl:[_]=[_])⟩
 all_goals exact ⟨_,by simp [binOp,Op.stringOp,Q98],(rfl:[_]=[_])⟩
theorem Qc2 {op:BinOp} {x y:Bool} {c:Bool} {r:LV} {T:TypeId} (hT:P.underlying T=some .bool) (h:Qa8 op x y=some (c,r)) (hc:c=true) :
  ∃ v,(binOp op T (.bool x) (.bool y)).run P w=.ok v w∧Qm P tab.ty S β w r v:=by
 cases op<;>simp only [Qa8,Option.some.injEq,Prod.mk.injEq,reduceCtorEq] at h<;>first | (cases h;done) | skip
 all_goals obtain ⟨h1,h2⟩:=h
 all_goals subst h2
 case eql=>exact ⟨_,run_eql_bool w T x y hT,(rfl:[_]=[_])⟩
 case neq=>exact ⟨_,run_neq_bool w T x y hT,(rfl:[_]=[_])⟩
theorem Qfi {op:BinOp} {x y:LV} {c:Bool} {r:LV} {T:TypeId} {u v:Value} (h:Q9a op x y=some (c,r)) (hc:c=true)
  (hT:∀ b,Jt x=some b→P.underlying T=some .bool) (hx:Qm P tab.ty S β w x u) (hy:Qm P tab.ty S β w y v) :
  ∃ z,(binOp op T u v).run P w=.ok z w∧Qm P tab.ty S β w r z:=by
 unfold Q9a at h
 split at h
 ·rename_i k m k' n hm hn
  have e1:=Qv hm hx
  have e2:=Qv hn hy
  subst e1;subst e2
  split at h
  ·exact Q94 T h hc
  ·exact Q94 T h hc
  ·cases hb:Nat.beq (Qq k) (Qq k') with
   | false=>rw [hb] at h;cases h
   | true=>
    rw [hb] at h
    have e:=Qj1 hb
    subst e
    exact Qdj T h hc
 ·split at h
  ·rename_i s t hs ht
   have e1:=X0 hs hx
   have e2:=X0 ht hy
   subst e1;subst e2
   exact Qdf T h hc
  ·split at h
   ·rename_i s t hs ht
    have e1:=X6 hs hx
    have e2:=X6 ht hy
    subst e1;subst e2
    exact Qc2 (hT _ hs) h hc
   ·cases h
theorem Q2 {a b:Nat}:Nat.ble a b=true↔a≤b:=by rw [Nat.ble_eq]
theorem Q8l {a b:Nat} (h:Nat.blt a b=false):b≤a:=by
 rcases Nat.lt_or_ge a b with hlt | hge
 ·have:Nat.blt a b=true:=Q2.2 hlt
  rw [this] at h;cases h
 ·exact hge
theorem Q3x {τ:TypeId→Option Ty}:∀ {e:Ty} {x:e.den} {off:Nat} {t:Ty} {y:t.den} {cs:List Value},Q68 e x off t=some y→Rep τ S w e x cs →
  off+t.cells≤cs.length∧Rep τ S w t y ((cs.drop off).take t.cells):=by
 intro e
 have leaf:∀ {e:Ty} {x:e.den} {off:Nat} {t:Ty} {y:t.den} {cs:List Value},(bif Nat.beq off 0 then Zi e t x else none)=some y→Rep τ S w e x cs →
   off+t.cells≤cs.length∧Rep τ S w t y ((cs.drop off).take t.cells):=by
  intro e x off t y cs h hr
  cases hb:Nat.beq off 0 with
  | false=>rw [hb] at h;cases h
  | true=>
   rw [hb] at h
   have:=Nat.eq_of_beq_eq_true hb
   subst this
   have hl:=(Xx h hr).length
   refine ⟨by omega,?_⟩
   rw [List.drop_zero,List.take_of_length_le (by omega)]
   exact Xx h hr
 induction e with
 | pair a b iha ihb=>
  intro x off t y cs h hr
  simp only [Q68] at h
  split at h
  ·rename_i z hz
   simp only [Option.some.injEq] at h
   subst h
   exact leaf hz hr
  ·obtain ⟨c1,c2,rfl,h1,h2⟩:=hr
   have hl1:=h1.length
   cases hb:Nat.blt off a.cells with
   | true=>
    rw [hb] at h
    obtain ⟨hle,hrep⟩:=iha h h1
    refine ⟨by rw [List.length_append];omega,?_⟩
    rw [List.drop_append_of_le_length (by omega),List.take_append_of_le_length (by rw [List.length_drop];omega)]
    exact hrep
   | false=>
    rw [hb] at h
    have hge:a.cells≤off:=Q8l hb
    obtain ⟨hle,hrep⟩:=ihb h h2
    refine ⟨by rw [List.length_append];omega,?_⟩
    rw [List.drop_append,List.drop_eq_nil_of_le (by omega),List.nil_append,hl1]
    exact hrep
 | int k=>intro x off t y cs h hr;exact leaf h hr
 | bool=>intro x off t y cs h hr;exact leaf h hr
 | str=>intro x off t y cs h hr;exact leaf h hr
 | ifc=>intro x off t y cs h hr;exact leaf h hr
 | sl n e ih=>intro x off t y cs h hr;exact leaf h hr
 | unit=>intro x off t y cs h hr;exact leaf h hr
theorem Q9d {τ:TypeId→Option Ty}:∀ {e:Ty} {x:e.den} {off:Nat} {t:Ty} {y:t.den} {z:e.den} {cs ds:List Value},Q9i e x off t y=some z→Rep τ S w e x cs→Rep τ S w t y ds →
  off+t.cells≤cs.length∧Rep τ S w e z (cs.take off++ds++cs.drop (off+t.cells)):=by
 intro e
 have leaf:∀ {e:Ty} {x:e.den} {off:Nat} {t:Ty} {y:t.den} {z:e.den} {cs ds:List Value},(bif Nat.beq off 0 then Zi t e y else none)=some z→Rep τ S w e x cs→Rep τ S w t y ds →
   off+t.cells≤cs.length∧Rep τ S w e z (cs.take off++ds++cs.drop (off+t.cells)):=by
  intro e x off t y z cs ds h hr hd
  cases hb:Nat.beq off 0 with
  | false=>rw [hb] at h;cases h
  | true=>
   rw [hb] at h
   have:=Nat.eq_of_beq_eq_true hb
   subst this
   obtain ⟨e1,_⟩:=Z1 h
   subst e1
   have hl:=hr.length
   refine ⟨by omega,?_⟩
   rw [List.take_zero,List.nil_append,Nat.zero_add,List.drop_eq_nil_of_le (by omega),List.append_nil]
   exact Xx h hd
 induction e with
 | pair a b iha ihb=>
  intro x off t y z cs ds h hr hd
  simp only [Q9i] at h
  split at h
  ·rename_i q hz
   simp only [Option.some.injEq] at h
   subst h
   exact leaf hz hr hd
  ·obtain ⟨c1,c2,rfl,h1,h2⟩:=hr
   have hl1:=h1.length
   have hld:=hd.length
   cases hb:Nat.blt off a.cells with
   | true=>
    rw [hb] at h
    simp only [cond_true,Option.bind_eq_some_iff] at h
    obtain ⟨z1,hz1,hz2⟩:=h
    have hz2:=Option.some.inj hz2
    subst hz2
    obtain ⟨hle,hrep⟩:=iha hz1 h1 hd
    refine ⟨by rw [List.length_append];omega,_,c2,?_,hrep,h2⟩
    rw [List.take_append_of_le_length (by omega),List.drop_append_of_le_length (by omega)]
    simp [List.append_assoc]
   | false=>
    rw [hb] at h
    have hge:a.cells≤off:=Q8l hb
    simp only [cond_false,Option.bind_eq_some_iff] at h
    obtain ⟨z1,hz1,hz2⟩:=h
    have hz2:=Option.some.inj hz2
    subst hz2
    obtain ⟨hle,hrep⟩:=ihb hz1 h2 hd
    refine ⟨by rw [List.length_append];omega,c1,_,?_,h1,hrep⟩
    rw [List.take_append,List.take_of_length_le (by omega),List.drop_append,List.drop_eq_nil_of_le (by omega),List.nil_append,hl1,
     show off+t.cells - a.cells=off - a.cells+t.cells by omega]
    simp [List.append_assoc]
 | int k=>intro x off t y z cs ds h hr hd;exact leaf h hr hd
 | bool=>intro x off t y z cs ds h hr hd;exact leaf h hr hd
 | str=>intro x off t y z cs ds h hr hd;exact leaf h hr hd
 | ifc=>intro x off t y z cs ds h hr hd;exact leaf h hr hd
 | sl n e ih=>intro x off t y z cs ds h hr hd;exact leaf h hr hd
 | unit=>intro x off t y z cs ds h hr hd;exact leaf h hr hd
theorem Xi {b:Nat} {cs:Array Value} {T:TypeId} {fr:Nat × Nat} {o n:Nat} (h:w.heap[b]?=some (.cells cs T fr)) (hle:o+n≤cs.size) :
  Xz w b o ((cs.toList.drop o).take n):=by
 intro j hj
 rw [cell_of_row w b _ cs T fr h]
 rw [List.length_take,List.length_drop,Array.length_toList] at hj
 have hlt:o+j<cs.size:=by omega
 rw [List.getD_eq_getElem?_getD,List.getElem?_take,if_pos (by omega),List.getElem?_drop,Array.getElem?_toList,Array.getElem?_eq_getElem hlt]
 rfl
theorem Qbj {o:Oper} {T:TypeId} {x:Operand} (ho:o.op=.load T x) {t:Ty} (hT:Q5i P T t) {b off:Nat} {cs:List Value} (hx:a.eval x=.pointer (some ⟨b,off,none⟩))
  (hl:cs.length=t.cells) (hc:Xz w b off cs):(execOp a.eval o).run P w=.ok (.value (Xe t cs)) w:=by
 unfold execOp
 simp only [ho,Instr.loadAt,hx,Instr.sureAddr]
 simp [Q6h hT hl hc]
theorem Q5k {eT:TypeId} {sz n:Nat} {v:Value} {cells:List Value} (hown:w.ownsRow 0 eT sz v n cells) {b:Nat} (hb:blk v=some b) :
  ∃ cap cur,v=.slice (some ⟨b,0,none⟩) n cap∧w.heap[b]?=some (.cells cur eT (0,0))∧n≤cap∧cap≤maxLen∧cur.size=cap*sz∧cur.toList.take (n*sz)=cells:=by
 rcases hown.2 with ⟨rfl,_⟩ | ⟨g,cap,cur,rfl,_,h1,h2,h3,h4,h5⟩
 ·cases hb
 ·simp only [blk,Option.some.injEq] at hb
  subst hb
  exact ⟨cap,cur,rfl,h1,h2,h3,h4,h5⟩
theorem Q29 {i n sz off m:Nat} (hi:i<n) (h:off+m≤sz):i*sz+off+m≤n*sz:=by
 have:(i+1)*sz≤n*sz:=Nat.mul_le_mul_right _ hi
 rw [Nat.add_mul,Nat.one_mul] at this
 omega
theorem Q4c {α:Type} (l:List α) (i off n m:Nat) (h:off+m≤n):(((l.drop i).take n).drop off).take m=(l.drop (i+off)).take m:=by
 rw [List.drop_take,List.take_take,List.drop_drop,show min m (n - off)=m by omega]
theorem Q90 (hTab:Qc P tab) (h:Rel P tab.ty N w0 F S β st a w) {T:TypeId} {x:Operand} {c:Bool} {v:SV} {u:Upd}
  (he:Q7r tab (Q0 st.objs) T (Qb st.slots x)=some (c,v,u)) (hc:c=true) :
  ∃ t b off cs,Q5i P T t∧a.eval x=.pointer (some ⟨b,off,none⟩)∧cs.length=t.cells∧Xz w b off cs∧Qf P tab.ty S β w v (Xe t cs)∧u=[]:=by
 unfold Q7r at he
 simp only [Option.bind_eq_some_iff] at he
 obtain ⟨t,ht,he⟩:=he
 have hT:=hTab.ty T t ht
 have hx:=Q4 h x
 revert he hx
 cases hsx:Qb st.slots x with
 | dead=>intro he;cases he
 | skip=>intro he;cases he
 | tup cs=>intro he;cases he
 | win _ _ _ _=>intro he;cases he
 | tupe _ _ _=>intro he;cases he
 | tupn _=>intro he;cases he
 | ep t' y=>
  intro he hx
  simp only [Option.bind_eq_some_iff,Option.some.injEq,Prod.mk.injEq] at he
  obtain ⟨z,hz,rfl,rfl,rfl⟩:=he
  obtain ⟨b,off,cs,hp,_,_,hca,hr⟩:=hx
  have hr:=Xx hz hr
  exact ⟨t,b,off,cs,hT,hp,hr.length,hca,Q37 (Q2j hr),rfl⟩
 | cv cc=>
  cases cc with
  | agg vs=>intro he;cases he
  | one y=>
   cases y<;>try (intro he;cases he;done)
   case ptr l off=>
   intro he hx
   simp only at he
   obtain ⟨b,hb1,hb2⟩:=hx
   cases hol:Q0 st.objs l with
   | none=>rw [hol] at he;cases he
   | some ob=>
    rw [hol] at he
    cases ob with
    | row eT e xs=>cases he
    | arr eT e xs=>cases he
    | lrow eT vs=>cases he
    | mem _ _ _ _ _=>cases he
    | box B vs=>
     obtain ⟨b',T',cs,e1,hh,hrels⟩:=h.objs l _ hol
     rw [hb1] at e1
     simp only [Value.pointer.injEq,Option.some.injEq,Addr.mk.injEq] at e1
     obtain ⟨rfl,_⟩:=e1
     have hlen:=hrels.length
     simp only [Array.length_toList] at hlen
     cases ha:t.isAgg with
     | true=>
      simp only [ha,cond_true] at he
      cases hle:Nat.ble (off+t.cells) vs.length with
      | false=>rw [hle] at he;cases he
      | true=>
       rw [hle] at he
       simp only [cond_true,Option.some.injEq,Prod.mk.injEq] at he
       obtain ⟨rfl,rfl,rfl⟩:=he
       have hle:=Q2.1 hle
       have hca:=Xi (o:=off) (n:=t.cells) hh (by omega)
       refine ⟨t,b,off,_,hT,hb2,(by rw [List.length_take,List.length_drop,Array.length_toList];omega),hca,?_,rfl⟩
       refine ⟨(cs.toList.drop off).take t.cells,by simp [Xe,ha],(hrels.drop off).take t.cells⟩
     | false=>
      simp only [ha,cond_false,Option.bind_eq_some_iff,Option.some.injEq,Prod.mk.injEq] at he
      obtain ⟨lv,hlv,rfl,rfl,rfl⟩:=he
      obtain ⟨cv,hcv,hr⟩:=hrels.get off hlv
      have hlt:off<cs.size:=by
       rcases Nat.lt_or_ge off cs.size with hlt | hge
       ·exact hlt
       ·rw [List.getElem?_eq_none (by rw [Array.length_toList];exact hge)] at hcv;cases hcv
      have hca:=Xi (o:=off) (n:=t.cells) hh (by rw [Ty.cells_one ha];omega)
      refine ⟨t,b,off,_,hT,hb2,(by rw [List.length_take,List.length_drop,Array.length_toList,Ty.cells_one ha];omega),hca,?_,rfl⟩
      have:Xe t ((cs.toList.drop off).take t.cells)=cv:=by
       rw [Xe,ha,cond_false,List.getD_eq_getElem?_getD,List.getElem?_take,if_pos (by rw [Ty.cells_one ha];omega),List.getElem?_drop,Nat.add_zero,hcv]
       rfl
      rw [this]
      exact hr
 | ap l i off sz=>
  intro he hx
  obtain ⟨b,hb1,hb2⟩:=hx
  simp only at he
  cases hol:Q0 st.objs l with
  | none=>rw [hol] at he;cases he
  | some ob=>
   rw [hol] at he
   cases ob with
   | box B vs=>cases he
   | mem _ _ _ _ _=>cases he
   | row eT e xs=>
    simp only [Option.bind_eq_some_iff,Option.some.injEq,Prod.mk.injEq] at he
    obtain ⟨z,hz,rfl,rfl,rfl⟩:=he
    cases hsz:Nat.beq sz e.cells with
    | false=>rw [hsz] at hz;cases hz
    | true=>
     rw [hsz] at hz
     simp only [cond_true] at hz
     have:=Nat.eq_of_beq_eq_true hsz
     subst this
     simp only [Bool.and_eq_true,decide_eq_true_eq] at hc
     have hi:i.toNat<xs.length:=by omega
     obtain ⟨_,cells,hown,hrc⟩:=h.objs l _ hol
     obtain ⟨cap,cur,hv,hh,hn,_,hcs,htk⟩:=Q5k hown hb1
     obtain ⟨hle,hrep⟩:=Q3x hz (hrc.elem i.toNat hi)
     rw [(hrc.elem i.toNat hi).length] at hle
     have hbd:=Q29 hi hle
     have hcap:xs.length*e.cells≤cap*e.cells:=Nat.mul_le_mul_right _ hn
     have hca:=Xi (o:=i.toNat*e.cells+off) (n:=t.cells) hh (by omega)
     rw [Q4c cells _ _ _ _ hle,← htk] at hrep
     have e2:((cur.toList.take (xs.length*e.cells)).drop (i.toNat*e.cells+off)).take t.cells=(cur.toList.drop (i.toNat*e.cells+off)).take t.cells:=by
      rw [List.drop_take,List.take_take,show min t.cells (xs.length*e.cells - (i.toNat*e.cells+off))=t.cells by omega]
     rw [e2] at hrep
     exact ⟨t,_,_,_,hT,hb2,hrep.length,hca,Q37 (Q2j hrep),rfl⟩
   | lrow eT vs=>
    cases hq:(Nat.beq sz 1&&Nat.beq off 0&&!t.isAgg&&decide (0≤i)&&decide (i<vs.length)) with
    | false=>simp only at he;rw [hq] at he;cases he
    | true=>
     simp only at he
     rw [hq] at he
     simp only [cond_true,Option.bind_eq_some_iff,Option.some.injEq,Prod.mk.injEq] at he
     obtain ⟨lv,hlv,rfl,rfl,rfl⟩:=he
     simp only [Bool.and_eq_true,decide_eq_true_eq,Bool.not_eq_true'] at hq
     obtain ⟨⟨⟨⟨q1,q2⟩,q3⟩,q4⟩,q5⟩:=hq
     have q1:=Nat.eq_of_beq_eq_true q1
     have q2:=Nat.eq_of_beq_eq_true q2
     subst q1;subst q2
     have h1:=Ty.cells_one q3
     obtain ⟨cells,hown,hrels⟩:=h.objs l _ hol
     obtain ⟨cv,hcv,hr⟩:=hrels.get i.toNat hlv
     obtain ⟨cap,cur,hv,hh,hn,_,hcs,htk⟩:=Q5k hown hb1
     have hca:=Xi (o:=i.toNat*1+0) (n:=t.cells) hh (by omega)
     refine ⟨t,b,_,_,hT,hb2,(by rw [List.length_take,List.length_drop,Array.length_toList];omega),hca,?_,rfl⟩
     have:Xe t ((cur.toList.drop (i.toNat*1+0)).take t.cells)=cv:=by
      rw [← htk,List.getElem?_take,if_pos (by omega)] at hcv
      rw [Xe,q3,cond_false,List.getD_eq_getElem?_getD,List.getElem?_take,if_pos (by omega),List.getElem?_drop,Nat.add_zero,Nat.mul_one,hcv]
      rfl
     rw [this]
     exact hr
   | arr eT e xs=>
    simp only [Option.bind_eq_some_iff,Option.some.injEq,Prod.mk.injEq] at he
    obtain ⟨z,hz,rfl,rfl,rfl⟩:=he
    cases hsz:Nat.beq sz e.cells with
    | false=>rw [hsz] at hz;cases hz
    | true=>
     rw [hsz] at hz
     simp only [cond_true] at hz
     have:=Nat.eq_of_beq_eq_true hsz
     subst this
     simp only [Bool.and_eq_true,decide_eq_true_eq] at hc
     have hi:i.toNat<xs.length:=by omega
     obtain ⟨b',T',cs,fr,e1,hh,_,hrc⟩:=h.objs l _ hol
     have hbb:b'=b:=by
      rcases e1 with e1 | ⟨_,e1,_⟩<;>(rw [e1] at hb1;exact Option.some.inj hb1)
     subst hbb
     have hlen:=hrc.length
     rw [List.length_take] at hlen
     have hcl:cs.toList.length=cs.size:=by simp
     obtain ⟨hle,hrep⟩:=Q3x hz (hrc.elem i.toNat hi)
     rw [(hrc.elem i.toNat hi).length] at hle
     have hbd:=Q29 hi hle
     have hca:=Xi (o:=i.toNat*e.cells+off) (n:=t.cells) hh (by omega)
     rw [Q4c (cs.toList.take (xs.length*e.cells)) _ _ _ _ hle] at hrep
     have e2:((cs.toList.take (xs.length*e.cells)).drop (i.toNat*e.cells+off)).take t.cells=(cs.toList.drop (i.toNat*e.cells+off)).take t.cells:=by
      rw [List.drop_take,List.take_take,show min t.cells (xs.length*e.cells - (i.toNat*e.cells+off))=t.cells by omega]
     rw [e2] at hrep
     exact ⟨t,_,_,_,hT,hb2,hrep.length,hca,Q37 (Q2j hrep),rfl⟩
theorem Qdq (hTab:Qc P tab) (h:Rel P tab.ty N w0 F S β st a w) {o:Oper} {T:TypeId} {x:Operand} (ho:o.op=.load T x) {c:Bool} {v:SV} {u:Upd}
  (he:Q7r tab (Q0 st.objs) T (Qb st.slots x)=some (c,v,u)) (hc:c=true):Qa P tab N w0 F S β st a w o v u:=by
 obtain ⟨t,b,off,cs,hT,hx,hl,hca,hv,rfl⟩:=Q90 hTab h he hc
 exact Qa.plain h (Qbj ho hT hx hl hca) hv
end
end Go.PE
set_option linter.unusedVariables false
set_option linter.unusedSimpArgs false
namespace Go.PE
section
variable {P:Program} {tab:Tab} {N:NN} {w0:World} {F:FF} {S:Nat→Prop} {β:Lab→Value} {st:St} {a:Act} {w:World}
theorem Qm.oneCell {τ:TypeId→Option Ty} {x:LV} {v:Value} (h:Qm P τ S β w x v):v.oneCell'=true:=by
 cases x with
 | pure t y=>exact Rep.oneCell h v (by simp)
 | nil=>have:v=_:=h;subst this;rfl
 | lit b=>have:v=_:=h;subst this;rfl
 | ref l=>obtain ⟨_,A,n,c,rfl⟩:=h;rfl
 | ptr l off=>obtain ⟨b,_,rfl⟩:=h;rfl
 | gfn f=>have:v=_:=h;subst this;rfl
 | clo ps rs g=>obtain ⟨_,f,cap,rfl,_⟩:=h;rfl
 | nb ne=>obtain ⟨b,rfl,_⟩:=h;rfl
theorem Q5.oneCell {τ:TypeId→Option Ty}:∀ {xs:List LV} {cs:List Value},Q5 P τ S β w xs cs→∀ u∈cs,u.oneCell'=true
 | [],cs,h,u,hu=>by simp only [Q5] at h;subst h;cases hu
 | x::r,cs,h,u,hu=>by
  obtain ⟨c,cr,rfl,h1,h2⟩:=h
  rcases List.mem_cons.1 hu with rfl | hu
  ·exact h1.oneCell
  ·exact Q5.oneCell h2 u hu
theorem Q51 {v:Value} (h:v.oneCell'=true):v.cells=#[v]:=by cases v<;>first | rfl | cases h
theorem Xk.cells {τ:TypeId→Option Ty} {c:CV} {v:Value} (h:Xk P τ S β w c v):Q5 P τ S β w (Xs c) v.cells.toList:=by
 cases c with
 | one y=>rw [Q51 (Qm.oneCell h)];exact ⟨v,[],rfl,h,rfl⟩
 | agg vs=>obtain ⟨cs,rfl,hc⟩:=h;exact hc
theorem Q2k {τ:TypeId→Option Ty}:∀ {us vs:List LV} {ns cs:List Value} (off:Nat),Q5 P τ S β w vs cs→Q5 P τ S β w us ns→off+us.length≤vs.length →
  Q5 P τ S β w (Q10 vs off us) (cs.take off++ns++cs.drop (off+ns.length))
 | [],vs,ns,cs,off,h,h',hl=>by
  simp only [Q5] at h'
  subst h'
  simpa [Q10] using h
 | x::r,vs,ns,cs,off,h,h',hl=>by
  obtain ⟨c,cr,rfl,h1,h2⟩:=h'
  have hlen:=h.length
  simp only [List.length_cons] at hl
  have ih:=Q2k (off+1) (h.set off h1) h2 (by rw [List.length_set];omega)
  simp only [Q10]
  have e1:(cs.set off c).take (off+1)=cs.take off++[c]:=by
   rw [List.take_add_one,List.take_set_of_le (Nat.le_refl _)]
   simp [show off<cs.length by omega]
  have e2:(cs.set off c).drop (off+1+cr.length)=cs.drop (off+(cr.length+1)):=by
   rw [List.drop_set_of_lt (by omega),show off+1+cr.length=off+(cr.length+1) by omega]
  rw [e1,e2] at ih
  simpa [List.append_assoc] using ih
theorem Q0e {o:Oper} {T:TypeId} {x v:Operand} (ho:o.op=.store T x v) {t:Ty} (hT:Q5i P T t) {b off:Nat} {B:TypeId} {cur:Array Value}
  (hx:a.eval x=.pointer (some ⟨b,off,none⟩)) (hh:w.heap[b]?=some (.cells cur B (0,0))) (hl:(a.eval v).cells.size=t.cells) (hle:off+t.cells≤cur.size)
  (h1:∀ u∈(a.eval v).cells.toList,u.oneCell'=true) :
  (execOp a.eval o).run P w=.ok .skip (w.setRow b (cur.toList.take off++(a.eval v).cells.toList++cur.toList.drop (off+t.cells)).toArray):=by
 have hst:=run_storeCells_at P b off B (a.eval v).cells.toList 0 cur w hh (by simp;omega) h1
 simp only [Nat.add_zero,Array.length_toList,hl] at hst
 unfold execOp
 simp only [ho,Instr.storeAt,hx,Instr.sureAddr]
 simp [storeVar,Z8 hT,hl,hst]
theorem Q06 (P:Program) (g o:Nat) (t:TypeId) (fz:Nat × Nat):∀ (vs:List Value) (i:Nat) (cur:Array Value) (w:World),w.heap[g]?=some (.cells cur t fz)→fz=(0,0)∨cur.size≤fz.1→o+i+vs.length≤cur.size→(∀ v∈vs,v.oneCell'=true) →
  (storeCells ⟨g,o,none⟩ vs i).run P w=.ok () (w.setRow g (cur.toList.take (o+i)++vs++cur.toList.drop (o+i+vs.length)).toArray)
 | [],i,cur,w,hg,_,_,_=>by
  simp only [storeCells,List.append_nil,List.length_nil,Nat.add_zero,List.take_append_drop,Array.toArray_toList]
  rw [setRow_self w g cur t fz hg]
  rfl
 | v::rest,i,cur,w,hg,hfz,hl,h1=>by
  have hi:o+i<cur.size:=by simp at hl;omega
  have hadd:(⟨g,o,none⟩:Addr).add i=⟨g,o+i,none⟩:=by unfold Addr.add;split<;>simp_all
  have hcell:w.cell? ⟨g,o+i,none⟩=some cur[o+i]:=by simp [World.cell?,hg,hi]
  have hfro:w.frozen? ⟨g,o+i,none⟩=false:=by
   obtain ⟨lo,hi'⟩:=fz
   simp only [World.frozen?,hg,Bool.and_eq_false_iff,decide_eq_false_iff_not]
   rcases hfz with hfz | hfz
   ·right;rw [(Prod.mk.inj hfz).2];omega
   ·left;simp only at hfz;omega
  have hst:(store ((⟨g,o,none⟩:Addr).add i) v).run P w=.ok () (w.setRow g (cur.setIfInBounds (o+i) v)):=by
   rw [hadd,run_store P w _ v _ (h1 v (by simp)),hcell]
   simp [hfro,setCell_eq_setRow w g (o+i) cur t fz v hg]
  have ih:=Q06 P g o t fz rest (i+1) (cur.setIfInBounds (o+i) v) (w.setRow g (cur.setIfInBounds (o+i) v)) (setRow_heap w g cur _ t _ hg) (by simpa using hfz) (by simp at hl ⊢;omega) (fun x hx=>h1 x (by simp [hx]))
  simp only [storeCells,Sem.run_bind,hst,Result.andThen_ok,ih,setRow_setRow]
  congr 3
  have e:=list_seg_step cur.toList (o+i) v rest (by simp at hl ⊢;omega)
  simpa [Array.toList_setIfInBounds,Nat.add_assoc] using e
theorem Q60 {o:Oper} {T:TypeId} {x v:Operand} (ho:o.op=.store T x v) {t:Ty} (hT:Q5i P T t) {b off:Nat} {B:TypeId} {cur:Array Value} {fr:Nat × Nat}
  (hx:a.eval x=.pointer (some ⟨b,off,none⟩)) (hh:w.heap[b]?=some (.cells cur B fr)) (hfr:fr=(0,0)∨cur.size≤fr.1) (hl:(a.eval v).cells.size=t.cells) (hle:off+t.cells≤cur.size)
  (h1:∀ u∈(a.eval v).cells.toList,u.oneCell'=true) :
  (execOp a.eval o).run P w=.ok .skip (w.setRow b (cur.toList.take off++(a.eval v).cells.toList++cur.toList.drop (off+t.cells)).toArray):=by
 have hst:=Q06 P b off B fr (a.eval v).cells.toList 0 cur w hh hfr (by simp;omega) h1
 simp only [Nat.add_zero,Array.length_toList,hl] at hst
 unfold execOp
 simp only [ho,Instr.storeAt,hx,Instr.sureAddr]
 simp [storeVar,Z8 hT,hl,hst]
theorem Fr.setRow (w:World) (g:Nat) (cs:Array Value):Fr (fun k=>k=g) w (w.setRow g cs):=
 ⟨rfl,rfl,rfl,by simp,fun k _ hk=>setRow_other w g k cs hk⟩
theorem Q16:∀ {vs:List LV},vs.all Qex=true→Qi (vs.map fun v=>(v,false))=[]
 | [],_=>rfl
 | v::r,h=>by
  simp only [List.all_cons,Bool.and_eq_true] at h
  rw [List.map_cons,Xw,Q16 h.2]
  cases v<;>first | rfl | (exact absurd h.1 (by simp [Qex]))
theorem Qac (S:Nat→Prop) (β:Lab→Value):Q25 S β []=S:=by
 funext k;apply propext;simp [Q25]
theorem Q1c (h:Rel P tab.ty N w0 F S β st a w) {t:Ty} {c:CV} {x:t.den} {v:Value} (hd:Q1f (Q0 st.objs) t c=some x) (hv:Xk P tab.ty S β w c v)
  (hn:Q02 c=true):Q0j tab.ty S w t x v:=by
 have hr:=Q5q h.objs hd hv
 have e:Qi (Qg (Xs c) [])=[]:=by
  rw [Q7o]
  cases c with
  | one u=>exact Q16 (by simpa [Xs,Q02] using hn)
  | agg us=>exact Q16 hn
 rw [e,Qac] at hr
 exact hr
theorem Q0j.cellsRep {τ:TypeId→Option Ty} {t:Ty} {x:t.den} {v:Value} (h:Q0j τ S w t x v):Rep τ S w t x v.cells.toList:=by
 rcases h with ⟨ha,cs,rfl,hr⟩ | ⟨ha,hr⟩
 ·exact hr
 ·have:=hr.oneCell v (by simp)
  rw [Q51 this];exact hr
theorem Qi7 {α:Type} (cs ds:List α) (i off n m:Nat) (h:off+m≤n) (hle:i+n≤cs.length) (hd:ds.length=m) :
  cs.take i++((((cs.drop i).take n).take off)++ds++(((cs.drop i).take n).drop (off+m)))++cs.drop (i+n)=cs.take (i+off)++ds++cs.drop (i+off+m):=by
 have e1:cs.take i++((cs.drop i).take n).take off=cs.take (i+off):=by
  rw [List.take_take,show min off n=off by omega,← List.take_add]
 have e2:((cs.drop i).take n).drop (off+m)++cs.drop (i+n)=cs.drop (i+off+m):=by
  rw [List.drop_take,List.drop_drop]
  have:cs.drop (i+n)=(cs.drop (i+(off+m))).drop (n - (off+m)):=by
   rw [List.drop_drop];congr 1;omega
  rw [this,List.take_append_drop]
  congr 1;omega
 calc _=(cs.take i++((cs.drop i).take n).take off)++ds++(((cs.drop i).take n).drop (off+m)++cs.drop (i+n)):=by simp [List.append_assoc]
  _=_:=by rw [e1,e2]
theorem Q7n {α:Type} (l ds:List α) (p m n:Nat) (hd:ds.length=m) (h:p+m≤n) (hn:n≤l.length) :
  (l.take p++ds++l.drop (p+m)).take n=(l.take n).take p++ds++(l.take n).drop (p+m):=by
 have e1:(l.take p++ds).length=p+m:=by rw [List.length_append,List.length_take,hd];omega
 rw [List.take_append,e1,List.take_of_length_le (by omega),List.take_take,show min p n=p by omega,List.drop_take]
theorem Q2l {l:Lab} {ob:Ob} {d:Nat} {st':St} (hl:l.1=d) (h:Qs st d [(l,ob)]=some st'):Zy st l=true∧st'={ st with objs:=(l,ob)::st.objs }:=by
 have hd:=Z7.2 hl
 simp only [Qs,Xm,Zh,List.filter_cons,hd,List.filter_nil,if_true,Bool.not_true,Bool.false_eq_true,if_false,List.map_nil,List.all_nil,List.all_cons,Bool.and_true,delAll,Q2r] at h
 cases hf:Zy st l with
 | false=>simp [hf] at h
 | true=>
  refine ⟨rfl,?_⟩
  simp [hf,Zt,Xu] at h
  exact h.symm
theorem Qak {l:Lab} {ob:Ob} {d:Nat} {st':St} (hl:Nat.beq l.1 d=false) (h:Qs st d [(l,ob)]=some st'):st'={ st with objs:=Q43 st.objs l ob }:=by
 simp only [Qs,Xm,Zh,List.filter_cons,hl,List.filter_nil,if_true,Bool.not_false,Bool.false_eq_true,if_false,List.all_nil,List.all_cons,Bool.and_true,Q2r] at h
 cases hf:has st.objs l with
 | false=>simp [hf] at h
 | true=>
  simp [hf,Zt,Xu] at h
  exact h.symm
theorem Q3s (h:Rel P tab.ty N w0 F S β st a w) {o:Oper} {l:Lab} {ob ob0:Ob} {b:Nat} {cs:Array Value} (hr:(execOp a.eval o).run P w=.ok .skip (w.setRow b cs))
  (hol:Q0 st.objs l=some ob0) (hb:blk (β l)=some b) (hob:Z6 P tab.ty S β (w.setRow b cs) ob (β l)):Qa P tab N w0 F S β st a w o .dead [(l,ob)]:=by
 refine ⟨undef,_,.inr ⟨hr,rfl⟩,fun st' he=>?_⟩
 cases hd:Nat.beq l.1 (o.dst.getD 999999999) with
 | true=>
  obtain ⟨hf,_⟩:=Q2l (Z7.1 hd) he
  rw [(Z4 hf).1] at hol;cases hol
 | false=>
  have:=Qak hd he
  subst this
  refine ⟨S,Q00 β l (β l),fun _ h=>h,fun m _=>by by_cases e:m=l;rw [e,Qh];rw [Qn e],?_,trivial⟩
  refine h.setObj (Fr.setRow w b cs) (fun k _ hk=>⟨ob0,hol,by rw [hk];exact hb⟩) (.inl rfl) (.inl rfl) hob (fun b' hb'=>?_) (fun m=>?_)
  ·rw [hb] at hb'
   simp only [Option.some.injEq] at hb'
   subst hb'
   have:=(h.excl l ob0 hol b hb).2.2
   exact ⟨.inr ⟨⟨ob0,hol⟩,hb⟩,by simpa using this⟩
  ·rw [Jd,hol];rfl
theorem Q6l {α:Type}:∀ (l:List α),Qd (l.map some)=some l
 | []=>rfl
 | x::r=>by simp [Qd,Q6l r]
theorem Q1g {α:Type}:∀ {l:List (Option α)} {r:List α},Qd l=some r→l=r.map some
 | [],r,h=>by have:=Option.some.inj h;subst this;rfl
 | some x::q,r,h=>by
  obtain ⟨z,hz,h⟩:=Option.bind_eq_some_iff.1 h
  have:=Option.some.inj h
  subst this
  rw [Q1g hz];rfl
 | none::q,r,h=>by cases h
theorem Q8.of_row {τ:TypeId→Option Ty} {e:Ty} {xs:List e.den} {cells:List Value} (h:Q1 τ S w e xs cells) {cs:List Value} (hcs:cs.take cells.length=cells) (c:Nat):Q8 τ S w e (xs.map some++List.replicate c none) cs:=by
 intro i x hi
 have hl:=h.length
 have hix:i<xs.length:=by
  rcases Nat.lt_or_ge i xs.length with hlt | hge
  ·exact hlt
  ·rw [List.getElem?_append_right (by rw [List.length_map];exact hge)] at hi
   rw [List.getElem?_replicate] at hi
   split at hi
   ·exact absurd (Option.some.inj hi) (by simp)
   ·cases hi
 rw [List.getElem?_append_left (by rw [List.length_map];exact hix),List.getElem?_map] at hi
 have hx:xs.getD i e.dflt=x:=by
  rw [List.getElem?_eq_getElem hix] at hi
  rw [List.getD_eq_getElem?_getD,List.getElem?_eq_getElem hix]
  exact Option.some.inj (Option.some.inj hi)
 have hr:=h.elem i hix
 rw [hx] at hr
 have hb:i*e.cells+e.cells≤cells.length:=by
  rw [hl]
  have:=Nat.mul_le_mul_right e.cells (show i+1≤xs.length by omega)
  rw [Nat.add_mul,Nat.one_mul] at this
  exact this
 have e1:(cells.drop (i*e.cells)).take e.cells=(cs.drop (i*e.cells)).take e.cells:=by
  rw [← hcs,List.drop_take,List.take_take,show min e.cells (cells.length - i*e.cells)=e.cells by omega]
 rw [e1] at hr
 exact hr
theorem Q8.row {τ:TypeId→Option Ty} {e:Ty}:∀ {xs:List e.den} {ys:List (Option e.den)} {cs:List Value} (lo:Nat),Q8 τ S w e ys cs→(∀ i x,xs[i]?=some x→ys[lo+i]?=some (some x)) →
  Q1 τ S w e xs ((cs.drop (lo*e.cells)).take (xs.length*e.cells))
 | [],ys,cs,lo,h,hx=>by simp [Q1]
 | x::r,ys,cs,lo,h,hx=>by
  have h0:=h lo x (by have:=hx 0 x rfl;simpa using this)
  have h1:=Q8.row (xs:=r) (lo+1) h (fun i y hy=>by
   have:=hx (i+1) y (by simpa using hy)
   rw [show lo+(i+1)=lo+1+i by omega] at this
   exact this)
  refine ⟨_,_,?_,h0,h1⟩
  have hl:=h0.length
  rw [List.length_take,List.length_drop] at hl
  rw [List.length_cons,Nat.add_mul,Nat.one_mul,Nat.add_comm (r.length*e.cells),List.take_add,List.drop_drop,Nat.add_mul,Nat.one_mul]
theorem Q8.slice {τ:TypeId→Option Ty} {e:Ty} {ys:List (Option e.den)} {cs:List Value} {lo n:Nat} {xs:List e.den} (h:Q8 τ S w e ys cs) (hx:Qd ((ys.drop lo).take n)=some xs) :
  Q1 τ S w e xs ((cs.drop (lo*e.cells)).take (xs.length*e.cells)):=by
 refine h.row lo (fun i x hi=>?_)
 have e1:=Q1g hx
 have:((ys.drop lo).take n)[i]?=some (some x):=by rw [e1,List.getElem?_map,hi];rfl
 rw [List.getElem?_take] at this
 split at this
 ·rw [List.getElem?_drop] at this;exact this
 ·cases this
theorem Q18 {α:Type} {ys:List (Option α)} {lo n:Nat} {xs:List α} (hx:Qd ((ys.drop lo).take n)=some xs) (h:lo+n≤ys.length):xs.length=n:=by
 have:=congrArg List.length (Q1g hx)
 rw [List.length_take,List.length_drop,List.length_map] at this
 omega
theorem Q8.setOne {τ:TypeId→Option Ty} {e:Ty} {ys:List (Option e.den)} {cs:List Value} (h:Q8 τ S w e ys cs) {i:Nat} {z:e.den} {d:List Value} (hd:Rep τ S w e z d) (hb:i*e.cells+e.cells≤cs.length) :
  Q8 τ S w e (ys.set i (some z)) (cs.take (i*e.cells)++d++cs.drop (i*e.cells+e.cells)):=by
 intro j x hj
 have hl:=hd.length
 have h1:(cs.take (i*e.cells)).length=i*e.cells:=by rw [List.length_take];omega
 rw [List.getElem?_set] at hj
 by_cases hij:i=j
 ·subst hij
  rw [if_pos rfl] at hj
  split at hj
  ·have:=Option.some.inj (Option.some.inj hj)
   subst this
   rw [List.append_assoc,List.drop_append,h1,List.drop_eq_nil_of_le (by omega),Nat.sub_self,List.drop_zero,List.nil_append,List.take_append,List.take_of_length_le (by omega),hl,Nat.sub_self,List.take_zero,List.append_nil]
   exact hd
  ·cases hj
 ·rw [if_neg hij] at hj
  have h0:=h j x hj
  have e1:((cs.take (i*e.cells)++d++cs.drop (i*e.cells+e.cells)).drop (j*e.cells)).take e.cells=(cs.drop (j*e.cells)).take e.cells:=by
   rcases Nat.lt_or_ge j i with hlt | hge
   ·have hm:(j+1)*e.cells≤i*e.cells:=Nat.mul_le_mul_right _ hlt
    rw [Nat.add_mul,Nat.one_mul] at hm
    rw [List.append_assoc,List.drop_append,List.take_append]
    rw [show (e.cells - (List.drop (j*e.cells) (List.take (i*e.cells) cs)).length)=0 by rw [List.length_drop,h1];omega,List.take_zero,List.append_nil,List.drop_take,List.take_take]
    congr 1;omega
   ·have hm:(i+1)*e.cells≤j*e.cells:=Nat.mul_le_mul_right _ (by omega)
    rw [Nat.add_mul,Nat.one_mul] at hm
    rw [List.drop_append,List.length_append,h1,hl,List.drop_eq_nil_of_le (by rw [List.length_append,h1,hl];omega),List.nil_append,List.drop_drop]
    congr 2;omega
  rw [e1]
  exact h0
theorem Qc1 (hTab:Qc P tab) (h:Rel P tab.ty N w0 F S β st a w) {o:Oper} {T:TypeId} {x y:Operand} (ho:o.op=.store T x y) {c:Bool} {v:SV} {u:Upd}
  (he:Qaj tab (Q0 st.objs) T (Qb st.slots x) (Qb st.slots y)=some (c,v,u)) (hc:c=true):Qa P tab N w0 F S β st a w o v u:=by
 unfold Qaj at he
 simp only [Option.bind_eq_some_iff] at he
 obtain ⟨t,ht,he⟩:=he
 have hT:=hTab.ty T t ht
 have hx:=Q4 h x
 have hy:=Q4 h y
 revert he hy
 cases hsy:Qb st.slots y<;>try (intro he;cases he;done)
 case cv cc=>
 intro he hy
 have hcells:=Xk.cells hy
 have h1:=hcells.oneCell
 revert he hx
 cases hsx:Qb st.slots x<;>try (intro hx he;cases he;done)
 case cv xc=>
  intro hx he
  cases xc with
  | agg vs=>cases he
  | one xl=>
   cases xl<;>try (cases he;done)
   case ptr l off=>
   obtain ⟨b,hb1,hb2⟩:=hx
   simp only at he
   cases hol:Q0 st.objs l with
   | none=>rw [hol] at he;cases he
   | some ob=>
    rw [hol] at he
    cases ob with
    | mem _ _ _ _ _=>first | (cases he;done) | (intro he;cases he;done) | (intro _ he;cases he;done) | (exact absurd he (by simp))
    | row eT e xs=>cases he
    | arr eT e xs=>cases he
    | lrow eT vs=>cases he
    | box B vs=>
     have he':(bif Nat.beq (Xs cc).length t.cells&&Nat.ble (off+t.cells) vs.length then some (true,SV.dead,[(l,Ob.box B (Q10 vs off (Xs cc)))]) else none)=some (c,v,u):=he
     cases hcond:(Nat.beq (Xs cc).length t.cells&&Nat.ble (off+t.cells) vs.length) with
     | false=>rw [hcond] at he';cases he'
     | true=>
      rw [hcond] at he'
      simp only [cond_true,Option.some.injEq,Prod.mk.injEq] at he'
      obtain ⟨rfl,rfl,rfl⟩:=he'
      simp only [Bool.and_eq_true] at hcond
      have hlen:=Nat.eq_of_beq_eq_true hcond.1
      have hle:=Q2.1 hcond.2
      obtain ⟨b',T',cs,e1,hh,hrels⟩:=h.objs l _ hol
      have e1':=e1
      rw [hb1] at e1
      simp only [Value.pointer.injEq,Option.some.injEq,Addr.mk.injEq] at e1
      obtain ⟨rfl,_⟩:=e1
      have hlen2:=hrels.length
      simp only [Array.length_toList] at hlen2
      have hlen3:=hcells.length
      simp only [Array.length_toList] at hlen3
      have hr:=Q0e ho hT hb2 hh (by omega) (by omega) h1
      refine Q3s h hr hol (by rw [hb1];rfl) ?_
      refine ⟨b,T',_,hb1,setRow_heap w b cs _ T' (0,0) hh,?_⟩
      have hpc:=Q2k off hrels hcells (by omega)
      simp only [Array.length_toList,hlen3,hlen] at hpc
      have hk:∀ k,S k→k<w.heap.size→(w.setRow b (cs.toList.take off++(a.eval y).cells.toList++cs.toList.drop (off+t.cells)).toArray).heap[k]?=w.heap[k]?:=fun k hs hlt=>
       setRow_other w b k _ (fun e=>(h.excl l _ hol b (by rw [hb1];rfl)).1 (e▸hs))
      exact hpc.frame (fun _ x=>x) (by simp) hk h.sb (fun _ _=>rfl)
 case ap l i off sz=>
  intro hx he
  obtain ⟨b,hb1,hb2⟩:=hx
  simp only at he
  cases hol:Q0 st.objs l with
  | none=>rw [hol] at he;cases he
  | some ob=>
   rw [hol] at he
   have hk:∀ (q:Array Value),∀ k,S k→k<w.heap.size→(w.setRow b q).heap[k]?=w.heap[k]?:=fun q k hs hlt=>
    setRow_other w b k _ (fun e=>(h.excl l _ hol b hb1).1 (e▸hs))
   cases ob with
   | mem eT e ys n0 ex=>
    simp only [Option.bind_eq_some_iff] at he
    obtain ⟨_,hsz,yd,hyd,z,hz,he⟩:=he
    cases hsz':(Nat.beq sz e.cells&&Nat.beq off 0) with
    | false=>rw [hsz'] at hsz;cases hsz
    | true=>
     simp only [Bool.and_eq_true] at hsz'
     have e1:=Nat.eq_of_beq_eq_true hsz'.1
     have e2:=Nat.eq_of_beq_eq_true hsz'.2
     subst e1;subst e2
     obtain ⟨e3,e4⟩:=Z1 hz
     subst e3
     have e4:yd=z:=e4
     subst e4
     cases hnr:Q02 cc with
     | false=>rw [hnr] at he;cases he
     | true=>
      rw [hnr] at he
      simp only [cond_true] at he
      simp only [Option.some.injEq,Prod.mk.injEq] at he
      obtain ⟨rfl,rfl,rfl⟩:=he
      simp only [Bool.and_eq_true,decide_eq_true_eq] at hc
      obtain ⟨⟨⟨hc1,hc2⟩,hc3⟩,hc4⟩:=hc
      have hxs:=Q45 t.dflt hc4
      generalize Qgv t.dflt ((List.set ys i.toNat (some yd)).take n0)=xs at *
      have hc3:=Q2.1 hc3
      have hv:=(Q1c h hyd hy hnr).cellsRep
      obtain ⟨hpos,A,c0,hval,k1,k2,k3,k4,k5⟩:=h.objs l _ hol
      have hlv:=hv.length
      simp only [Array.length_toList] at hlv
      rcases k5 with ⟨_,h0⟩ | ⟨g,cur,rfl,hh,hcs,hm⟩
      ·omega
      ·have hgb:g=b:=by rw [hval] at hb1;exact Option.some.inj hb1
       subst hgb
       have hin:i.toNat<n0:=by omega
       have hbd:i.toNat*t.cells+t.cells≤c0*t.cells:=by
        have:=Nat.mul_le_mul_right t.cells (show i.toNat+1≤c0 by omega)
        rwa [Nat.add_mul,Nat.one_mul] at this
       have hr:=Q0e ho hT hb2 hh hlv (by rw [hcs];omega) h1
       rw [Nat.add_zero] at hr
       have hxl:xs.length=n0:=Q18 (lo:=0) (by rw [List.drop_zero];exact hxs) (by rw [List.length_set];omega)
       have hm2:=hm.setOne (i:=i.toNat) hv (by simp only [Array.length_toList];omega)
       have hrc:=hm2.slice (lo:=0) (n:=n0) (xs:=xs) (by rw [List.drop_zero];exact hxs)
       rw [Nat.zero_mul,List.drop_zero] at hrc
       refine Q3s h hr hol (by rw [hval];rfl) ⟨hpos,_,⟨hrc.length,.inr ⟨g,c0,_,hval.trans (by rw [hxl]),Nat.zero_le _,setRow_heap w g cur _ eT (0,0) hh,by omega,k3,?_,rfl⟩⟩,hrc.frame (fun _ x=>x) (by simp) (hk _)⟩
       simp only [List.size_toArray,List.length_append,List.length_take,List.length_drop,Array.length_toList];omega
   | box B vs=>cases he
   | lrow eT vs=>cases he
   | row eT e xs=>
    simp only [Option.bind_eq_some_iff] at he
    obtain ⟨_,hsz,yd,hyd,z,hz,he⟩:=he
    cases hsz':Nat.beq sz e.cells with
    | false=>rw [hsz'] at hsz;cases hsz
    | true=>
     have:=Nat.eq_of_beq_eq_true hsz'
     subst this
     cases hnr:Q02 cc with
     | false=>rw [hnr] at he;cases he
     | true=>
      rw [hnr] at he
      simp only [cond_true,Option.some.injEq,Prod.mk.injEq] at he
      obtain ⟨rfl,rfl,rfl⟩:=he
      simp only [Bool.and_eq_true,decide_eq_true_eq] at hc
      have hi:i.toNat<xs.length:=by omega
      have hv:=(Q1c h hyd hy hnr).cellsRep
      obtain ⟨hpos,cells,hown,hrc⟩:=h.objs l _ hol
      obtain ⟨cap,cur,hval,hh,hn,hcm,hcs,htk⟩:=Q5k hown hb1
      have hel:=hrc.elem i.toNat hi
      obtain ⟨hle,hrep⟩:=Q9d hz hel hv
      rw [hel.length] at hle
      have hbd:=Q29 hi hle
      have hcap:xs.length*e.cells≤cap*e.cells:=Nat.mul_le_mul_right _ hn
      have hlv:=hv.length
      simp only [Array.length_toList] at hlv
      have hr:=Q0e ho hT hb2 hh hlv (by omega) h1
      have hset:=hrc.set i.toNat z _ hi hrep
      have hlc:cells.length=xs.length*e.cells:=hrc.length
      have hie:i.toNat*e.cells+e.cells≤cells.length:=by
       rw [hlc];have:=Nat.mul_le_mul_right e.cells (show i.toNat+1≤xs.length from hi);rwa [Nat.add_mul,Nat.one_mul] at this
      rw [Qi7 cells _ _ _ _ _ hle hie (by simpa using hlv)] at hset
      refine Q3s h hr hol hb1 ⟨hpos,_,⟨?_,.inr ⟨b,cap,_,hval.trans (by rw [List.length_set]),Nat.zero_le _,setRow_heap w b cur _ eT (0,0) hh,by rw [List.length_set];exact hn,hcm,?_,?_⟩⟩,hset.frame (fun _ x=>x) (by simp) (hk _)⟩
      ·simp only [List.length_append,List.length_take,List.length_drop,List.length_set,Array.length_toList];omega
      ·simp only [List.size_toArray,List.length_append,List.length_take,List.length_drop,Array.length_toList];omega
      ·rw [List.length_set,← htk]
       have e0:cur.toList.length=cur.size:=by simp
       exact Q7n cur.toList _ _ _ _ (by simpa using hlv) (by omega) (by rw [e0,hcs];exact hcap)
   | arr eT e xs=>
    simp only [Option.bind_eq_some_iff] at he
    obtain ⟨_,hsz,yd,hyd,z,hz,he⟩:=he
    cases hsz':Nat.beq sz e.cells with
    | false=>rw [hsz'] at hsz;cases hsz
    | true=>
     have:=Nat.eq_of_beq_eq_true hsz'
     subst this
     cases hnr:Q02 cc with
     | false=>rw [hnr] at he;cases he
     | true=>
      rw [hnr] at he
      simp only [cond_true,Option.some.injEq,Prod.mk.injEq] at he
      obtain ⟨rfl,rfl,rfl⟩:=he
      simp only [Bool.and_eq_true,decide_eq_true_eq] at hc
      have hi:i.toNat<xs.length:=by omega
      have hv:=(Q1c h hyd hy hnr).cellsRep
      obtain ⟨b',T',cs,fr,e1,hh,hfr,hrc⟩:=h.objs l _ hol
      have hb1':=hb1
      have hbb:b'=b:=by
       rcases e1 with e1 | ⟨_,e1,_⟩<;>(rw [e1] at hb1;exact Option.some.inj hb1)
      subst hbb
      have hlc0:=hrc.length
      have hlc:=hlc0
      rw [List.length_take] at hlc
      have hcl:cs.toList.length=cs.size:=by simp
      have hel:=hrc.elem i.toNat hi
      obtain ⟨hle,hrep⟩:=Q9d hz hel hv
      rw [hel.length] at hle
      have hbd:=Q29 hi hle
      have hlv:=hv.length
      simp only [Array.length_toList] at hlv
      have hr:=Q60 ho hT hb2 hh hfr hlv (by omega) h1
      have hset:=hrc.set i.toNat z _ hi hrep
      have hie:i.toNat*e.cells+e.cells≤(cs.toList.take (xs.length*e.cells)).length:=by
       rw [hlc0];have:=Nat.mul_le_mul_right e.cells (show i.toNat+1≤xs.length from hi);rwa [Nat.add_mul,Nat.one_mul] at this
      rw [Qi7 (cs.toList.take (xs.length*e.cells)) _ _ _ _ _ hle hie (by simpa using hlv)] at hset
      refine Q3s h hr hol hb1' ⟨b',T',_,fr,by rw [List.length_set];exact e1,setRow_heap w b' cs _ T' fr hh,?_,?_⟩
      ·rcases hfr with hfr | hfr
       ·exact .inl hfr
       ·right
        simp only [List.size_toArray,List.length_append,List.length_take,List.length_drop,Array.length_toList];omega
      ·rw [List.length_set]
       have:=Q7n cs.toList (a.eval y).cells.toList (i.toNat*e.cells+off) t.cells (xs.length*e.cells) (by simpa using hlv) (by omega) (by omega)
       rw [this]
       exact hset.frame (fun _ x=>x) (by simp) (hk _)
theorem Q66 {b o:Nat} {cs:List Value} (h:Xz w b o cs) (off n:Nat):Xz w b (o+off) ((cs.drop off).take n):=by
 intro j hj
 rw [List.length_take,List.length_drop] at hj
 have:=h (off+j) (by omega)
 rw [Nat.add_assoc,this,List.getD_eq_getElem?_getD,List.getD_eq_getElem?_getD,List.getElem?_take,if_pos (by omega),List.getElem?_drop]
theorem Q7w (hTab:Qc P tab) {T:TypeId} {j:Nat} {f:TypeId × Nat} (h:Q40 tab T j=some f):∃ gs g,P.underlying T=some (.struct gs)∧gs[j]?=some g∧g.type=f.1∧g.offset=f.2:=by
 unfold Q40 at h
 split at h
 case h_2=>cases h
 case h_1 fs hfs=>
 obtain ⟨gs,hu,hm⟩:=hTab.td T _ hfs
 subst hm
 rw [List.getElem?_map] at h
 cases hg:gs.toList[j]? with
 | none=>rw [hg] at h;cases h
 | some g=>
  rw [hg] at h
  simp only [Option.map_some,Option.some.injEq] at h
  subst h
  exact ⟨gs,g,hu,by simpa using hg,rfl,rfl⟩
theorem Q04 {o:Oper} {T:TypeId} {x:Operand} {j:Nat} (ho:o.op=.fieldAddr T x j) {gs:Array Field} {g:Field} {t:Ty} (hu:P.underlying T=some (.struct gs)) (hg:gs[j]?=some g)
  (hT:Q5i P g.type t) (hn:t.cells≠0) {b off:Nat} (hx:a.eval x=.pointer (some ⟨b,off,none⟩)) :
  (execOp a.eval o).run P w=.ok (.value (.pointer (some ⟨b,off+g.offset,none⟩))) w:=by
 unfold execOp
 simp only [ho,Instr.fieldAt,hx]
 simp [run_underlying hu,hg,Instr.sureAddr,fieldPlace,Z8 hT,hn,Zq]
theorem Q6t (hTab:Qc P tab) (h:Rel P tab.ty N w0 F S β st a w) {o:Oper} {T:TypeId} {x:Operand} {j:Nat} (ho:o.op=.fieldAddr T x j) {c:Bool} {v:SV} {u:Upd}
  (he:Q31 tab T j (Qb st.slots x)=some (c,v,u)):Qa P tab N w0 F S β st a w o v u:=by
 unfold Q31 at he
 simp only [Option.bind_eq_some_iff] at he
 obtain ⟨f,hf,t,ht,he⟩:=he
 obtain ⟨gs,g,hu,hg,h1,h2⟩:=Q7w hTab hf
 have hT:=hTab.ty _ t ht
 rw [← h1] at hT
 cases hn:Nat.beq t.cells 0 with
 | true=>rw [hn] at he;cases he
 | false=>
  rw [hn] at he
  simp only [cond_false] at he
  have hn:=Qz.1 hn
  have hx:=Q4 h x
  revert he hx
  cases hsx:Qb st.slots x<;>try (intro he;cases he;done)
  case cv cc=>
   cases cc with
   | agg vs=>intro he;cases he
   | one y=>
    cases y<;>try (intro he;cases he;done)
    case ptr l off=>
    intro he hx
    simp only [Option.some.injEq,Prod.mk.injEq] at he
    obtain ⟨rfl,rfl,rfl⟩:=he
    obtain ⟨b,hb1,hb2⟩:=hx
    rw [← h2]
    exact Qa.plain h (Q04 ho hu hg hT hn hb2) ⟨b,hb1,rfl⟩
  case ep t' y=>
   intro he hx
   simp only [Option.bind_eq_some_iff,Option.some.injEq,Prod.mk.injEq] at he
   obtain ⟨z,hz,rfl,rfl,rfl⟩:=he
   obtain ⟨b,off,cs,hp,h3,h4,hca,hr⟩:=hx
   obtain ⟨hle,hrep⟩:=Q3x hz hr
   refine Qa.plain h (Q04 ho hu hg hT hn hp) ⟨b,off+g.offset,_,rfl,h3,h4,?_,hrep⟩
   rw [h2]
   exact Q66 hca f.2 t.cells
  case ap l i off sz=>
   intro he hx
   simp only [Option.some.injEq,Prod.mk.injEq] at he
   obtain ⟨rfl,rfl,rfl⟩:=he
   obtain ⟨b,hb1,hb2⟩:=hx
   refine Qa.plain h (Q04 ho hu hg hT hn hb2) ⟨b,hb1,?_⟩
   rw [h2,Nat.add_assoc]
theorem Qc3 (hTab:Qc P tab) (h:Rel P tab.ty N w0 F S β st a w) {o:Oper} {T:TypeId} {x:Operand} {j:Nat} (ho:o.op=.field T x j) {c:Bool} {v:SV} {u:Upd}
  (he:Qa4 tab T j (Qb st.slots x)=some (c,v,u)):Qa P tab N w0 F S β st a w o v u:=by
 unfold Qa4 at he
 simp only [Option.bind_eq_some_iff] at he
 obtain ⟨f,hf,t,ht,he⟩:=he
 obtain ⟨gs,g,hu,hg,h1,h2⟩:=Q7w hTab hf
 have hT:=hTab.ty _ t ht
 rw [← h1] at hT
 have hx:=Q4 h x
 revert he hx
 cases hsx:Qb st.slots x<;>try (intro he;cases he;done)
 case cv cc=>
 cases cc with
 | one y=>intro he;cases he
 | agg vs=>
  intro he hx
  obtain ⟨cs,hcs,hrels⟩:=hx
  have hlen:=hrels.length
  cases ha:t.isAgg with
  | true=>
   simp only [ha,cond_true] at he
   cases hle:Nat.ble (f.2+t.cells) vs.length with
   | false=>rw [hle] at he;cases he
   | true=>
    rw [hle] at he
    simp only [cond_true,Option.some.injEq,Prod.mk.injEq] at he
    obtain ⟨rfl,rfl,rfl⟩:=he
    refine Qa.plain h (x:=.agg ((cs.drop f.2).take t.cells).toArray) ?_ ⟨_,rfl,(hrels.drop f.2).take t.cells⟩
    unfold execOp
    simp only [ho,Instr.field,hcs]
    simp [run_underlying hu,hg,asAgg,part,Q0q hT,ha,Z8 hT,h2,List.extract_eq_take_drop]
  | false=>
   simp only [ha,cond_false,Option.bind_eq_some_iff,Option.some.injEq,Prod.mk.injEq] at he
   obtain ⟨lv,hlv,rfl,rfl,rfl⟩:=he
   obtain ⟨cv,hcv,hr⟩:=hrels.get f.2 hlv
   refine Qa.plain h (x:=cv) ?_ hr
   unfold execOp
   simp only [ho,Instr.field,hcs]
   simp [run_underlying hu,hg,asAgg,part,Q0q hT,ha,h2,hcv]
end
end Go.PE
