/-
  The table of types.
  Conditions: none.
-/
import Derived.Test.YtmfiijdlhjajcaaGreatDoorE4
import Derived.Test.YtmfiijdlhjajcaaGreatDoorProg
import Derived.WalkKit
import Derived.BigCall
namespace Go.PE
def t2:Ty:=.int .i64
def t3:Ty:=.int .i64
def t4:Ty:=.bool
def t5:Ty:=.int .u8
def t9:Ty:=.str
def t12:Ty:=.int .u64
def t20:Ty:=.ifc
def t21:Ty:=.int .i32
def t25:Ty:=.sl 5 t5
def t27:Ty:=.sl 9 t9
def t28:Ty:=.sl 3 t3
def t53:Ty:=.pair t3 (.pair t3 t3)
def t29:Ty:=.sl 53 t53
def t30:Ty:=.pair t3 (.pair t3 (.pair t3 (.pair t3 (.pair t3 (.pair t3 (.pair t28 (.pair t3 (.pair t3 (.pair t3 (.pair t3 (.pair t3 t29)))))))))))
def t31:Ty:=.pair t3 (.pair t3 (.pair t3 (.pair t3 (.pair t3 (.pair t3 (.pair t28 (.pair t3 (.pair t3 (.pair t3 (.pair t3 (.pair t3 t29)))))))))))
def t59:Ty:=.pair t3 t9
def t32:Ty:=.sl 59 t59
def t55:Ty:=.pair t3 (.pair t3 (.pair t3 (.pair t9 t3)))
def t33:Ty:=.sl 55 t55
def t34:Ty:=.pair t3 t3
def t35:Ty:=.pair t3 t3
def t36:Ty:=.pair t3 (.pair t3 (.pair t32 (.pair t32 (.pair t33 t35))))
def t37:Ty:=.pair t3 (.pair t3 (.pair t32 (.pair t32 (.pair t33 t35))))
def t38:Ty:=.pair t4 (.pair t3 (.pair t9 (.pair t31 (.pair t37 t3))))
def t39:Ty:=.pair t4 (.pair t3 (.pair t9 (.pair t31 (.pair t37 t3))))
def t45:Ty:=.pair t3 (.pair t3 (.pair t3 (.pair t3 (.pair t3 (.pair t3 (.pair t28 (.pair t3 (.pair t3 t9))))))))
def t46:Ty:=.pair t3 (.pair t3 (.pair t3 (.pair t3 (.pair t3 (.pair t3 (.pair t28 (.pair t3 (.pair t3 t9))))))))
def t48:Ty:=.sl 46 t46
def t52:Ty:=.pair t3 (.pair t3 t3)
def t54:Ty:=.pair t3 (.pair t3 (.pair t3 (.pair t9 t3)))
def t58:Ty:=.pair t3 t9
def t61:Ty:=.sl 25 t25
def t74:Ty:=.pair t25 t3
def t75:Ty:=.pair t25 t3
def t91:Ty:=.int .u32
def t93:Ty:=.int .u64
def t95:Ty:=.pair t25 t4
def t96:Ty:=.pair t25 t4
def t99:Ty:=.pair t3 t3
def X1k:Ty:=.pair t3 t3
def X1m:Ty:=.ifc
def X1c:Ty:=.ifc
def Zym:Ty:=.pair t25 X1c
def X1o:Ty:=.pair t25 X1c
def X1w:Ty:=.pair t9 .unit
def X1t:Ty:=.pair t9 .unit
def Ztv:Ty:=.pair t31 t48
def X1x:Ty:=.pair t31 t48
def Ztc:Ty:=.sl 100 X1k
def X1r:Ty:=.unit
def X1v:Ty:=.unit
def X1u:Ty:=.pair t3 .unit
def X1s:Ty:=.pair t3 .unit
def X1n:Ty:=.pair t5 t5
def X1q:Ty:=.pair t5 t5
def tab:Tab:=[
 (2,(.int .i64),some t2),
 (3,(.int .i64),some t3),
 (4,.bool,some t4),
 (5,(.int .u8),some t5),
 (9,.str,some t9),
 (12,(.int .u64),some t12),
 (20,.ifc,some t20),
 (21,(.int .i32),some t21),
 (23,(.ptr 75),none),
 (25,(.slc 5),some t25),
 (27,(.slc 9),some t27),
 (28,(.slc 3),some t28),
 (29,(.slc 53),some t29),
 (30,(.stc [(3,0),(3,1),(3,2),(3,3),(3,4),(3,5),(28,6),(3,7),(3,8),(3,9),(3,10),(3,11),(29,12)]),some t30),
 (31,(.stc [(3,0),(3,1),(3,2),(3,3),(3,4),(3,5),(28,6),(3,7),(3,8),(3,9),(3,10),(3,11),(29,12)]),some t31),
 (32,(.slc 59),some t32),
 (33,(.slc 55),some t33),
 (34,(.stc [(3,0),(3,1)]),some t34),
 (35,(.stc [(3,0),(3,1)]),some t35),
 (36,(.stc [(3,0),(3,1),(32,2),(32,3),(33,4),(35,5)]),some t36),
 (37,(.stc [(3,0),(3,1),(32,2),(32,3),(33,4),(35,5)]),some t37),
 (38,(.stc [(4,0),(3,1),(9,2),(31,3),(37,16),(3,23)]),some t38),
 (39,(.stc [(4,0),(3,1),(9,2),(31,3),(37,16),(3,23)]),some t39),
 (45,(.stc [(3,0),(3,1),(3,2),(3,3),(3,4),(3,5),(28,6),(3,7),(3,8),(9,9)]),some t45),
 (46,(.stc [(3,0),(3,1),(3,2),(3,3),(3,4),(3,5),(28,6),(3,7),(3,8),(9,9)]),some t46),
 (48,(.slc 46),some t48),
 (52,(.stc [(3,0),(3,1),(3,2)]),some t52),
 (53,(.stc [(3,0),(3,1),(3,2)]),some t53),
 (54,(.stc [(3,0),(3,1),(3,2),(9,3),(3,4)]),some t54),
 (55,(.stc [(3,0),(3,1),(3,2),(9,3),(3,4)]),some t55),
 (58,(.stc [(3,0),(9,1)]),some t58),
 (59,(.stc [(3,0),(9,1)]),some t59),
 (61,(.slc 25),some t61),
 (74,(.stc [(25,0),(3,1)]),some t74),
 (75,(.stc [(25,0),(3,1)]),some t75),
 (91,(.int .u32),some t91),
 (93,(.int .u64),some t93),
 (94,(.ptr 96),none),
 (95,(.stc [(25,0),(4,1)]),some t95),
 (96,(.stc [(25,0),(4,1)]),some t96),
 (99,(.stc [(3,0),(3,1)]),some t99),
 (100,(.stc [(3,0),(3,1)]),some X1k),
 (127,(.ptr 131),none),
 (128,.ifc,some X1m),
 (129,.ifc,some X1c),
 (130,(.stc [(25,0),(129,1)]),some Zym),
 (131,(.stc [(25,0),(129,1)]),some X1o),
 (133,(.stc [(9,0)]),some X1w),
 (134,(.stc [(9,0)]),some X1t),
 (137,(.ptr 141),none),
 (140,(.stc [(31,0),(48,13)]),some Ztv),
 (141,(.stc [(31,0),(48,13)]),some X1x),
 (146,(.slc 100),some Ztc),
 (215,(.stc []),some X1r),
 (216,(.stc []),some X1v),
 (221,(.stc [(3,0)]),some X1u),
 (222,(.stc [(3,0)]),some X1s),
 (226,(.arr 256 5),none),
 (227,(.stc [(5,0),(5,1)]),some X1n),
 (228,(.stc [(5,0),(5,1)]),some X1q),
 (229,(.arr 16 228),none),
 (243,(.ptr 5),none),
 (1000000134,.mth 134 "Error" 232,none),
 (1000000216,.mth 216 "Error" 233,none),
 (1000000222,.mth 222 "Error" 234,none),
 (2000000206,.ovl 206,none),
 (2000000211,.ovl 211,none)]
open Go.Proofs
set_option maxRecDepth 100000
theorem Zfn:Qc Tryz.prog tab:=Qjf (by kernel_rfl)
theorem follows:Tryz.prog.follows .mixedOrders=true:=by kernel_rfl
abbrev GD (n:FuncId) (e:Ent):Prop:=Q4t tab.ty Tryz.prog n e
def X1i:Nat→List (List Nat)→List (Nat × List Nat)
 | _,[]=>[]
 | k,x::r=>(k,x)::X1i (k+1) r
def fo (l:List (List Nat)):Fi:={ keep:=[],vty:=[],vals:=[],live:=X1i 0 l }
theorem fnk {Γ:Ctx} (n:Nat) (fi:Fi) (hΓ:Je tab.ty Tryz.prog Γ) {f:FuncId} {fn:Func} (hf:Tryz.prog.funcs[f]?=some fn) {ps:List PK} {rs:List RK} {G:PDs ps→Option (RDs rs × ODs ps)} (hG:∀ x,Qdr Γ tab fi n ps rs fn x=G x:=by intro x;kernel_rfl) (hnm:(fn.name=="runtime.NumGoroutine")=false:=by kernel_rfl) (hnb:fn.body.isNone=false:=by kernel_rfl) (hno:Jm ps=true:=by rfl):Q4t tab.ty Tryz.prog f ⟨ps,rs,G⟩:=
 Qjn follows hΓ Zfn hf hnm hnb (fun x _ h=>(hG x).trans h) hno
theorem fnl {Γ:Ctx} (fi:Fi) {f:FuncId} {fn:Func} {ps:List PK} {rs:List RK} {G:PDs ps→Option (RDs rs × ODs ps)} (g:Nat→PDs ps→Option (RDs rs × ODs ps)) (hΓ:Je tab.ty Tryz.prog Γ) (hf:Tryz.prog.funcs[f]?=some fn) (hG:∀ n x,Qdr Γ tab fi n ps rs fn x=g n x) (hg:∀ x,g 1099511627776 x=G x:=by intro x;rfl) (hnm:(fn.name=="runtime.NumGoroutine")=false:=by kernel_rfl) (hnb:fn.body.isNone=false:=by kernel_rfl) (hno:Jm ps=true:=by rfl):Q4t tab.ty Tryz.prog f ⟨ps,rs,G⟩:=
 Qjn (n:=1099511627776) follows hΓ Zfn hf hnm hnb (fun x _ h=>((hG 1099511627776 x).trans (hg x)).trans h) hno
end Go.PE
namespace Go.PE
abbrev Zma:Type:=(List Int) × IV
abbrev Zdv:Type:=Int × Int × Int
abbrev Zgs:Type:=Int × ByteArray
abbrev X1y:Type:=List (List Int)
abbrev Zwm:Type:=ByteArray × Unit
abbrev Qmq:Type:=List (Int × Int)
abbrev Z4n:Type:=(List Int) × Int
abbrev X0a:Type:=(List Int) × Bool
abbrev Qkv:Type:=List Zdv
abbrev Qkl:Type:=List Zgs
abbrev X1j:Type:=Int × Int × Int × ByteArray × Int
abbrev Zqc:X1j:=(0,0,0,(⟨#[]⟩:ByteArray),0)
abbrev Qlw:Type:=List X1j
abbrev Qvh:Type:=Int × Int × Int × Int × Int × Int × (List Int) × Int × Int × ByteArray
abbrev Z15:Qvh:=(0,0,0,0,0,0,[],0,0,(⟨#[]⟩:ByteArray))
abbrev Qpc:Type:=List Qvh
abbrev Qse:Type:=Int × Int × Int × Int × Int × Int × (List Int) × Int × Int × Int × Int × Int × List Zdv
abbrev X0p:Qse:=(0,0,0,0,0,0,[],0,0,0,0,0,[])
abbrev Qwt:Type:=Int × Int × Qkl × Qkl × Qlw × Int × Int
abbrev Qt4:Type:=Qse × List Qvh
abbrev X1p:Qt4:=(X0p,[])
abbrev Qy9:Type:=Bool × Int × ByteArray × Qse × Qwt × Int
abbrev X1z:Qy9:=(false,0,(⟨#[]⟩:ByteArray),X0p,(0,0,[],[],[],0,0),0)
end Go.PE
namespace Go.PE
def rg:List Nat→List Nat
 | a::0::b::r=>List.range' a (b+1 - a)++rg r
 | a::r=>a::rg r
 | []=>[]
def fr (l:List (List Nat)):Fi:=fo (l.map rg)
end Go.PE
namespace Go.PE
def wJ (x:Int):Int:=IntKind.wrap .i64 x
abbrev zB:ByteArray:=⟨#[]⟩
abbrev ix (i n:Int):Bool:=decide (0≤i)&&decide (i<n)
end Go.PE
