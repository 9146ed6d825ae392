/-
  The table of types.
  Conditions: none.
-/
import Derived.Test.YtemajkklbjdmjaaGreatE4
import Derived.Test.YtemajkklbjdmjaaGreatProg
import Derived.WalkKit
import Derived.BigCall
namespace Go.PE
def t2:Ty:=.int .i64
def t3:Ty:=.int .i64
def t4:Ty:=.bool
def t5:Ty:=.int .u8
def t9:Ty:=.str
def t12:Ty:=.int .u64
def t20:Ty:=.ifc
def t21:Ty:=.int .i32
def t22:Ty:=.sl 5 t5
def t35:Ty:=.pair t5 t5
def t23:Ty:=.sl 35 t35
def t41:Ty:=.sl 3 t3
def t25:Ty:=.sl 41 t41
def t43:Ty:=.pair t41 t3
def t40:Ty:=.sl 43 t43
def t29:Ty:=.sl 40 t40
def t30:Ty:=.pair t3 (.pair t25 t29)
def t31:Ty:=.pair t3 (.pair t25 t29)
def t42:Ty:=.pair t41 t3
def t46:Ty:=.pair t22 t3
def t47:Ty:=.pair t22 t3
def t89:Ty:=.int .u64
def t98:Ty:=.int .i64
def t107:Ty:=.int .u32
def t109:Ty:=.int .u64
def t114:Ty:=.int .u64
def tab:Tab:=[
 (2,(.int .i64),some t2),
 (3,(.int .i64),some t3),
 (4,.bool,some t4),
 (5,(.int .u8),some t5),
 (9,.str,some t9),
 (12,(.int .u64),some t12),
 (20,.ifc,some t20),
 (21,(.int .i32),some t21),
 (22,(.slc 5),some t22),
 (23,(.slc 35),some t23),
 (25,(.slc 41),some t25),
 (26,(.ptr 47),none),
 (29,(.slc 40),some t29),
 (30,(.stc [(3,0),(25,1),(29,2)]),some t30),
 (31,(.stc [(3,0),(25,1),(29,2)]),some t31),
 (35,(.arr 2 5),some t35),
 (40,(.slc 43),some t40),
 (41,(.slc 3),some t41),
 (42,(.stc [(41,0),(3,1)]),some t42),
 (43,(.stc [(41,0),(3,1)]),some t43),
 (46,(.stc [(22,0),(3,1)]),some t46),
 (47,(.stc [(22,0),(3,1)]),some t47),
 (82,(.arr 9 4),none),
 (89,(.int .u64),some t89),
 (98,(.int .i64),some t98),
 (107,(.int .u32),some t107),
 (109,(.int .u64),some t109),
 (114,(.int .u64),some t114),
 (118,(.ptr 3),none),
 (120,(.ptr 114),none),
 (132,(.ptr 5),none)]
open Go.Proofs
set_option maxRecDepth 100000
theorem tabok:TabOK Tryz.prog tab:=tabOK_of (by kernel_rfl)
theorem follows:Tryz.prog.follows .mixedOrders=true:=by kernel_rfl
end Go.PE
namespace Go.PE
abbrev Dt30:Type:=Int × (List (List Int)) × List (List ((List Int) × Int))
end Go.PE
