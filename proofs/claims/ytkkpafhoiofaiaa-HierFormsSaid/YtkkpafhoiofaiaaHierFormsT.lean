/-
  The table of types.
  Conditions: none.
-/
import Derived.Test.YtkkpafhoiofaiaaE4
import Derived.Test.YtkkpafhoiofaiaaProg
import Derived.WalkKit
import Derived.BigCall
namespace Go.PE
def t2 : Ty := .int .i64
def t3 : Ty := .int .i64
def t4 : Ty := .bool
def t5 : Ty := .int .u8
def t9 : Ty := .str
def t12 : Ty := .int .u64
def t20 : Ty := .ifc
def t21 : Ty := .int .i32
def t27 : Ty := .sl 3 t3
def t23 : Ty := .sl 27 t27
def t35 : Ty := .pair t27 t3
def t30 : Ty := .sl 35 t35
def t34 : Ty := .pair t27 t3
def t36 : Ty := .sl 30 t30
def t37 : Ty := .pair t3 (.pair t23 t36)
def t38 : Ty := .pair t3 (.pair t23 t36)
def t47 : Ty := .sl 5 t5
def t48 : Ty := .pair t47 t3
def t49 : Ty := .pair t47 t3
def t85 : Ty := .int .u64
def t97 : Ty := .int .i64
def t105 : Ty := .int .u32
def t107 : Ty := .int .u64
def t109 : Ty := .int .u64
def tab : Tab := [
  (2, (.int .i64), some t2),
  (3, (.int .i64), some t3),
  (4, .bool, some t4),
  (5, (.int .u8), some t5),
  (9, .str, some t9),
  (12, (.int .u64), some t12),
  (20, .ifc, some t20),
  (21, (.int .i32), some t21),
  (23, (.slc 27), some t23),
  (24, (.ptr 49), none),
  (27, (.slc 3), some t27),
  (30, (.slc 35), some t30),
  (34, (.stc [(27, 0), (3, 1)]), some t34),
  (35, (.stc [(27, 0), (3, 1)]), some t35),
  (36, (.slc 30), some t36),
  (37, (.stc [(3, 0), (23, 1), (36, 2)]), some t37),
  (38, (.stc [(3, 0), (23, 1), (36, 2)]), some t38),
  (47, (.slc 5), some t47),
  (48, (.stc [(47, 0), (3, 1)]), some t48),
  (49, (.stc [(47, 0), (3, 1)]), some t49),
  (85, (.int .u64), some t85),
  (90, (.arr 9 4), none),
  (97, (.int .i64), some t97),
  (105, (.int .u32), some t105),
  (107, (.int .u64), some t107),
  (109, (.int .u64), some t109),
  (113, (.ptr 3), none),
  (115, (.ptr 109), none),
  (127, (.ptr 5), none)]
open Go.Proofs
set_option maxRecDepth 100000
theorem tabok : TabOK Try.prog tab := tabOK_of (by kernel_rfl)
theorem follows : Try.prog.follows .mixedOrders = true := by kernel_rfl
end Go.PE
