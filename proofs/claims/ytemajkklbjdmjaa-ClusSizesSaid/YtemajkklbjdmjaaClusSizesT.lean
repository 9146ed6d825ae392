/-
  The table of types.
  Conditions: none.
-/
import Derived.Test.YtemajkklbjdmjaaE4
import Derived.Test.YtemajkklbjdmjaaProg
import Derived.WalkKit
import Derived.BigCall
namespace Go.PE
def t2 : Ty := .int .i64
def t3 : Ty := .int .i64
def t4 : Ty := .bool
def t5 : Ty := .int .u8
def t9 : Ty := .str
def t12 : Ty := .int .u64
def t20 : Ty := .ifc
def t21 : Ty := .int .i32
def t22 : Ty := .sl 5 t5
def t28 : Ty := .sl 3 t3
def t24 : Ty := .sl 28 t28
def t32 : Ty := .pair t28 t3
def t33 : Ty := .pair t28 t3
def t37 : Ty := .sl 33 t33
def t41 : Ty := .pair t5 (.pair t5 t5)
def t40 : Ty := .sl 41 t41
def t53 : Ty := .sl 37 t37
def t54 : Ty := .pair t3 (.pair t24 t53)
def t55 : Ty := .pair t3 (.pair t24 t53)
def t63 : Ty := .pair t22 t3
def t64 : Ty := .pair t22 t3
def t93 : Ty := .int .u64
def t105 : Ty := .int .i64
def t113 : Ty := .int .u32
def t115 : Ty := .int .u64
def t117 : Ty := .int .u64
def tab : Tab := [
  (2, (.int .i64), some t2),
  (3, (.int .i64), some t3),
  (4, .bool, some t4),
  (5, (.int .u8), some t5),
  (9, .str, some t9),
  (12, (.int .u64), some t12),
  (20, .ifc, some t20),
  (21, (.int .i32), some t21),
  (22, (.slc 5), some t22),
  (24, (.slc 28), some t24),
  (25, (.ptr 64), none),
  (28, (.slc 3), some t28),
  (32, (.stc [(28, 0), (3, 1)]), some t32),
  (33, (.stc [(28, 0), (3, 1)]), some t33),
  (37, (.slc 33), some t37),
  (40, (.slc 41), some t40),
  (41, (.arr 3 5), some t41),
  (45, (.arr 9 4), none),
  (53, (.slc 37), some t53),
  (54, (.stc [(3, 0), (24, 1), (53, 2)]), some t54),
  (55, (.stc [(3, 0), (24, 1), (53, 2)]), some t55),
  (63, (.stc [(22, 0), (3, 1)]), some t63),
  (64, (.stc [(22, 0), (3, 1)]), some t64),
  (93, (.int .u64), some t93),
  (105, (.int .i64), some t105),
  (113, (.int .u32), some t113),
  (115, (.int .u64), some t115),
  (117, (.int .u64), some t117),
  (121, (.ptr 3), none),
  (123, (.ptr 117), none),
  (135, (.ptr 5), none)]
open Go.Proofs
set_option maxRecDepth 100000
theorem tabok : TabOK Try.prog tab := tabOK_of (by kernel_rfl)
theorem follows : Try.prog.follows .mixedOrders = true := by kernel_rfl
end Go.PE
