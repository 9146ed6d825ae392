/-
  The table of types.
  Conditions: none.
-/
import Derived.Test.YtkkpafhoiofaiaaGreatE4
import Derived.Test.YtkkpafhoiofaiaaGreatProg
namespace Go.PE
def t2 : Ty := .int .i64
def t3 : Ty := .int .i64
def t4 : Ty := .bool
def t5 : Ty := .int .u8
def t9 : Ty := .str
def t12 : Ty := .int .u64
def t20 : Ty := .ifc
def t21 : Ty := .int .i32
def t22 : Ty := .sl 5 t5
def t37 : Ty := .sl 3 t3
def t155 : Ty := .pair t3 (.pair t3 t3)
def t38 : Ty := .sl 155 t155
def t40 : Ty := .pair t3 (.pair t3 (.pair t3 (.pair t3 (.pair t3 (.pair t3 (.pair t37 (.pair t3 (.pair t3 (.pair t3 (.pair t3 (.pair t3 t38)))))))))))
def t153 : Ty := .pair t3 t9
def t41 : Ty := .sl 153 t153
def t50 : Ty := .pair t3 (.pair t3 (.pair t3 (.pair t9 t3)))
def t42 : Ty := .sl 50 t50
def t44 : Ty := .pair t3 t3
def t46 : Ty := .pair t3 (.pair t3 (.pair t41 (.pair t41 (.pair t42 t44))))
def t48 : Ty := .pair t4 (.pair t3 (.pair t9 (.pair t40 (.pair t46 t3))))
def t24 : Ty := .sl 48 t48
def t94 : Ty := .pair t3 (.pair t9 t4)
def t25 : Ty := .sl 94 t94
def t26 : Ty := .sl 9 t9
def t27 : Ty := .sl 37 t37
def t117 : Ty := .pair t37 t3
def t114 : Ty := .sl 117 t117
def t28 : Ty := .sl 114 t114
def t29 : Ty := .pair t3 (.pair t27 t28)
def t30 : Ty := .pair t3 (.pair t27 t28)
def t31 : Ty := .pair t24 (.pair t25 (.pair t26 t30))
def t32 : Ty := .pair t24 (.pair t25 (.pair t26 t30))
def t39 : Ty := .pair t3 (.pair t3 (.pair t3 (.pair t3 (.pair t3 (.pair t3 (.pair t37 (.pair t3 (.pair t3 (.pair t3 (.pair t3 (.pair t3 t38)))))))))))
def t43 : Ty := .pair t3 t3
def t45 : Ty := .pair t3 (.pair t3 (.pair t41 (.pair t41 (.pair t42 t44))))
def t47 : Ty := .pair t4 (.pair t3 (.pair t9 (.pair t40 (.pair t46 t3))))
def t49 : Ty := .pair t3 (.pair t3 (.pair t3 (.pair t9 t3)))
def t51 : Ty := .sl 32 t32
def t63 : Ty := .pair t3 t3
def t56 : Ty := .sl 63 t63
def t62 : Ty := .pair t3 t3
def t66 : Ty := .int .i64
def t69 : Ty := .pair t3 (.pair t3 (.pair t3 (.pair t3 t9)))
def t70 : Ty := .pair t3 (.pair t3 (.pair t3 (.pair t3 t9)))
def t71 : Ty := .pair t22 t3
def t72 : Ty := .pair t22 t3
def t79 : Ty := .sl 4 t4
def t131 : Ty := .pair t3 (.pair t3 (.pair t3 (.pair t3 (.pair t3 (.pair t3 (.pair t37 (.pair t3 (.pair t3 t9))))))))
def t89 : Ty := .sl 131 t131
def t93 : Ty := .pair t3 (.pair t9 t4)
def t105 : Ty := .unit
def t106 : Ty := .unit
def t108 : Ty := .ifc
def t109 : Ty := .ifc
def t116 : Ty := .pair t37 t3
def t130 : Ty := .pair t3 (.pair t3 (.pair t3 (.pair t3 (.pair t3 (.pair t3 (.pair t37 (.pair t3 (.pair t3 t9))))))))
def t135 : Ty := .unit
def t152 : Ty := .pair t3 t9
def t154 : Ty := .pair t3 (.pair t3 t3)
def t159 : Ty := .int .u32
def t161 : Ty := .int .u64
def t192 : Ty := .pair t22 t4
def t193 : Ty := .pair t22 t4
def tab : Tab := [
  (2, (.int .i64), some t2),
  (3, (.int .i64), some t3),
  (4, .bool, some t4),
  (5, (.int .u8), some t5),
  (9, .str, some t9),
  (12, (.int .u64), some t12),
  (20, .ifc, some t20),
  (21, (.int .i32), some t21),
  (22, (.slc 5), some t22),
  (24, (.slc 48), some t24),
  (25, (.slc 94), some t25),
  (26, (.slc 9), some t26),
  (27, (.slc 37), some t27),
  (28, (.slc 114), some t28),
  (29, (.stc [(3, 0), (27, 1), (28, 2)]), some t29),
  (30, (.stc [(3, 0), (27, 1), (28, 2)]), some t30),
  (31, (.stc [(24, 0), (25, 1), (26, 2), (30, 3)]), some t31),
  (32, (.stc [(24, 0), (25, 1), (26, 2), (30, 3)]), some t32),
  (33, (.ptr 72), none),
  (37, (.slc 3), some t37),
  (38, (.slc 155), some t38),
  (39, (.stc [(3, 0), (3, 1), (3, 2), (3, 3), (3, 4), (3, 5), (37, 6), (3, 7), (3, 8), (3, 9), (3, 10), (3, 11), (38, 12)]), some t39),
  (40, (.stc [(3, 0), (3, 1), (3, 2), (3, 3), (3, 4), (3, 5), (37, 6), (3, 7), (3, 8), (3, 9), (3, 10), (3, 11), (38, 12)]), some t40),
  (41, (.slc 153), some t41),
  (42, (.slc 50), some t42),
  (43, (.stc [(3, 0), (3, 1)]), some t43),
  (44, (.stc [(3, 0), (3, 1)]), some t44),
  (45, (.stc [(3, 0), (3, 1), (41, 2), (41, 3), (42, 4), (44, 5)]), some t45),
  (46, (.stc [(3, 0), (3, 1), (41, 2), (41, 3), (42, 4), (44, 5)]), some t46),
  (47, (.stc [(4, 0), (3, 1), (9, 2), (40, 3), (46, 16), (3, 23)]), some t47),
  (48, (.stc [(4, 0), (3, 1), (9, 2), (40, 3), (46, 16), (3, 23)]), some t48),
  (49, (.stc [(3, 0), (3, 1), (3, 2), (9, 3), (3, 4)]), some t49),
  (50, (.stc [(3, 0), (3, 1), (3, 2), (9, 3), (3, 4)]), some t50),
  (51, (.slc 32), some t51),
  (56, (.slc 63), some t56),
  (62, (.stc [(3, 0), (3, 1)]), some t62),
  (63, (.stc [(3, 0), (3, 1)]), some t63),
  (66, (.int .i64), some t66),
  (69, (.stc [(3, 0), (3, 1), (3, 2), (3, 3), (9, 4)]), some t69),
  (70, (.stc [(3, 0), (3, 1), (3, 2), (3, 3), (9, 4)]), some t70),
  (71, (.stc [(22, 0), (3, 1)]), some t71),
  (72, (.stc [(22, 0), (3, 1)]), some t72),
  (79, (.slc 4), some t79),
  (89, (.slc 131), some t89),
  (93, (.stc [(3, 0), (9, 1), (4, 2)]), some t93),
  (94, (.stc [(3, 0), (9, 1), (4, 2)]), some t94),
  (105, (.stc []), some t105),
  (106, (.stc []), some t106),
  (108, .ifc, some t108),
  (109, .ifc, some t109),
  (114, (.slc 117), some t114),
  (116, (.stc [(37, 0), (3, 1)]), some t116),
  (117, (.stc [(37, 0), (3, 1)]), some t117),
  (130, (.stc [(3, 0), (3, 1), (3, 2), (3, 3), (3, 4), (3, 5), (37, 6), (3, 7), (3, 8), (9, 9)]), some t130),
  (131, (.stc [(3, 0), (3, 1), (3, 2), (3, 3), (3, 4), (3, 5), (37, 6), (3, 7), (3, 8), (9, 9)]), some t131),
  (135, (.stc []), some t135),
  (152, (.stc [(3, 0), (9, 1)]), some t152),
  (153, (.stc [(3, 0), (9, 1)]), some t153),
  (154, (.stc [(3, 0), (3, 1), (3, 2)]), some t154),
  (155, (.stc [(3, 0), (3, 1), (3, 2)]), some t155),
  (159, (.int .u32), some t159),
  (161, (.int .u64), some t161),
  (191, (.ptr 193), none),
  (192, (.stc [(22, 0), (4, 1)]), some t192),
  (193, (.stc [(22, 0), (4, 1)]), some t193),
  (225, (.ptr 5), none),
  (1000000106, .mth 106 "pleach/log.fits" 160, none),
  (1000000135, .mth 135 "pleach/log.fits" 161, none),
  (2000000106, .ovl 106, none)]
open Go.Proofs
set_option maxRecDepth 100000
theorem tabok : TabOK Tryz.prog tab := tabOK_of (by kernel_rfl)
theorem follows : Tryz.prog.follows .mixedOrders = true := by kernel_rfl
end Go.PE
