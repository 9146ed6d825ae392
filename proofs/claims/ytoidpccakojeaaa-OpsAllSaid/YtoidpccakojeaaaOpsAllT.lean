/-
  The table of types.
  Conditions: none.
-/
import Derived.Test.YtoidpccakojeaaaE3
import Derived.Test.YtoidpccakojeaaaProg
namespace Go.PE
def t2 : Ty := .int .i64
def t3 : Ty := .int .i64
def t4 : Ty := .bool
def t5 : Ty := .int .u8
def t9 : Ty := .str
def t12 : Ty := .int .u64
def t20 : Ty := .ifc
def t21 : Ty := .int .i32
def t22 : Ty := .int .u32
def t23 : Ty := .sl 5 t5
def t33 : Ty := .sl 3 t3
def t34 : Ty := .sl 9 t9
def t37 : Ty := .pair t3 (.pair t3 (.pair t3 (.pair t3 t9)))
def t35 : Ty := .sl 37 t37
def t36 : Ty := .pair t3 (.pair t3 (.pair t3 (.pair t3 t9)))
def t182 : Ty := .pair t3 (.pair t3 t3)
def t117 : Ty := .sl 182 t182
def t119 : Ty := .pair t3 (.pair t3 (.pair t3 (.pair t3 (.pair t3 (.pair t3 (.pair t33 (.pair t3 (.pair t3 (.pair t3 (.pair t3 (.pair t3 t117)))))))))))
def t184 : Ty := .pair t3 t9
def t120 : Ty := .sl 184 t184
def t186 : Ty := .pair t3 (.pair t3 (.pair t3 (.pair t9 t3)))
def t121 : Ty := .sl 186 t186
def t123 : Ty := .pair t3 t3
def t125 : Ty := .pair t3 (.pair t3 (.pair t120 (.pair t120 (.pair t121 t123))))
def t127 : Ty := .pair t4 (.pair t3 (.pair t9 (.pair t119 (.pair t125 t3))))
def t40 : Ty := .sl 127 t127
def t180 : Ty := .pair t3 (.pair t9 t4)
def t41 : Ty := .sl 180 t180
def t42 : Ty := .sl 33 t33
def t142 : Ty := .pair t33 t3
def t139 : Ty := .sl 142 t142
def t43 : Ty := .sl 139 t139
def t44 : Ty := .pair t3 (.pair t42 t43)
def t45 : Ty := .pair t3 (.pair t42 t43)
def t46 : Ty := .pair t40 (.pair t41 (.pair t34 t45))
def t47 : Ty := .pair t40 (.pair t41 (.pair t34 t45))
def t54 : Ty := .int .u16
def t58 : Ty := .pair t3 (.pair t3 (.pair t3 (.pair t3 (.pair t3 (.pair t3 (.pair t33 (.pair t3 (.pair t3 t9))))))))
def t59 : Ty := .pair t3 (.pair t3 (.pair t3 (.pair t3 (.pair t3 (.pair t3 (.pair t33 (.pair t3 (.pair t3 t9))))))))
def t62 : Ty := .sl 59 t59
def t72 : Ty := .int .u64
def t73 : Ty := .ifc
def t74 : Ty := .ifc
def t77 : Ty := .unit
def t78 : Ty := .unit
def t80 : Ty := .pair t23 t3
def t81 : Ty := .pair t23 t3
def t88 : Ty := .pair t23 t74
def t89 : Ty := .pair t23 t74
def t91 : Ty := .unit
def t94 : Ty := .pair t23 t4
def t95 : Ty := .pair t23 t4
def t103 : Ty := .pair t3 t3
def t104 : Ty := .pair t3 t3
def t108 : Ty := .pair t23 t74
def t109 : Ty := .pair t23 t74
def t111 : Ty := .pair t9 .unit
def t112 : Ty := .pair t9 .unit
def t118 : Ty := .pair t3 (.pair t3 (.pair t3 (.pair t3 (.pair t3 (.pair t3 (.pair t33 (.pair t3 (.pair t3 (.pair t3 (.pair t3 (.pair t3 t117)))))))))))
def t122 : Ty := .pair t3 t3
def t124 : Ty := .pair t3 (.pair t3 (.pair t120 (.pair t120 (.pair t121 t123))))
def t126 : Ty := .pair t4 (.pair t3 (.pair t9 (.pair t119 (.pair t125 t3))))
def t141 : Ty := .pair t33 t3
def t149 : Ty := .pair t3 .unit
def t150 : Ty := .pair t3 .unit
def t179 : Ty := .pair t3 (.pair t9 t4)
def t181 : Ty := .pair t3 (.pair t3 t3)
def t183 : Ty := .pair t3 t9
def t185 : Ty := .pair t3 (.pair t3 (.pair t3 (.pair t9 t3)))
def tab : Tab := [
  (2, (.int .i64), some t2),
  (3, (.int .i64), some t3),
  (4, .bool, some t4),
  (5, (.int .u8), some t5),
  (9, .str, some t9),
  (12, (.int .u64), some t12),
  (20, .ifc, some t20),
  (21, (.int .i32), some t21),
  (22, (.int .u32), some t22),
  (23, (.slc 5), some t23),
  (33, (.slc 3), some t33),
  (34, (.slc 9), some t34),
  (35, (.slc 37), some t35),
  (36, (.stc [(3, 0), (3, 1), (3, 2), (3, 3), (9, 4)]), some t36),
  (37, (.stc [(3, 0), (3, 1), (3, 2), (3, 3), (9, 4)]), some t37),
  (38, (.ptr 81), none),
  (40, (.slc 127), some t40),
  (41, (.slc 180), some t41),
  (42, (.slc 33), some t42),
  (43, (.slc 139), some t43),
  (44, (.stc [(3, 0), (42, 1), (43, 2)]), some t44),
  (45, (.stc [(3, 0), (42, 1), (43, 2)]), some t45),
  (46, (.stc [(40, 0), (41, 1), (34, 2), (45, 3)]), some t46),
  (47, (.stc [(40, 0), (41, 1), (34, 2), (45, 3)]), some t47),
  (54, (.int .u16), some t54),
  (58, (.stc [(3, 0), (3, 1), (3, 2), (3, 3), (3, 4), (3, 5), (33, 6), (3, 7), (3, 8), (9, 9)]), some t58),
  (59, (.stc [(3, 0), (3, 1), (3, 2), (3, 3), (3, 4), (3, 5), (33, 6), (3, 7), (3, 8), (9, 9)]), some t59),
  (62, (.slc 59), some t62),
  (72, (.int .u64), some t72),
  (73, .ifc, some t73),
  (74, .ifc, some t74),
  (77, (.stc []), some t77),
  (78, (.stc []), some t78),
  (80, (.stc [(23, 0), (3, 1)]), some t80),
  (81, (.stc [(23, 0), (3, 1)]), some t81),
  (87, (.ptr 89), none),
  (88, (.stc [(23, 0), (74, 1)]), some t88),
  (89, (.stc [(23, 0), (74, 1)]), some t89),
  (91, (.stc []), some t91),
  (93, (.ptr 95), none),
  (94, (.stc [(23, 0), (4, 1)]), some t94),
  (95, (.stc [(23, 0), (4, 1)]), some t95),
  (103, (.stc [(3, 0), (3, 1)]), some t103),
  (104, (.stc [(3, 0), (3, 1)]), some t104),
  (107, (.ptr 109), none),
  (108, (.stc [(23, 0), (74, 1)]), some t108),
  (109, (.stc [(23, 0), (74, 1)]), some t109),
  (111, (.stc [(9, 0)]), some t111),
  (112, (.stc [(9, 0)]), some t112),
  (117, (.slc 182), some t117),
  (118, (.stc [(3, 0), (3, 1), (3, 2), (3, 3), (3, 4), (3, 5), (33, 6), (3, 7), (3, 8), (3, 9), (3, 10), (3, 11), (117, 12)]), some t118),
  (119, (.stc [(3, 0), (3, 1), (3, 2), (3, 3), (3, 4), (3, 5), (33, 6), (3, 7), (3, 8), (3, 9), (3, 10), (3, 11), (117, 12)]), some t119),
  (120, (.slc 184), some t120),
  (121, (.slc 186), some t121),
  (122, (.stc [(3, 0), (3, 1)]), some t122),
  (123, (.stc [(3, 0), (3, 1)]), some t123),
  (124, (.stc [(3, 0), (3, 1), (120, 2), (120, 3), (121, 4), (123, 5)]), some t124),
  (125, (.stc [(3, 0), (3, 1), (120, 2), (120, 3), (121, 4), (123, 5)]), some t125),
  (126, (.stc [(4, 0), (3, 1), (9, 2), (119, 3), (125, 16), (3, 23)]), some t126),
  (127, (.stc [(4, 0), (3, 1), (9, 2), (119, 3), (125, 16), (3, 23)]), some t127),
  (139, (.slc 142), some t139),
  (141, (.stc [(33, 0), (3, 1)]), some t141),
  (142, (.stc [(33, 0), (3, 1)]), some t142),
  (149, (.stc [(3, 0)]), some t149),
  (150, (.stc [(3, 0)]), some t150),
  (174, (.ptr 5), none),
  (179, (.stc [(3, 0), (9, 1), (4, 2)]), some t179),
  (180, (.stc [(3, 0), (9, 1), (4, 2)]), some t180),
  (181, (.stc [(3, 0), (3, 1), (3, 2)]), some t181),
  (182, (.stc [(3, 0), (3, 1), (3, 2)]), some t182),
  (183, (.stc [(3, 0), (9, 1)]), some t183),
  (184, (.stc [(3, 0), (9, 1)]), some t184),
  (185, (.stc [(3, 0), (3, 1), (3, 2), (9, 3), (3, 4)]), some t185),
  (186, (.stc [(3, 0), (3, 1), (3, 2), (9, 3), (3, 4)]), some t186)]
open Go.Proofs
set_option maxRecDepth 100000
theorem tabok : TabOK Try.prog tab := tabOK_of (by kernel_rfl)
theorem follows : Try.prog.follows .mixedOrders = true := by kernel_rfl
end Go.PE
