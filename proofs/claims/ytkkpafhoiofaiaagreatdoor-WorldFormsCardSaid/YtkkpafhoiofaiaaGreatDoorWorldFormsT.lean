/-
  The table of types.
  Conditions: none.
-/
import Derived.Test.YtkkpafhoiofaiaaGreatDoorE4
import Derived.Test.YtkkpafhoiofaiaaGreatDoorProg
import Derived.WalkKit
import Derived.BigCall
namespace Go.PE
def t2 : Ty := .int .i64
def t3 : Ty := .int .i64
def t4 : Ty := .bool
def t5 : Ty := .int .u8
def t9 : Ty := .str
def t12 : Ty := .int .u64
def t20 : Ty := .ifc
def t21 : Ty := .int .i32
def t23 : Ty := .sl 3 t3
def t127 : Ty := .pair t3 (.pair t3 t3)
def t24 : Ty := .sl 127 t127
def t25 : Ty := .pair t3 (.pair t3 (.pair t3 (.pair t3 (.pair t3 (.pair t3 (.pair t23 (.pair t3 (.pair t3 (.pair t3 (.pair t3 (.pair t3 t24)))))))))))
def t26 : Ty := .pair t3 (.pair t3 (.pair t3 (.pair t3 (.pair t3 (.pair t3 (.pair t23 (.pair t3 (.pair t3 (.pair t3 (.pair t3 (.pair t3 t24)))))))))))
def t136 : Ty := .pair t3 t9
def t27 : Ty := .sl 136 t136
def t139 : Ty := .pair t3 (.pair t3 (.pair t3 (.pair t9 t3)))
def t28 : Ty := .sl 139 t139
def t29 : Ty := .pair t3 t3
def t30 : Ty := .pair t3 t3
def t31 : Ty := .pair t3 (.pair t3 (.pair t27 (.pair t27 (.pair t28 t30))))
def t32 : Ty := .pair t3 (.pair t3 (.pair t27 (.pair t27 (.pair t28 t30))))
def t33 : Ty := .pair t4 (.pair t3 (.pair t9 (.pair t26 (.pair t32 t3))))
def t34 : Ty := .pair t4 (.pair t3 (.pair t9 (.pair t26 (.pair t32 t3))))
def t41 : Ty := .pair t3 (.pair t3 (.pair t3 (.pair t3 (.pair t3 (.pair t3 (.pair t23 (.pair t3 (.pair t3 t9))))))))
def t37 : Ty := .sl 41 t41
def t40 : Ty := .pair t3 (.pair t3 (.pair t3 (.pair t3 (.pair t3 (.pair t3 (.pair t23 (.pair t3 (.pair t3 t9))))))))
def t43 : Ty := .sl 5 t5
def t46 : Ty := .sl 34 t34
def t118 : Ty := .pair t3 (.pair t9 t4)
def t47 : Ty := .sl 118 t118
def t48 : Ty := .sl 9 t9
def t49 : Ty := .sl 23 t23
def t207 : Ty := .pair t23 t3
def t190 : Ty := .sl 207 t207
def t50 : Ty := .sl 190 t190
def t51 : Ty := .pair t3 (.pair t49 t50)
def t52 : Ty := .pair t3 (.pair t49 t50)
def t53 : Ty := .pair t46 (.pair t47 (.pair t48 t52))
def t54 : Ty := .pair t46 (.pair t47 (.pair t48 t52))
def t60 : Ty := .pair t3 (.pair t3 (.pair t3 (.pair t3 t9)))
def t61 : Ty := .pair t3 (.pair t3 (.pair t3 (.pair t3 t9)))
def t62 : Ty := .sl 61 t61
def t63 : Ty := .int .i64
def t64 : Ty := .sl 63 t63
def t69 : Ty := .sl 4 t4
def t80 : Ty := .pair t3 t3
def t81 : Ty := .pair t3 t3
def t94 : Ty := .int .u32
def t96 : Ty := .int .u64
def t103 : Ty := .pair t43 t3
def t104 : Ty := .pair t43 t3
def t107 : Ty := .pair t54 .unit
def t108 : Ty := .pair t54 .unit
def t109 : Ty := .ifc
def t110 : Ty := .ifc
def t112 : Ty := .pair t63 .unit
def t113 : Ty := .pair t63 .unit
def t117 : Ty := .pair t3 (.pair t9 t4)
def t126 : Ty := .pair t3 (.pair t3 t3)
def t135 : Ty := .pair t3 t9
def t138 : Ty := .pair t3 (.pair t3 (.pair t3 (.pair t9 t3)))
def t142 : Ty := .pair t26 t37
def t143 : Ty := .pair t26 t37
def t152 : Ty := .sl 81 t81
def t160 : Ty := .pair t43 t110
def t161 : Ty := .pair t43 t110
def t163 : Ty := .pair t9 .unit
def t164 : Ty := .pair t9 .unit
def t206 : Ty := .pair t23 t3
def t298 : Ty := .pair t43 t4
def t299 : Ty := .pair t43 t4
def t302 : Ty := .pair t3 .unit
def t303 : Ty := .pair t3 .unit
def t308 : Ty := .unit
def t309 : Ty := .unit
def t316 : Ty := .int .i64
def t325 : Ty := .int .u64
def t334 : Ty := .pair t5 t5
def t335 : Ty := .pair t5 t5
def t339 : Ty := .int .u64
def tab0 : Tab := [
  (2, (.int .i64), some t2),
  (3, (.int .i64), some t3),
  (4, .bool, some t4),
  (5, (.int .u8), some t5),
  (9, .str, some t9),
  (12, (.int .u64), some t12),
  (20, .ifc, some t20),
  (21, (.int .i32), some t21),
  (23, (.slc 3), some t23),
  (24, (.slc 127), some t24),
  (25, (.stc [(3, 0), (3, 1), (3, 2), (3, 3), (3, 4), (3, 5), (23, 6), (3, 7), (3, 8), (3, 9), (3, 10), (3, 11), (24, 12)]), some t25),
  (26, (.stc [(3, 0), (3, 1), (3, 2), (3, 3), (3, 4), (3, 5), (23, 6), (3, 7), (3, 8), (3, 9), (3, 10), (3, 11), (24, 12)]), some t26),
  (27, (.slc 136), some t27),
  (28, (.slc 139), some t28),
  (29, (.stc [(3, 0), (3, 1)]), some t29),
  (30, (.stc [(3, 0), (3, 1)]), some t30),
  (31, (.stc [(3, 0), (3, 1), (27, 2), (27, 3), (28, 4), (30, 5)]), some t31),
  (32, (.stc [(3, 0), (3, 1), (27, 2), (27, 3), (28, 4), (30, 5)]), some t32),
  (33, (.stc [(4, 0), (3, 1), (9, 2), (26, 3), (32, 16), (3, 23)]), some t33),
  (34, (.stc [(4, 0), (3, 1), (9, 2), (26, 3), (32, 16), (3, 23)]), some t34),
  (37, (.slc 41), some t37),
  (40, (.stc [(3, 0), (3, 1), (3, 2), (3, 3), (3, 4), (3, 5), (23, 6), (3, 7), (3, 8), (9, 9)]), some t40),
  (41, (.stc [(3, 0), (3, 1), (3, 2), (3, 3), (3, 4), (3, 5), (23, 6), (3, 7), (3, 8), (9, 9)]), some t41),
  (43, (.slc 5), some t43),
  (46, (.slc 34), some t46),
  (47, (.slc 118), some t47),
  (48, (.slc 9), some t48),
  (49, (.slc 23), some t49),
  (50, (.slc 190), some t50),
  (51, (.stc [(3, 0), (49, 1), (50, 2)]), some t51),
  (52, (.stc [(3, 0), (49, 1), (50, 2)]), some t52),
  (53, (.stc [(46, 0), (47, 1), (48, 2), (52, 3)]), some t53),
  (54, (.stc [(46, 0), (47, 1), (48, 2), (52, 3)]), some t54),
  (57, (.ptr 104), none),
  (60, (.stc [(3, 0), (3, 1), (3, 2), (3, 3), (9, 4)]), some t60),
  (61, (.stc [(3, 0), (3, 1), (3, 2), (3, 3), (9, 4)]), some t61),
  (62, (.slc 61), some t62),
  (63, (.int .i64), some t63),
  (64, (.slc 63), some t64),
  (69, (.slc 4), some t69),
  (80, (.stc [(3, 0), (3, 1)]), some t80),
  (81, (.stc [(3, 0), (3, 1)]), some t81),
  (94, (.int .u32), some t94),
  (96, (.int .u64), some t96),
  (103, (.stc [(43, 0), (3, 1)]), some t103),
  (104, (.stc [(43, 0), (3, 1)]), some t104),
  (106, (.ptr 108), none),
  (107, (.stc [(54, 0)]), some t107),
  (108, (.stc [(54, 0)]), some t108),
  (109, .ifc, some t109),
  (110, .ifc, some t110),
  (112, (.stc [(63, 0)]), some t112),
  (113, (.stc [(63, 0)]), some t113),
  (117, (.stc [(3, 0), (9, 1), (4, 2)]), some t117),
  (118, (.stc [(3, 0), (9, 1), (4, 2)]), some t118),
  (126, (.stc [(3, 0), (3, 1), (3, 2)]), some t126),
  (127, (.stc [(3, 0), (3, 1), (3, 2)]), some t127),
  (135, (.stc [(3, 0), (9, 1)]), some t135),
  (136, (.stc [(3, 0), (9, 1)]), some t136),
  (138, (.stc [(3, 0), (3, 1), (3, 2), (9, 3), (3, 4)]), some t138),
  (139, (.stc [(3, 0), (3, 1), (3, 2), (9, 3), (3, 4)]), some t139),
  (140, (.ptr 143), none),
  (142, (.stc [(26, 0), (37, 13)]), some t142),
  (143, (.stc [(26, 0), (37, 13)]), some t143),
  (152, (.slc 81), some t152),
  (159, (.ptr 161), none),
  (160, (.stc [(43, 0), (110, 1)]), some t160),
  (161, (.stc [(43, 0), (110, 1)]), some t161),
  (163, (.stc [(9, 0)]), some t163),
  (164, (.stc [(9, 0)]), some t164),
  (190, (.slc 207), some t190),
  (206, (.stc [(23, 0), (3, 1)]), some t206),
  (207, (.stc [(23, 0), (3, 1)]), some t207),
  (250, (.ptr 34), none),
  (297, (.ptr 299), none),
  (298, (.stc [(43, 0), (4, 1)]), some t298),
  (299, (.stc [(43, 0), (4, 1)]), some t299),
  (302, (.stc [(3, 0)]), some t302),
  (303, (.stc [(3, 0)]), some t303),
  (308, (.stc []), some t308),
  (309, (.stc []), some t309),
  (316, (.int .i64), some t316),
  (325, (.int .u64), some t325),
  (333, (.arr 256 5), none),
  (334, (.stc [(5, 0), (5, 1)]), some t334),
  (335, (.stc [(5, 0), (5, 1)]), some t335),
  (336, (.arr 16 335), none),
  (339, (.int .u64), some t339),
  (343, (.ptr 3), none),
  (346, (.ptr 339), none),
  (357, (.ptr 5), none),
  (1000000113, .mth 113 "Error" 371, none),
  (1000000164, .mth 164 "Error" 372, none),
  (1000000303, .mth 303 "Error" 373, none),
  (1000000309, .mth 309 "Error" 374, none),
  (2000000307, .ovl 307, none),
  (2000000341, .ovl 341, none)]
section
open Go.Proofs Go.RowKit
set_option maxHeartbeats 4000000 in
set_option maxRecDepth 1000000 in
theorem at_ok : EltOk Tryz.prog 203 113 .i64 1 24 := by
  refine ⟨⟨Tryz.f203, Tryz.func203, by kernel_rfl, by kernel_rfl⟩, fun w b cs T A n cp r hh hc0 hn => ?_⟩
  have hcell : w.cell? ⟨b, 0, none⟩ = some (.slice A n cp) := by simp [World.cell?, hh, hc0]
  refine ⟨fun hr => ?_, fun h1 h2 g hA => ?_⟩
  · by_cases h1 : r < 1
    · go_enter Tryz.func203, Tryz.ntmps203
      go_wp2
      go_ret2
      exact ⟨⟨_, rfl⟩, Fr.refl _ _⟩
    · have h2 : (n : Int) < r := hr.resolve_left h1
      have h3 : r > (n : Int) := h2
      go_enter Tryz.func203, Tryz.ntmps203
      go_wp2
      go_ret2
      exact ⟨⟨_, rfl⟩, Fr.refl _ _⟩
  · subst hA
    have h3 : ¬ r < 1 := by omega
    have h4 : ¬ r > (n : Int) := by omega
    have hw : wrap64 (r - 1) = r - 1 := by
      have : n ≤ 9223372036854775807 := hn
      unfold wrap64; omega
    have h5 : 0 ≤ wrap64 (r - 1) ∧ wrap64 (r - 1) < (n : Int) := by rw [hw]; omega
    go_enter Tryz.func203, Tryz.ntmps203
    go_wp2
    go_ret2
    exact ⟨rfl, Fr.refl _ _⟩
end
def tab : Tab := (3000000000 + 203, .elt 203 113 .i64 1 24, none) :: tab0
open Go.Proofs
set_option maxRecDepth 100000
theorem tabok : TabOK Tryz.prog tab := tabOK_elt (tabOK_of (by kernel_rfl)) (by kernel_rfl) at_ok
theorem follows : Tryz.prog.follows .mixedOrders = true := by kernel_rfl
end Go.PE
