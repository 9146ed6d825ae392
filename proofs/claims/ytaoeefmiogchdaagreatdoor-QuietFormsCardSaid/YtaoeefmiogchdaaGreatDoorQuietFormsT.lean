/-
  The table of types.
  Conditions: none.
-/
import Derived.Test.YtaoeefmiogchdaaGreatDoorE4
import Derived.Test.YtaoeefmiogchdaaGreatDoorProg
import Derived.WalkKit
import Derived.BigCall
namespace Go.PE
def t2:Ty:=.int .i64
def t3:Ty:=.int .i64
def t4:Ty:=.bool
def t5:Ty:=.int .u8
def t9:Ty:=.str
def t12:Ty:=.int .u64
def t20:Ty:=.ifc
def t21:Ty:=.int .i32
def t44:Ty:=.sl 3 t3
def t84:Ty:=.pair t3 (.pair t3 t3)
def t49:Ty:=.sl 84 t84
def t51:Ty:=.pair t3 (.pair t3 (.pair t3 (.pair t3 (.pair t3 (.pair t3 (.pair t44 (.pair t3 (.pair t3 (.pair t3 (.pair t3 (.pair t3 t49)))))))))))
def Xdi:Ty:=.pair t3 t9
def t52:Ty:=.sl 142 Xdi
def Xdm:Ty:=.pair t3 (.pair t3 (.pair t3 (.pair t9 t3)))
def t53:Ty:=.sl 144 Xdm
def t55:Ty:=.pair t3 t3
def t57:Ty:=.pair t3 (.pair t3 (.pair t52 (.pair t52 (.pair t53 t55))))
def t59:Ty:=.pair t4 (.pair t3 (.pair t9 (.pair t51 (.pair t57 t3))))
def t23:Ty:=.sl 59 t59
def t75:Ty:=.pair t3 (.pair t9 t4)
def t24:Ty:=.sl 75 t75
def t25:Ty:=.sl 9 t9
def t26:Ty:=.sl 44 t44
def t91:Ty:=.pair t44 t3
def t88:Ty:=.sl 91 t91
def t27:Ty:=.sl 88 t88
def t28:Ty:=.pair t3 (.pair t26 t27)
def t29:Ty:=.pair t3 (.pair t26 t27)
def t30:Ty:=.pair t23 (.pair t24 (.pair t25 t29))
def t31:Ty:=.pair t23 (.pair t24 (.pair t25 t29))
def t37:Ty:=.int .i64
def t40:Ty:=.pair t3 (.pair t3 (.pair t3 (.pair t3 t9)))
def t41:Ty:=.pair t3 (.pair t3 (.pair t3 (.pair t3 t9)))
def t45:Ty:=.sl 4 t4
def t50:Ty:=.pair t3 (.pair t3 (.pair t3 (.pair t3 (.pair t3 (.pair t3 (.pair t44 (.pair t3 (.pair t3 (.pair t3 (.pair t3 (.pair t3 t49)))))))))))
def t54:Ty:=.pair t3 t3
def t56:Ty:=.pair t3 (.pair t3 (.pair t52 (.pair t52 (.pair t53 t55))))
def t58:Ty:=.pair t4 (.pair t3 (.pair t9 (.pair t51 (.pair t57 t3))))
def t66:Ty:=.sl 5 t5
def t67:Ty:=.pair t66 t3
def t68:Ty:=.pair t66 t3
def Xdh:Ty:=.pair t3 (.pair t3 (.pair t3 (.pair t3 (.pair t3 (.pair t3 (.pair t44 (.pair t3 (.pair t3 t9))))))))
def t70:Ty:=.sl 105 Xdh
def t74:Ty:=.pair t3 (.pair t9 t4)
def t83:Ty:=.pair t3 (.pair t3 t3)
def t90:Ty:=.pair t44 t3
def Qsi:Ty:=.pair t3 (.pair t3 (.pair t3 (.pair t3 (.pair t3 (.pair t3 (.pair t44 (.pair t3 (.pair t3 t9))))))))
def Xao:Ty:=.pair t31 .unit
def Xdq:Ty:=.pair t31 .unit
def Xe3:Ty:=.ifc
def Xdd:Ty:=.ifc
def Xdg:Ty:=.pair t37 .unit
def Xeb:Ty:=.pair t37 .unit
def Xec:Ty:=.pair t3 t3
def Xdl:Ty:=.pair t3 t3
def Qyo:Ty:=.pair t3 t9
def Xa0:Ty:=.pair t3 (.pair t3 (.pair t3 (.pair t9 t3)))
def Xar:Ty:=.int .u32
def Xe6:Ty:=.int .u64
def X20:Ty:=.sl 134 Xdl
def Xde:Ty:=.pair t66 t4
def Xe7:Ty:=.pair t66 t4
def Xe1:Ty:=.pair t3 .unit
def Xe5:Ty:=.pair t3 .unit
def X8n:Ty:=.pair t51 t70
def Xdt:Ty:=.pair t51 t70
def Xbr:Ty:=.pair t66 Xdd
def Xdr:Ty:=.pair t66 Xdd
def Xdu:Ty:=.pair t9 .unit
def Xds:Ty:=.pair t9 .unit
def Xdx:Ty:=.int .i64
def Xdo:Ty:=.int .u64
def Xdn:Ty:=.pair t5 t5
def Xdp:Ty:=.pair t5 t5
def Xe9:Ty:=.int .u64
def Xea:Ty:=.unit
def Xdy:Ty:=.unit
def Xdv:Tab:=[
 (2,(.int .i64),some t2),
 (3,(.int .i64),some t3),
 (4,.bool,some t4),
 (5,(.int .u8),some t5),
 (9,.str,some t9),
 (12,(.int .u64),some t12),
 (20,.ifc,some t20),
 (21,(.int .i32),some t21),
 (23,(.slc 59),some t23),
 (24,(.slc 75),some t24),
 (25,(.slc 9),some t25),
 (26,(.slc 44),some t26),
 (27,(.slc 88),some t27),
 (28,(.stc [(3,0),(26,1),(27,2)]),some t28),
 (29,(.stc [(3,0),(26,1),(27,2)]),some t29),
 (30,(.stc [(23,0),(24,1),(25,2),(29,3)]),some t30),
 (31,(.stc [(23,0),(24,1),(25,2),(29,3)]),some t31),
 (34,(.ptr 68),none),
 (37,(.int .i64),some t37),
 (40,(.stc [(3,0),(3,1),(3,2),(3,3),(9,4)]),some t40),
 (41,(.stc [(3,0),(3,1),(3,2),(3,3),(9,4)]),some t41),
 (44,(.slc 3),some t44),
 (45,(.slc 4),some t45),
 (49,(.slc 84),some t49),
 (50,(.stc [(3,0),(3,1),(3,2),(3,3),(3,4),(3,5),(44,6),(3,7),(3,8),(3,9),(3,10),(3,11),(49,12)]),some t50),
 (51,(.stc [(3,0),(3,1),(3,2),(3,3),(3,4),(3,5),(44,6),(3,7),(3,8),(3,9),(3,10),(3,11),(49,12)]),some t51),
 (52,(.slc 142),some t52),
 (53,(.slc 144),some t53),
 (54,(.stc [(3,0),(3,1)]),some t54),
 (55,(.stc [(3,0),(3,1)]),some t55),
 (56,(.stc [(3,0),(3,1),(52,2),(52,3),(53,4),(55,5)]),some t56),
 (57,(.stc [(3,0),(3,1),(52,2),(52,3),(53,4),(55,5)]),some t57),
 (58,(.stc [(4,0),(3,1),(9,2),(51,3),(57,16),(3,23)]),some t58),
 (59,(.stc [(4,0),(3,1),(9,2),(51,3),(57,16),(3,23)]),some t59),
 (66,(.slc 5),some t66),
 (67,(.stc [(66,0),(3,1)]),some t67),
 (68,(.stc [(66,0),(3,1)]),some t68),
 (70,(.slc 105),some t70),
 (74,(.stc [(3,0),(9,1),(4,2)]),some t74),
 (75,(.stc [(3,0),(9,1),(4,2)]),some t75),
 (83,(.stc [(3,0),(3,1),(3,2)]),some t83),
 (84,(.stc [(3,0),(3,1),(3,2)]),some t84),
 (88,(.slc 91),some t88),
 (90,(.stc [(44,0),(3,1)]),some t90),
 (91,(.stc [(44,0),(3,1)]),some t91),
 (104,(.stc [(3,0),(3,1),(3,2),(3,3),(3,4),(3,5),(44,6),(3,7),(3,8),(9,9)]),some Qsi),
 (105,(.stc [(3,0),(3,1),(3,2),(3,3),(3,4),(3,5),(44,6),(3,7),(3,8),(9,9)]),some Xdh),
 (115,(.ptr 117),none),
 (116,(.stc [(31,0)]),some Xao),
 (117,(.stc [(31,0)]),some Xdq),
 (118,.ifc,some Xe3),
 (119,.ifc,some Xdd),
 (121,(.stc [(37,0)]),some Xdg),
 (122,(.stc [(37,0)]),some Xeb),
 (133,(.stc [(3,0),(3,1)]),some Xec),
 (134,(.stc [(3,0),(3,1)]),some Xdl),
 (141,(.stc [(3,0),(9,1)]),some Qyo),
 (142,(.stc [(3,0),(9,1)]),some Xdi),
 (143,(.stc [(3,0),(3,1),(3,2),(9,3),(3,4)]),some Xa0),
 (144,(.stc [(3,0),(3,1),(3,2),(9,3),(3,4)]),some Xdm),
 (148,(.int .u32),some Xar),
 (150,(.int .u64),some Xe6),
 (183,(.slc 134),some X20),
 (193,(.ptr 195),none),
 (194,(.stc [(66,0),(4,1)]),some Xde),
 (195,(.stc [(66,0),(4,1)]),some Xe7),
 (209,(.stc [(3,0)]),some Xe1),
 (210,(.stc [(3,0)]),some Xe5),
 (216,(.ptr 59),none),
 (246,(.ptr 249),none),
 (248,(.stc [(51,0),(70,13)]),some X8n),
 (249,(.stc [(51,0),(70,13)]),some Xdt),
 (257,(.ptr 259),none),
 (258,(.stc [(66,0),(119,1)]),some Xbr),
 (259,(.stc [(66,0),(119,1)]),some Xdr),
 (261,(.stc [(9,0)]),some Xdu),
 (262,(.stc [(9,0)]),some Xds),
 (287,(.int .i64),some Xdx),
 (296,(.int .u64),some Xdo),
 (308,(.arr 256 5),none),
 (309,(.stc [(5,0),(5,1)]),some Xdn),
 (310,(.stc [(5,0),(5,1)]),some Xdp),
 (311,(.arr 16 310),none),
 (312,(.int .u64),some Xe9),
 (316,(.ptr 3),none),
 (320,(.stc []),some Xea),
 (321,(.stc []),some Xdy),
 (326,(.ptr 312),none),
 (340,(.ptr 5),none),
 (1000000122,.mth 122 "Error" 340,none),
 (1000000210,.mth 210 "Error" 341,none),
 (1000000262,.mth 262 "Error" 342,none),
 (1000000321,.mth 321 "Error" 343,none),
 (2000000315,.ovl 315,none),
 (2000000318,.ovl 318,none)]
section
open Go.Proofs Go.RowKit
set_option maxHeartbeats 4000000 in
set_option maxRecDepth 1000000 in
theorem Xdf:Qi7 Tryz.prog 134 122 .i64 1 24:=by
 refine ⟨⟨Tryz.f134,Tryz.func134,by kernel_rfl,by kernel_rfl⟩,fun w b cs T A n cp r hh hc0 hn=>?_⟩
 have hcell:w.cell? ⟨b,0,none⟩=some (.slice A n cp):=by simp [World.cell?,hh,hc0]
 refine ⟨fun hr=>?_,fun h1 h2 g hA=>?_⟩
 ·by_cases h1:r<1
  ·go_enter Tryz.func134,Tryz.ntmps134
   go_wp2
   go_ret2
   exact ⟨⟨_,rfl⟩,Fr.refl _ _⟩
  ·have h2:(n:Int)<r:=hr.resolve_left h1
   have h3:r>(n:Int):=h2
   go_enter Tryz.func134,Tryz.ntmps134
   go_wp2
   go_ret2
   exact ⟨⟨_,rfl⟩,Fr.refl _ _⟩
 ·subst hA
  have h3:¬ r<1:=by omega
  have h4:¬ r>(n:Int):=by omega
  have hw:wrap64 (r - 1)=r - 1:=by
   have:n≤9223372036854775807:=hn
   unfold wrap64;omega
  have h5:0≤wrap64 (r - 1)∧wrap64 (r - 1)<(n:Int):=by rw [hw];omega
  go_enter Tryz.func134,Tryz.ntmps134
  go_wp2
  go_ret2
  exact ⟨rfl,Fr.refl _ _⟩
end
def tab:Tab:=(3000000000+134,.elt 134 122 .i64 1 24,none)::Xdv
open Go.Proofs
set_option maxRecDepth 100000
theorem Qjz:Qc Tryz.prog tab:=Qj0 (Qj9 (by kernel_rfl)) (by kernel_rfl) Xdf
theorem follows:Tryz.prog.follows .mixedOrders=true:=by kernel_rfl
end Go.PE
namespace Go.PE
abbrev Qk2:Type:=Int × ByteArray
abbrev Xcg:Type:=(List Int) × IV
abbrev Qp3:Type:=List (List Int)
abbrev Qkm:Type:=Int × Int × Int
abbrev Zng:Type:=List (Int × Int)
abbrev Xd3:Type:=ByteArray × Unit
abbrev Qq3:Type:=(List Int) × Int
abbrev Xd5:Type:=(List Int) × Bool
abbrev Zjb:Type:=List (Int × Int × Int)
abbrev Qkg:Type:=List (Int × ByteArray)
abbrev Z8z:Type:=Int × ByteArray × Bool
abbrev Qn2:Int × ByteArray × Bool:=(0,(⟨#[]⟩:ByteArray),false)
abbrev Qkr:Type:=List ((List Int) × Int)
abbrev Qq2:Type:=List (Int × ByteArray × Bool)
abbrev X4e:Type:=List (List ((List Int) × Int))
abbrev Qkq:Type:=Int × Int × Int × ByteArray × Int
abbrev Xcz:Type:=Int × Int × Int × Int × ByteArray
abbrev X5a:Int × Int × Int × ByteArray × Int:=(0,0,0,(⟨#[]⟩:ByteArray),0)
abbrev Xee:Int × Int × Int × Int × ByteArray:=(0,0,0,0,(⟨#[]⟩:ByteArray))
abbrev Qpf:Type:=List (Int × Int × Int × ByteArray × Int)
abbrev Xcm:Type:=Int × (List (List Int)) × List (List ((List Int) × Int))
abbrev Qko:Type:=Int × Int × Int × Int × Int × Int × (List Int) × Int × Int × ByteArray
abbrev Ql1:Int × Int × Int × Int × Int × Int × (List Int) × Int × Int × ByteArray:=(0,0,0,0,0,0,[],0,0,(⟨#[]⟩:ByteArray))
abbrev Qtq:Type:=List (Int × Int × Int × Int × Int × Int × (List Int) × Int × Int × ByteArray)
abbrev Qli:Type:=Int × Int × Int × Int × Int × Int × (List Int) × Int × Int × Int × Int × Int × List (Int × Int × Int)
abbrev Xdk:Int × Int × Int × Int × Int × Int × (List Int) × Int × Int × Int × Int × Int × List (Int × Int × Int):=(0,0,0,0,0,0,[],0,0,0,0,0,[])
abbrev Qnc:Type:=Int × Int × (List (Int × ByteArray)) × (List (Int × ByteArray)) × (List (Int × Int × Int × ByteArray × Int)) × Int × Int
abbrev Zcr:Type:=(Int × Int × Int × Int × Int × Int × (List Int) × Int × Int × Int × Int × Int × List (Int × Int × Int)) × List (Int × Int × Int × Int × Int × Int × (List Int) × Int × Int × ByteArray)
abbrev Xe2:(Int × Int × Int × Int × Int × Int × (List Int) × Int × Int × Int × Int × Int × List (Int × Int × Int)) × List (Int × Int × Int × Int × Int × Int × (List Int) × Int × Int × ByteArray):=((0,0,0,0,0,0,[],0,0,0,0,0,[]),[])
abbrev Z3k:Type:=Bool × Int × ByteArray × (Int × Int × Int × Int × Int × Int × (List Int) × Int × Int × Int × Int × Int × List (Int × Int × Int)) × (Int × Int × (List (Int × ByteArray)) × (List (Int × ByteArray)) × (List (Int × Int × Int × ByteArray × Int)) × Int × Int) × Int
abbrev Qk4:Bool × Int × ByteArray × (Int × Int × Int × Int × Int × Int × (List Int) × Int × Int × Int × Int × Int × List (Int × Int × Int)) × (Int × Int × (List (Int × ByteArray)) × (List (Int × ByteArray)) × (List (Int × Int × Int × ByteArray × Int)) × Int × Int) × Int:=(false,0,(⟨#[]⟩:ByteArray),(0,0,0,0,0,0,[],0,0,0,0,0,[]),(0,0,[],[],[],0,0),0)
abbrev Qsj:Type:=List (Bool × Int × ByteArray × (Int × Int × Int × Int × Int × Int × (List Int) × Int × Int × Int × Int × Int × List (Int × Int × Int)) × (Int × Int × (List (Int × ByteArray)) × (List (Int × ByteArray)) × (List (Int × Int × Int × ByteArray × Int)) × Int × Int) × Int)
abbrev Zmw:Type:=(List (Bool × Int × ByteArray × (Int × Int × Int × Int × Int × Int × (List Int) × Int × Int × Int × Int × Int × List (Int × Int × Int)) × (Int × Int × (List (Int × ByteArray)) × (List (Int × ByteArray)) × (List (Int × Int × Int × ByteArray × Int)) × Int × Int) × Int)) × (List (Int × ByteArray × Bool)) × (List ByteArray) × Int × (List (List Int)) × List (List ((List Int) × Int))
abbrev Zka:Type:=((List (Bool × Int × ByteArray × (Int × Int × Int × Int × Int × Int × (List Int) × Int × Int × Int × Int × Int × List (Int × Int × Int)) × (Int × Int × (List (Int × ByteArray)) × (List (Int × ByteArray)) × (List (Int × Int × Int × ByteArray × Int)) × Int × Int) × Int)) × (List (Int × ByteArray × Bool)) × (List ByteArray) × Int × (List (List Int)) × List (List ((List Int) × Int))) × Unit
end Go.PE
