/-
  Plain lemmas on the functions.
  Conditions: none.
-/
import Derived.Test.YtaoeefmiogchdaaGreatDoorQuietFormsF4
set_option linter.unusedVariables false
set_option maxRecDepth 100000
namespace Go.PE
open Go.Proofs
def qfD:List (List Int):=[[0,1,1,1,1,1,1,1],[1,0,1,1,1,1,1,1],[1,1,0,1,1,1,1,1],[1,1,1,0,1,1,1,1],[1,1,1,1,0,1,1,1],[1,1,1,1,1,0,1,1],[1,1,1,1,1,1,0,1],[1,1,1,1,1,1,1,0]]
def qn0:Bool × Int × ByteArray × Qli × Qnc × Int:=(true,1,(⟨#[114,111,111,116]⟩:ByteArray),(1,1,0,0,0,0,[1],0,0,0,0,0,[]),(0,0,[],[],[],0,0),0)
def qn1:Bool × Int × ByteArray × Qli × Qnc × Int:=Qk4
def Xcv:Qsj × Qq2 × (List ByteArray) × Int × Qp3 × List Qkr:=([qn0,qn1,qn1,qn1,qn1,qn1,qn1,qn1],[],[],2,qfD,[[([1],1)]])
def qn2:Bool × Int × ByteArray × Qli × Qnc × Int:=(true,1,(⟨#[98]⟩:ByteArray),(2,1,0,0,0,1,[],0,0,0,0,0,[]),(0,0,[],[],[],0,0),0)
def Xcw:Qsj × Qq2 × (List ByteArray) × Int × Qp3 × List Qkr:=([qn0,qn2,qn1,qn1,qn1,qn1,qn1,qn1],[],[],2,qfD,[[([1,2],1)]])
def qn3:Bool × Int × ByteArray × Qli × Qnc × Int:=(true,1,(⟨#[114,111,111,116]⟩:ByteArray),(1,1,1,0,0,0,[1],0,0,0,0,0,[]),(0,0,[],[],[],0,0),0)
def Xdb:Qsj × Qq2 × (List ByteArray) × Int × Qp3 × List Qkr:=([qn3,qn2,qn1,qn1,qn1,qn1,qn1,qn1],[],[],2,qfD,[[([1,2],1)]])
def qn4:Bool × Int × ByteArray × Qli × Qnc × Int:=(true,1,(⟨#[98]⟩:ByteArray),(2,1,1,0,0,1,[],0,0,1,4,0,[]),(0,0,[],[],[],0,0),0)
def Xd8:Qsj × Qq2 × (List ByteArray) × Int × Qp3 × List Qkr:=([qn3,qn4,qn1,qn1,qn1,qn1,qn1,qn1],[(1,(⟨#[1,2,1,1,0,0,0,0,0,0,72,99,32,228]⟩:ByteArray),false)],[],2,qfD,[[([1,2],1)]])
def qn5:Bool × Int × ByteArray × Qli × Qnc × Int:=(true,1,(⟨#[114,111,111,116]⟩:ByteArray),(1,1,1,0,0,0,[1],0,0,0,0,0,[(2,1,1)]),(0,0,[],[],[],0,0),0)
def Xda:Qsj × Qq2 × (List ByteArray) × Int × Qp3 × List Qkr:=([qn5,qn4,qn1,qn1,qn1,qn1,qn1,qn1],[(2,(⟨#[2,1,2,1,0,1,1,1,1,0,0,113,55,188,76]⟩:ByteArray),false)],[],2,qfD,[[([1,2],1)]])
def qn6:Bool × Int × ByteArray × Qli × Qnc × Int:=(true,1,(⟨#[98]⟩:ByteArray),(2,1,1,1,1,1,[1,2],0,0,0,4,0,[]),(1,0,[],[],[],0,0),0)
def Xd7:Qsj × Qq2 × (List ByteArray) × Int × Qp3 × List Qkr:=([qn5,qn6,qn1,qn1,qn1,qn1,qn1,qn1],[],[],2,qfD,[[([1,2],1)]])
def Xd6:Qsj × Qq2 × (List ByteArray) × Int × Qp3 × List Qkr:=([qn0,qn1,qn1,qn1,qn1,qn1,qn1,qn1],[],[],1,qfD,[[([1],1)]])
def qn7:Bool × Int × ByteArray × Qli × Qnc × Int:=(true,1,(⟨#[110]⟩:ByteArray),(2,1,0,0,0,1,[],0,0,0,0,0,[]),(0,0,[],[],[],0,0),0)
def Xcx:Qsj × Qq2 × (List ByteArray) × Int × Qp3 × List Qkr:=([qn0,qn7,qn1,qn1,qn1,qn1,qn1,qn1],[],[],1,qfD,[[([1,2],1)]])
def qn8:Bool × Int × ByteArray × Qli × Qnc × Int:=(true,1,(⟨#[110]⟩:ByteArray),(3,1,0,0,0,1,[],0,0,0,0,0,[]),(0,0,[],[],[],0,0),0)
def Xcy:Qsj × Qq2 × (List ByteArray) × Int × Qp3 × List Qkr:=([qn0,qn7,qn8,qn1,qn1,qn1,qn1,qn1],[],[],1,qfD,[[([1,3],1),([2],2)],[([1,2],1)]])
def qn9:Bool × Int × ByteArray × Qli × Qnc × Int:=(true,1,(⟨#[110]⟩:ByteArray),(4,1,0,0,0,1,[],0,0,0,0,0,[]),(0,0,[],[],[],0,0),0)
def Xbd:Qsj × Qq2 × (List ByteArray) × Int × Qp3 × List Qkr:=([qn0,qn7,qn8,qn9,qn1,qn1,qn1,qn1],[],[],1,qfD,[[([1,4],1),([3],3),([2],2)],[([1,3],1),([2],2)],[([1,2],1)]])
def Xcl:Bool × Int × ByteArray × Qli × Qnc × Int:=(true,1,(⟨#[110]⟩:ByteArray),(5,1,0,0,0,1,[],0,0,0,0,0,[]),(0,0,[],[],[],0,0),0)
def Xb9:Qsj × Qq2 × (List ByteArray) × Int × Qp3 × List Qkr:=([qn0,qn7,qn8,qn9,Xcl,qn1,qn1,qn1],[],[],1,qfD,[[([1,5],1),([4],4),([3],3),([2],2)],[([1,4],1),([3],3),([2],2)],[([1,3],1),([2],2)],[([1,2],1)]])
def Xcn:Bool × Int × ByteArray × Qli × Qnc × Int:=(true,1,(⟨#[110]⟩:ByteArray),(6,1,0,0,0,1,[],0,0,0,0,0,[]),(0,0,[],[],[],0,0),0)
def Xba:Qsj × Qq2 × (List ByteArray) × Int × Qp3 × List Qkr:=([qn0,qn7,qn8,qn9,Xcl,Xcn,qn1,qn1],[],[],1,qfD,[[([1,6],1),([5],5),([4],4),([3],3),([2],2)],[([1,5],1),([4],4),([3],3),([2],2)],[([1,4],1),([3],3),([2],2)],[([1,3],1),([2],2)],[([1,2],1)]])
def Xcp:Bool × Int × ByteArray × Qli × Qnc × Int:=(true,1,(⟨#[110]⟩:ByteArray),(7,1,0,0,0,1,[],0,0,0,0,0,[]),(0,0,[],[],[],0,0),0)
def Xb4:Qsj × Qq2 × (List ByteArray) × Int × Qp3 × List Qkr:=([qn0,qn7,qn8,qn9,Xcl,Xcn,Xcp,qn1],[],[],1,qfD,[[([1,7],1),([6],6),([5],5),([4],4),([3],3),([2],2)],[([1,6],1),([5],5),([4],4),([3],3),([2],2)],[([1,5],1),([4],4),([3],3),([2],2)],[([1,4],1),([3],3),([2],2)],[([1,3],1),([2],2)],[([1,2],1)]])
def Xco:Bool × Int × ByteArray × Qli × Qnc × Int:=(true,1,(⟨#[110]⟩:ByteArray),(8,1,0,0,0,1,[],0,0,0,0,0,[]),(0,0,[],[],[],0,0),0)
def X9a:Qsj × Qq2 × (List ByteArray) × Int × Qp3 × List Qkr:=([qn0,qn7,qn8,qn9,Xcl,Xcn,Xcp,Xco],[],[],1,qfD,[[([1,8],1),([7],7),([6],6),([5],5),([4],4),([3],3),([2],2)],[([1,7],1),([6],6),([5],5),([4],4),([3],3),([2],2)],[([1,6],1),([5],5),([4],4),([3],3),([2],2)],[([1,5],1),([4],4),([3],3),([2],2)],[([1,4],1),([3],3),([2],2)],[([1,3],1),([2],2)],[([1,2],1)]])
def Xcd:Qsj × Qq2 × (List ByteArray) × Int × Qp3 × List Qkr:=([qn3,qn7,qn8,qn9,Xcl,Xcn,Xcp,Xco],[],[],1,qfD,[[([1,8],1),([7],7),([6],6),([5],5),([4],4),([3],3),([2],2)],[([1,7],1),([6],6),([5],5),([4],4),([3],3),([2],2)],[([1,6],1),([5],5),([4],4),([3],3),([2],2)],[([1,5],1),([4],4),([3],3),([2],2)],[([1,4],1),([3],3),([2],2)],[([1,3],1),([2],2)],[([1,2],1)]])
def Xb1:Bool × Int × ByteArray × Qli × Qnc × Int:=(true,1,(⟨#[110]⟩:ByteArray),(2,1,1,0,0,1,[],0,0,1,4,0,[]),(0,0,[],[],[],0,0),0)
def Xc8:Qsj × Qq2 × (List ByteArray) × Int × Qp3 × List Qkr:=([qn3,Xb1,qn8,qn9,Xcl,Xcn,Xcp,Xco],[(1,(⟨#[1,2,1,1,0,0,0,0,0,0,72,99,32,228]⟩:ByteArray),false)],[],1,qfD,[[([1,8],1),([7],7),([6],6),([5],5),([4],4),([3],3),([2],2)],[([1,7],1),([6],6),([5],5),([4],4),([3],3),([2],2)],[([1,6],1),([5],5),([4],4),([3],3),([2],2)],[([1,5],1),([4],4),([3],3),([2],2)],[([1,4],1),([3],3),([2],2)],[([1,3],1),([2],2)],[([1,2],1)]])
def Xam:Bool × Int × ByteArray × Qli × Qnc × Int:=(true,1,(⟨#[110]⟩:ByteArray),(3,1,1,0,0,1,[],0,0,1,4,0,[]),(0,0,[],[],[],0,0),0)
def Xcb:Qsj × Qq2 × (List ByteArray) × Int × Qp3 × List Qkr:=([qn3,Xb1,Xam,qn9,Xcl,Xcn,Xcp,Xco],[(1,(⟨#[1,2,1,1,0,0,0,0,0,0,72,99,32,228]⟩:ByteArray),false),(1,(⟨#[1,3,1,1,0,0,0,0,0,0,95,24,52,167]⟩:ByteArray),false)],[],1,qfD,[[([1,8],1),([7],7),([6],6),([5],5),([4],4),([3],3),([2],2)],[([1,7],1),([6],6),([5],5),([4],4),([3],3),([2],2)],[([1,6],1),([5],5),([4],4),([3],3),([2],2)],[([1,5],1),([4],4),([3],3),([2],2)],[([1,4],1),([3],3),([2],2)],[([1,3],1),([2],2)],[([1,2],1)]])
def Xb2:Bool × Int × ByteArray × Qli × Qnc × Int:=(true,1,(⟨#[110]⟩:ByteArray),(4,1,1,0,0,1,[],0,0,1,4,0,[]),(0,0,[],[],[],0,0),0)
def Xc9:Qsj × Qq2 × (List ByteArray) × Int × Qp3 × List Qkr:=([qn3,Xb1,Xam,Xb2,Xcl,Xcn,Xcp,Xco],[(1,(⟨#[1,2,1,1,0,0,0,0,0,0,72,99,32,228]⟩:ByteArray),false),(1,(⟨#[1,3,1,1,0,0,0,0,0,0,95,24,52,167]⟩:ByteArray),false),(1,(⟨#[1,4,1,1,0,0,0,0,0,0,59,121,89,110]⟩:ByteArray),false)],[],1,qfD,[[([1,8],1),([7],7),([6],6),([5],5),([4],4),([3],3),([2],2)],[([1,7],1),([6],6),([5],5),([4],4),([3],3),([2],2)],[([1,6],1),([5],5),([4],4),([3],3),([2],2)],[([1,5],1),([4],4),([3],3),([2],2)],[([1,4],1),([3],3),([2],2)],[([1,3],1),([2],2)],[([1,2],1)]])
def Xau:Bool × Int × ByteArray × Qli × Qnc × Int:=(true,1,(⟨#[110]⟩:ByteArray),(5,1,1,0,0,1,[],0,0,1,4,0,[]),(0,0,[],[],[],0,0),0)
def Xc7:Qsj × Qq2 × (List ByteArray) × Int × Qp3 × List Qkr:=([qn3,Xb1,Xam,Xb2,Xau,Xcn,Xcp,Xco],[(1,(⟨#[1,2,1,1,0,0,0,0,0,0,72,99,32,228]⟩:ByteArray),false),(1,(⟨#[1,3,1,1,0,0,0,0,0,0,95,24,52,167]⟩:ByteArray),false),(1,(⟨#[1,4,1,1,0,0,0,0,0,0,59,121,89,110]⟩:ByteArray),false),(1,(⟨#[1,5,1,1,0,0,0,0,0,0,44,2,77,45]⟩:ByteArray),false)],[],1,qfD,[[([1,8],1),([7],7),([6],6),([5],5),([4],4),([3],3),([2],2)],[([1,7],1),([6],6),([5],5),([4],4),([3],3),([2],2)],[([1,6],1),([5],5),([4],4),([3],3),([2],2)],[([1,5],1),([4],4),([3],3),([2],2)],[([1,4],1),([3],3),([2],2)],[([1,3],1),([2],2)],[([1,2],1)]])
def Xaz:Bool × Int × ByteArray × Qli × Qnc × Int:=(true,1,(⟨#[110]⟩:ByteArray),(6,1,1,0,0,1,[],0,0,1,4,0,[]),(0,0,[],[],[],0,0),0)
def Xca:Qsj × Qq2 × (List ByteArray) × Int × Qp3 × List Qkr:=([qn3,Xb1,Xam,Xb2,Xau,Xaz,Xcp,Xco],[(1,(⟨#[1,2,1,1,0,0,0,0,0,0,72,99,32,228]⟩:ByteArray),false),(1,(⟨#[1,3,1,1,0,0,0,0,0,0,95,24,52,167]⟩:ByteArray),false),(1,(⟨#[1,4,1,1,0,0,0,0,0,0,59,121,89,110]⟩:ByteArray),false),(1,(⟨#[1,5,1,1,0,0,0,0,0,0,44,2,77,45]⟩:ByteArray),false),(1,(⟨#[1,6,1,1,0,0,0,0,0,0,21,143,113,232]⟩:ByteArray),false)],[],1,qfD,[[([1,8],1),([7],7),([6],6),([5],5),([4],4),([3],3),([2],2)],[([1,7],1),([6],6),([5],5),([4],4),([3],3),([2],2)],[([1,6],1),([5],5),([4],4),([3],3),([2],2)],[([1,5],1),([4],4),([3],3),([2],2)],[([1,4],1),([3],3),([2],2)],[([1,3],1),([2],2)],[([1,2],1)]])
def Xaw:Bool × Int × ByteArray × Qli × Qnc × Int:=(true,1,(⟨#[110]⟩:ByteArray),(7,1,1,0,0,1,[],0,0,1,4,0,[]),(0,0,[],[],[],0,0),0)
def Xbx:Qsj × Qq2 × (List ByteArray) × Int × Qp3 × List Qkr:=([qn3,Xb1,Xam,Xb2,Xau,Xaz,Xaw,Xco],[(1,(⟨#[1,2,1,1,0,0,0,0,0,0,72,99,32,228]⟩:ByteArray),false),(1,(⟨#[1,3,1,1,0,0,0,0,0,0,95,24,52,167]⟩:ByteArray),false),(1,(⟨#[1,4,1,1,0,0,0,0,0,0,59,121,89,110]⟩:ByteArray),false),(1,(⟨#[1,5,1,1,0,0,0,0,0,0,44,2,77,45]⟩:ByteArray),false),(1,(⟨#[1,6,1,1,0,0,0,0,0,0,21,143,113,232]⟩:ByteArray),false),(1,(⟨#[1,7,1,1,0,0,0,0,0,0,2,244,101,171]⟩:ByteArray),false)],[],1,qfD,[[([1,8],1),([7],7),([6],6),([5],5),([4],4),([3],3),([2],2)],[([1,7],1),([6],6),([5],5),([4],4),([3],3),([2],2)],[([1,6],1),([5],5),([4],4),([3],3),([2],2)],[([1,5],1),([4],4),([3],3),([2],2)],[([1,4],1),([3],3),([2],2)],[([1,3],1),([2],2)],[([1,2],1)]])
def Xak:Bool × Int × ByteArray × Qli × Qnc × Int:=(true,1,(⟨#[110]⟩:ByteArray),(8,1,1,0,0,1,[],0,0,1,4,0,[]),(0,0,[],[],[],0,0),0)
def Xbz:Qsj × Qq2 × (List ByteArray) × Int × Qp3 × List Qkr:=([qn3,Xb1,Xam,Xb2,Xau,Xaz,Xaw,Xak],[(1,(⟨#[1,2,1,1,0,0,0,0,0,0,72,99,32,228]⟩:ByteArray),false),(1,(⟨#[1,3,1,1,0,0,0,0,0,0,95,24,52,167]⟩:ByteArray),false),(1,(⟨#[1,4,1,1,0,0,0,0,0,0,59,121,89,110]⟩:ByteArray),false),(1,(⟨#[1,5,1,1,0,0,0,0,0,0,44,2,77,45]⟩:ByteArray),false),(1,(⟨#[1,6,1,1,0,0,0,0,0,0,21,143,113,232]⟩:ByteArray),false),(1,(⟨#[1,7,1,1,0,0,0,0,0,0,2,244,101,171]⟩:ByteArray),false),(1,(⟨#[1,8,1,1,0,0,0,0,0,0,221,77,170,122]⟩:ByteArray),false)],[],1,qfD,[[([1,8],1),([7],7),([6],6),([5],5),([4],4),([3],3),([2],2)],[([1,7],1),([6],6),([5],5),([4],4),([3],3),([2],2)],[([1,6],1),([5],5),([4],4),([3],3),([2],2)],[([1,5],1),([4],4),([3],3),([2],2)],[([1,4],1),([3],3),([2],2)],[([1,3],1),([2],2)],[([1,2],1)]])
def Xce:Qsj × Qq2 × (List ByteArray) × Int × Qp3 × List Qkr:=([qn5,Xb1,Xam,Xb2,Xau,Xaz,Xaw,Xak],[(1,(⟨#[1,3,1,1,0,0,0,0,0,0,95,24,52,167]⟩:ByteArray),false),(1,(⟨#[1,4,1,1,0,0,0,0,0,0,59,121,89,110]⟩:ByteArray),false),(1,(⟨#[1,5,1,1,0,0,0,0,0,0,44,2,77,45]⟩:ByteArray),false),(1,(⟨#[1,6,1,1,0,0,0,0,0,0,21,143,113,232]⟩:ByteArray),false),(1,(⟨#[1,7,1,1,0,0,0,0,0,0,2,244,101,171]⟩:ByteArray),false),(1,(⟨#[1,8,1,1,0,0,0,0,0,0,221,77,170,122]⟩:ByteArray),false),(2,(⟨#[2,1,2,1,0,1,1,1,1,0,0,113,55,188,76]⟩:ByteArray),false)],[],1,qfD,[[([1,8],1),([7],7),([6],6),([5],5),([4],4),([3],3),([2],2)],[([1,7],1),([6],6),([5],5),([4],4),([3],3),([2],2)],[([1,6],1),([5],5),([4],4),([3],3),([2],2)],[([1,5],1),([4],4),([3],3),([2],2)],[([1,4],1),([3],3),([2],2)],[([1,3],1),([2],2)],[([1,2],1)]])
def Xed:Bool × Int × ByteArray × Qli × Qnc × Int:=(true,1,(⟨#[114,111,111,116]⟩:ByteArray),(1,1,1,0,0,0,[1],0,0,0,0,0,[(2,1,1),(3,1,1)]),(0,0,[],[],[],0,0),0)
def Xby:Qsj × Qq2 × (List ByteArray) × Int × Qp3 × List Qkr:=([Xed,Xb1,Xam,Xb2,Xau,Xaz,Xaw,Xak],[(1,(⟨#[1,4,1,1,0,0,0,0,0,0,59,121,89,110]⟩:ByteArray),false),(1,(⟨#[1,5,1,1,0,0,0,0,0,0,44,2,77,45]⟩:ByteArray),false),(1,(⟨#[1,6,1,1,0,0,0,0,0,0,21,143,113,232]⟩:ByteArray),false),(1,(⟨#[1,7,1,1,0,0,0,0,0,0,2,244,101,171]⟩:ByteArray),false),(1,(⟨#[1,8,1,1,0,0,0,0,0,0,221,77,170,122]⟩:ByteArray),false),(2,(⟨#[2,1,2,1,0,1,1,1,1,0,0,113,55,188,76]⟩:ByteArray),false),(3,(⟨#[2,1,3,1,0,1,1,1,1,0,0,102,76,168,15]⟩:ByteArray),false)],[],1,qfD,[[([1,8],1),([7],7),([6],6),([5],5),([4],4),([3],3),([2],2)],[([1,7],1),([6],6),([5],5),([4],4),([3],3),([2],2)],[([1,6],1),([5],5),([4],4),([3],3),([2],2)],[([1,5],1),([4],4),([3],3),([2],2)],[([1,4],1),([3],3),([2],2)],[([1,3],1),([2],2)],[([1,2],1)]])
def Xe4:Bool × Int × ByteArray × Qli × Qnc × Int:=(true,1,(⟨#[114,111,111,116]⟩:ByteArray),(1,1,1,0,0,0,[1],0,0,0,0,0,[(2,1,1),(3,1,1),(4,1,1)]),(0,0,[],[],[],0,0),0)
def Xch:Qsj × Qq2 × (List ByteArray) × Int × Qp3 × List Qkr:=([Xe4,Xb1,Xam,Xb2,Xau,Xaz,Xaw,Xak],[(1,(⟨#[1,5,1,1,0,0,0,0,0,0,44,2,77,45]⟩:ByteArray),false),(1,(⟨#[1,6,1,1,0,0,0,0,0,0,21,143,113,232]⟩:ByteArray),false),(1,(⟨#[1,7,1,1,0,0,0,0,0,0,2,244,101,171]⟩:ByteArray),false),(1,(⟨#[1,8,1,1,0,0,0,0,0,0,221,77,170,122]⟩:ByteArray),false),(2,(⟨#[2,1,2,1,0,1,1,1,1,0,0,113,55,188,76]⟩:ByteArray),false),(3,(⟨#[2,1,3,1,0,1,1,1,1,0,0,102,76,168,15]⟩:ByteArray),false),(4,(⟨#[2,1,4,1,0,1,1,1,1,0,0,2,45,197,198]⟩:ByteArray),false)],[],1,qfD,[[([1,8],1),([7],7),([6],6),([5],5),([4],4),([3],3),([2],2)],[([1,7],1),([6],6),([5],5),([4],4),([3],3),([2],2)],[([1,6],1),([5],5),([4],4),([3],3),([2],2)],[([1,5],1),([4],4),([3],3),([2],2)],[([1,4],1),([3],3),([2],2)],[([1,3],1),([2],2)],[([1,2],1)]])
def Xdz:Bool × Int × ByteArray × Qli × Qnc × Int:=(true,1,(⟨#[114,111,111,116]⟩:ByteArray),(1,1,1,0,0,0,[1],0,0,0,0,0,[(2,1,1),(3,1,1),(4,1,1),(5,1,1)]),(0,0,[],[],[],0,0),0)
def Xcc:Qsj × Qq2 × (List ByteArray) × Int × Qp3 × List Qkr:=([Xdz,Xb1,Xam,Xb2,Xau,Xaz,Xaw,Xak],[(1,(⟨#[1,6,1,1,0,0,0,0,0,0,21,143,113,232]⟩:ByteArray),false),(1,(⟨#[1,7,1,1,0,0,0,0,0,0,2,244,101,171]⟩:ByteArray),false),(1,(⟨#[1,8,1,1,0,0,0,0,0,0,221,77,170,122]⟩:ByteArray),false),(2,(⟨#[2,1,2,1,0,1,1,1,1,0,0,113,55,188,76]⟩:ByteArray),false),(3,(⟨#[2,1,3,1,0,1,1,1,1,0,0,102,76,168,15]⟩:ByteArray),false),(4,(⟨#[2,1,4,1,0,1,1,1,1,0,0,2,45,197,198]⟩:ByteArray),false),(5,(⟨#[2,1,5,1,0,1,1,1,1,0,0,21,86,209,133]⟩:ByteArray),false)],[],1,qfD,[[([1,8],1),([7],7),([6],6),([5],5),([4],4),([3],3),([2],2)],[([1,7],1),([6],6),([5],5),([4],4),([3],3),([2],2)],[([1,6],1),([5],5),([4],4),([3],3),([2],2)],[([1,5],1),([4],4),([3],3),([2],2)],[([1,4],1),([3],3),([2],2)],[([1,3],1),([2],2)],[([1,2],1)]])
def Xdw:Bool × Int × ByteArray × Qli × Qnc × Int:=(true,1,(⟨#[114,111,111,116]⟩:ByteArray),(1,1,1,0,0,0,[1],0,0,0,0,0,[(2,1,1),(3,1,1),(4,1,1),(5,1,1),(6,1,1)]),(0,0,[],[],[],0,0),0)
def Xc4:Qsj × Qq2 × (List ByteArray) × Int × Qp3 × List Qkr:=([Xdw,Xb1,Xam,Xb2,Xau,Xaz,Xaw,Xak],[(1,(⟨#[1,7,1,1,0,0,0,0,0,0,2,244,101,171]⟩:ByteArray),false),(1,(⟨#[1,8,1,1,0,0,0,0,0,0,221,77,170,122]⟩:ByteArray),false),(2,(⟨#[2,1,2,1,0,1,1,1,1,0,0,113,55,188,76]⟩:ByteArray),false),(3,(⟨#[2,1,3,1,0,1,1,1,1,0,0,102,76,168,15]⟩:ByteArray),false),(4,(⟨#[2,1,4,1,0,1,1,1,1,0,0,2,45,197,198]⟩:ByteArray),false),(5,(⟨#[2,1,5,1,0,1,1,1,1,0,0,21,86,209,133]⟩:ByteArray),false),(6,(⟨#[2,1,6,1,0,1,1,1,1,0,0,44,219,237,64]⟩:ByteArray),false)],[],1,qfD,[[([1,8],1),([7],7),([6],6),([5],5),([4],4),([3],3),([2],2)],[([1,7],1),([6],6),([5],5),([4],4),([3],3),([2],2)],[([1,6],1),([5],5),([4],4),([3],3),([2],2)],[([1,5],1),([4],4),([3],3),([2],2)],[([1,4],1),([3],3),([2],2)],[([1,3],1),([2],2)],[([1,2],1)]])
def Xe8:Bool × Int × ByteArray × Qli × Qnc × Int:=(true,1,(⟨#[114,111,111,116]⟩:ByteArray),(1,1,1,0,0,0,[1],0,0,0,0,0,[(2,1,1),(3,1,1),(4,1,1),(5,1,1),(6,1,1),(7,1,1)]),(0,0,[],[],[],0,0),0)
def Xcf:Qsj × Qq2 × (List ByteArray) × Int × Qp3 × List Qkr:=([Xe8,Xb1,Xam,Xb2,Xau,Xaz,Xaw,Xak],[(1,(⟨#[1,8,1,1,0,0,0,0,0,0,221,77,170,122]⟩:ByteArray),false),(2,(⟨#[2,1,2,1,0,1,1,1,1,0,0,113,55,188,76]⟩:ByteArray),false),(3,(⟨#[2,1,3,1,0,1,1,1,1,0,0,102,76,168,15]⟩:ByteArray),false),(4,(⟨#[2,1,4,1,0,1,1,1,1,0,0,2,45,197,198]⟩:ByteArray),false),(5,(⟨#[2,1,5,1,0,1,1,1,1,0,0,21,86,209,133]⟩:ByteArray),false),(6,(⟨#[2,1,6,1,0,1,1,1,1,0,0,44,219,237,64]⟩:ByteArray),false),(7,(⟨#[2,1,7,1,0,1,1,1,1,0,0,59,160,249,3]⟩:ByteArray),false)],[],1,qfD,[[([1,8],1),([7],7),([6],6),([5],5),([4],4),([3],3),([2],2)],[([1,7],1),([6],6),([5],5),([4],4),([3],3),([2],2)],[([1,6],1),([5],5),([4],4),([3],3),([2],2)],[([1,5],1),([4],4),([3],3),([2],2)],[([1,4],1),([3],3),([2],2)],[([1,3],1),([2],2)],[([1,2],1)]])
def Xcq:Bool × Int × ByteArray × Qli × Qnc × Int:=(true,1,(⟨#[114,111,111,116]⟩:ByteArray),(1,1,1,0,0,0,[1],0,0,0,0,0,[(2,1,1),(3,1,1),(4,1,1),(5,1,1),(6,1,1),(7,1,1),(8,1,1)]),(0,0,[],[],[],0,0),0)
def Xc6:Qsj × Qq2 × (List ByteArray) × Int × Qp3 × List Qkr:=([Xcq,Xb1,Xam,Xb2,Xau,Xaz,Xaw,Xak],[(2,(⟨#[2,1,2,1,0,1,1,1,1,0,0,113,55,188,76]⟩:ByteArray),false),(3,(⟨#[2,1,3,1,0,1,1,1,1,0,0,102,76,168,15]⟩:ByteArray),false),(4,(⟨#[2,1,4,1,0,1,1,1,1,0,0,2,45,197,198]⟩:ByteArray),false),(5,(⟨#[2,1,5,1,0,1,1,1,1,0,0,21,86,209,133]⟩:ByteArray),false),(6,(⟨#[2,1,6,1,0,1,1,1,1,0,0,44,219,237,64]⟩:ByteArray),false),(7,(⟨#[2,1,7,1,0,1,1,1,1,0,0,59,160,249,3]⟩:ByteArray),false),(8,(⟨#[2,1,8,1,0,1,1,1,1,0,0,228,25,54,210]⟩:ByteArray),false)],[],1,qfD,[[([1,8],1),([7],7),([6],6),([5],5),([4],4),([3],3),([2],2)],[([1,7],1),([6],6),([5],5),([4],4),([3],3),([2],2)],[([1,6],1),([5],5),([4],4),([3],3),([2],2)],[([1,5],1),([4],4),([3],3),([2],2)],[([1,4],1),([3],3),([2],2)],[([1,3],1),([2],2)],[([1,2],1)]])
def Xcs:Bool × Int × ByteArray × Qli × Qnc × Int:=(true,1,(⟨#[110]⟩:ByteArray),(2,1,1,1,1,1,[1,2],0,0,0,4,0,[]),(1,0,[],[],[],0,0),0)
def Xbv:Qsj × Qq2 × (List ByteArray) × Int × Qp3 × List Qkr:=([Xcq,Xcs,Xam,Xb2,Xau,Xaz,Xaw,Xak],[(3,(⟨#[2,1,3,1,0,1,1,1,1,0,0,102,76,168,15]⟩:ByteArray),false),(4,(⟨#[2,1,4,1,0,1,1,1,1,0,0,2,45,197,198]⟩:ByteArray),false),(5,(⟨#[2,1,5,1,0,1,1,1,1,0,0,21,86,209,133]⟩:ByteArray),false),(6,(⟨#[2,1,6,1,0,1,1,1,1,0,0,44,219,237,64]⟩:ByteArray),false),(7,(⟨#[2,1,7,1,0,1,1,1,1,0,0,59,160,249,3]⟩:ByteArray),false),(8,(⟨#[2,1,8,1,0,1,1,1,1,0,0,228,25,54,210]⟩:ByteArray),false)],[],1,qfD,[[([1,8],1),([7],7),([6],6),([5],5),([4],4),([3],3),([2],2)],[([1,7],1),([6],6),([5],5),([4],4),([3],3),([2],2)],[([1,6],1),([5],5),([4],4),([3],3),([2],2)],[([1,5],1),([4],4),([3],3),([2],2)],[([1,4],1),([3],3),([2],2)],[([1,3],1),([2],2)],[([1,2],1)]])
def Xd0:Bool × Int × ByteArray × Qli × Qnc × Int:=(true,1,(⟨#[110]⟩:ByteArray),(3,1,1,1,1,1,[1,3],0,0,0,4,0,[]),(1,0,[],[],[],0,0),0)
def Xci:Qsj × Qq2 × (List ByteArray) × Int × Qp3 × List Qkr:=([Xcq,Xcs,Xd0,Xb2,Xau,Xaz,Xaw,Xak],[(4,(⟨#[2,1,4,1,0,1,1,1,1,0,0,2,45,197,198]⟩:ByteArray),false),(5,(⟨#[2,1,5,1,0,1,1,1,1,0,0,21,86,209,133]⟩:ByteArray),false),(6,(⟨#[2,1,6,1,0,1,1,1,1,0,0,44,219,237,64]⟩:ByteArray),false),(7,(⟨#[2,1,7,1,0,1,1,1,1,0,0,59,160,249,3]⟩:ByteArray),false),(8,(⟨#[2,1,8,1,0,1,1,1,1,0,0,228,25,54,210]⟩:ByteArray),false)],[],1,qfD,[[([1,8],1),([7],7),([6],6),([5],5),([4],4),([3],3),([2],2)],[([1,7],1),([6],6),([5],5),([4],4),([3],3),([2],2)],[([1,6],1),([5],5),([4],4),([3],3),([2],2)],[([1,5],1),([4],4),([3],3),([2],2)],[([1,4],1),([3],3),([2],2)],[([1,3],1),([2],2)],[([1,2],1)]])
def Xd4:Bool × Int × ByteArray × Qli × Qnc × Int:=(true,1,(⟨#[110]⟩:ByteArray),(4,1,1,1,1,1,[1,4],0,0,0,4,0,[]),(1,0,[],[],[],0,0),0)
def Xc0:Qsj × Qq2 × (List ByteArray) × Int × Qp3 × List Qkr:=([Xcq,Xcs,Xd0,Xd4,Xau,Xaz,Xaw,Xak],[(5,(⟨#[2,1,5,1,0,1,1,1,1,0,0,21,86,209,133]⟩:ByteArray),false),(6,(⟨#[2,1,6,1,0,1,1,1,1,0,0,44,219,237,64]⟩:ByteArray),false),(7,(⟨#[2,1,7,1,0,1,1,1,1,0,0,59,160,249,3]⟩:ByteArray),false),(8,(⟨#[2,1,8,1,0,1,1,1,1,0,0,228,25,54,210]⟩:ByteArray),false)],[],1,qfD,[[([1,8],1),([7],7),([6],6),([5],5),([4],4),([3],3),([2],2)],[([1,7],1),([6],6),([5],5),([4],4),([3],3),([2],2)],[([1,6],1),([5],5),([4],4),([3],3),([2],2)],[([1,5],1),([4],4),([3],3),([2],2)],[([1,4],1),([3],3),([2],2)],[([1,3],1),([2],2)],[([1,2],1)]])
def Xd9:Bool × Int × ByteArray × Qli × Qnc × Int:=(true,1,(⟨#[110]⟩:ByteArray),(5,1,1,1,1,1,[1,5],0,0,0,4,0,[]),(1,0,[],[],[],0,0),0)
def Xcj:Qsj × Qq2 × (List ByteArray) × Int × Qp3 × List Qkr:=([Xcq,Xcs,Xd0,Xd4,Xd9,Xaz,Xaw,Xak],[(6,(⟨#[2,1,6,1,0,1,1,1,1,0,0,44,219,237,64]⟩:ByteArray),false),(7,(⟨#[2,1,7,1,0,1,1,1,1,0,0,59,160,249,3]⟩:ByteArray),false),(8,(⟨#[2,1,8,1,0,1,1,1,1,0,0,228,25,54,210]⟩:ByteArray),false)],[],1,qfD,[[([1,8],1),([7],7),([6],6),([5],5),([4],4),([3],3),([2],2)],[([1,7],1),([6],6),([5],5),([4],4),([3],3),([2],2)],[([1,6],1),([5],5),([4],4),([3],3),([2],2)],[([1,5],1),([4],4),([3],3),([2],2)],[([1,4],1),([3],3),([2],2)],[([1,3],1),([2],2)],[([1,2],1)]])
def Xdc:Bool × Int × ByteArray × Qli × Qnc × Int:=(true,1,(⟨#[110]⟩:ByteArray),(6,1,1,1,1,1,[1,6],0,0,0,4,0,[]),(1,0,[],[],[],0,0),0)
def Xc1:Qsj × Qq2 × (List ByteArray) × Int × Qp3 × List Qkr:=([Xcq,Xcs,Xd0,Xd4,Xd9,Xdc,Xaw,Xak],[(7,(⟨#[2,1,7,1,0,1,1,1,1,0,0,59,160,249,3]⟩:ByteArray),false),(8,(⟨#[2,1,8,1,0,1,1,1,1,0,0,228,25,54,210]⟩:ByteArray),false)],[],1,qfD,[[([1,8],1),([7],7),([6],6),([5],5),([4],4),([3],3),([2],2)],[([1,7],1),([6],6),([5],5),([4],4),([3],3),([2],2)],[([1,6],1),([5],5),([4],4),([3],3),([2],2)],[([1,5],1),([4],4),([3],3),([2],2)],[([1,4],1),([3],3),([2],2)],[([1,3],1),([2],2)],[([1,2],1)]])
def Xdj:Bool × Int × ByteArray × Qli × Qnc × Int:=(true,1,(⟨#[110]⟩:ByteArray),(7,1,1,1,1,1,[1,7],0,0,0,4,0,[]),(1,0,[],[],[],0,0),0)
def Xc5:Qsj × Qq2 × (List ByteArray) × Int × Qp3 × List Qkr:=([Xcq,Xcs,Xd0,Xd4,Xd9,Xdc,Xdj,Xak],[(8,(⟨#[2,1,8,1,0,1,1,1,1,0,0,228,25,54,210]⟩:ByteArray),false)],[],1,qfD,[[([1,8],1),([7],7),([6],6),([5],5),([4],4),([3],3),([2],2)],[([1,7],1),([6],6),([5],5),([4],4),([3],3),([2],2)],[([1,6],1),([5],5),([4],4),([3],3),([2],2)],[([1,5],1),([4],4),([3],3),([2],2)],[([1,4],1),([3],3),([2],2)],[([1,3],1),([2],2)],[([1,2],1)]])
def Xe0:Bool × Int × ByteArray × Qli × Qnc × Int:=(true,1,(⟨#[110]⟩:ByteArray),(8,1,1,1,1,1,[1,8],0,0,0,4,0,[]),(1,0,[],[],[],0,0),0)
def Xb6:Qsj × Qq2 × (List ByteArray) × Int × Qp3 × List Qkr:=([Xcq,Xcs,Xd0,Xd4,Xd9,Xdc,Xdj,Xe0],[],[],1,qfD,[[([1,8],1),([7],7),([6],6),([5],5),([4],4),([3],3),([2],2)],[([1,7],1),([6],6),([5],5),([4],4),([3],3),([2],2)],[([1,6],1),([5],5),([4],4),([3],3),([2],2)],[([1,5],1),([4],4),([3],3),([2],2)],[([1,4],1),([3],3),([2],2)],[([1,3],1),([2],2)],[([1,2],1)]])
theorem Zg4:Quj ([],0)=some ((qfD,()),(([],0),())):=by kernel_rfl
def Qwg:List ((Qq3 × Unit) × ((Qp3 × Unit) × (Qq3 × Unit))):=[((([],0),()),((qfD,()),(([],0),())))]
noncomputable def Zfv (x:PDs [.box 68 t67 [false,false]]):Option (RDs [⟨t26,[true],none⟩] × ODs [.box 68 t67 [false,false]]):=Qie (α:=Qq3 × Unit) (β:=(Qp3 × Unit) × (Qq3 × Unit)) Qwg x
noncomputable def Qq4:Ent:=⟨[.box 68 t67 [false,false]],[⟨t26,[true],none⟩],Zfv⟩
theorem Qt4:Q4j tab.ty Tryz.prog 7 Qq4:=Q4j.weaken Qp6 (fun x r h=>Qhb (α:=Qq3 × Unit) (β:=(Qp3 × Unit) × (Qq3 × Unit)) (G:=fun x=>Quj x.1) (t:=Qwg) ⟨Zg4,trivial⟩ x r h)
theorem Zt0:Qzz qfD 2=some ((Xcv,true,()),()):=by kernel_rfl
theorem Zu1:Qzz qfD 1=some ((Xd6,true,()),()):=by kernel_rfl
def Za5:List ((Qp3 × (Int) × Unit) × ((Zmw × (Bool) × Unit) × (Unit))):=[((qfD,2,()),((Xcv,true,()),())),
 ((qfD,1,()),((Xd6,true,()),()))]
noncomputable def Ztt (x:PDs [.val t26,.val t2]):Option (RDs [⟨t30,[true,true,true,false,false,false],none⟩,⟨t4,[false],none⟩] × ODs [.val t26,.val t2]):=Qie (α:=Qp3 × (Int) × Unit) (β:=(Zmw × (Bool) × Unit) × (Unit)) Za5 x
noncomputable def Qxm:Ent:=⟨[.val t26,.val t2],[⟨t30,[true,true,true,false,false,false],none⟩,⟨t4,[false],none⟩],Ztt⟩
theorem Z20:Q4j tab.ty Tryz.prog 5 Qxm:=Q4j.weaken Qw4 (fun x r h=>Qhb (α:=Qp3 × (Int) × Unit) (β:=(Zmw × (Bool) × Unit) × (Unit)) (G:=fun x=>Qzz x.1 x.2.1) (t:=Za5) ⟨Zt0,Zu1,trivial⟩ x r h)
theorem Zwv:Qm2 Xcv (1,2,0,0,(⟨#[98]⟩:ByteArray))=some ((Xcw,0,()),()):=by kernel_rfl
theorem Zug:Qm2 Xd6 (1,2,0,0,(⟨#[110]⟩:ByteArray))=some ((Xcx,0,()),()):=by kernel_rfl
theorem Zuo:Qm2 Xcx (1,3,0,0,(⟨#[110]⟩:ByteArray))=some ((Xcy,0,()),()):=by kernel_rfl
theorem Zwk:Qm2 Xcy (1,4,0,0,(⟨#[110]⟩:ByteArray))=some ((Xbd,0,()),()):=by kernel_rfl
theorem Zvw:Qm2 Xbd (1,5,0,0,(⟨#[110]⟩:ByteArray))=some ((Xb9,0,()),()):=by kernel_rfl
theorem Zva:Qm2 Xb9 (1,6,0,0,(⟨#[110]⟩:ByteArray))=some ((Xba,0,()),()):=by kernel_rfl
theorem Zw7:Qm2 Xba (1,7,0,0,(⟨#[110]⟩:ByteArray))=some ((Xb4,0,()),()):=by kernel_rfl
theorem Zuv:Qm2 Xb4 (1,8,0,0,(⟨#[110]⟩:ByteArray))=some ((X9a,0,()),()):=by kernel_rfl
def Ze5:List ((Zmw × Xcz × Unit) × ((Zmw × (Int) × Unit) × (Unit))):=[((Xcv,(1,2,0,0,(⟨#[98]⟩:ByteArray)),()),((Xcw,0,()),())),
 ((Xd6,(1,2,0,0,(⟨#[110]⟩:ByteArray)),()),((Xcx,0,()),())),
 ((Xcx,(1,3,0,0,(⟨#[110]⟩:ByteArray)),()),((Xcy,0,()),())),
 ((Xcy,(1,4,0,0,(⟨#[110]⟩:ByteArray)),()),((Xbd,0,()),())),
 ((Xbd,(1,5,0,0,(⟨#[110]⟩:ByteArray)),()),((Xb9,0,()),())),
 ((Xb9,(1,6,0,0,(⟨#[110]⟩:ByteArray)),()),((Xba,0,()),())),
 ((Xba,(1,7,0,0,(⟨#[110]⟩:ByteArray)),()),((Xb4,0,()),())),
 ((Xb4,(1,8,0,0,(⟨#[110]⟩:ByteArray)),()),((X9a,0,()),()))]
noncomputable def Zvv (x:PDs [.val t30,.val t40]):Option (RDs [⟨t30,[false,false,false,false,false,false],none⟩,⟨t2,[false],none⟩] × ODs [.val t30,.val t40]):=Qie (α:=Zmw × Xcz × Unit) (β:=(Zmw × (Int) × Unit) × (Unit)) Ze5 x
noncomputable def Z03:Ent:=⟨[.val t30,.val t40],[⟨t30,[false,false,false,false,false,false],none⟩,⟨t2,[false],none⟩],Zvv⟩
theorem Z58:Q4j tab.ty Tryz.prog 8 Z03:=Q4j.weaken Qxf (fun x r h=>Qhb (α:=Zmw × Xcz × Unit) (β:=(Zmw × (Int) × Unit) × (Unit)) (G:=fun x=>Qm2 x.1 x.2.1) (t:=Ze5) ⟨Zwv,Zug,Zuo,Zwk,Zvw,Zva,Zw7,Zuv,trivial⟩ x r h)
theorem X9c:Ql8 Xcw (5,1,0,0,(⟨#[]⟩:ByteArray))=some ((Xdb,0,()),()):=by kernel_rfl
theorem X8b:Ql8 Xdb (5,2,0,0,(⟨#[]⟩:ByteArray))=some ((Xd8,0,()),()):=by kernel_rfl
theorem X94:Ql8 Xd8 (6,0,0,0,(⟨#[]⟩:ByteArray))=some ((Xda,0,()),()):=by kernel_rfl
theorem X99:Ql8 Xda (6,0,0,0,(⟨#[]⟩:ByteArray))=some ((Xd7,0,()),()):=by kernel_rfl
theorem X9i:Ql8 X9a (5,1,0,0,(⟨#[]⟩:ByteArray))=some ((Xcd,0,()),()):=by kernel_rfl
theorem X9d:Ql8 Xcd (5,2,0,0,(⟨#[]⟩:ByteArray))=some ((Xc8,0,()),()):=by kernel_rfl
theorem X8r:Ql8 Xc8 (5,3,0,0,(⟨#[]⟩:ByteArray))=some ((Xcb,0,()),()):=by kernel_rfl
theorem X8l:Ql8 Xcb (5,4,0,0,(⟨#[]⟩:ByteArray))=some ((Xc9,0,()),()):=by kernel_rfl
theorem X90:Ql8 Xc9 (5,5,0,0,(⟨#[]⟩:ByteArray))=some ((Xc7,0,()),()):=by kernel_rfl
theorem X8p:Ql8 Xc7 (5,6,0,0,(⟨#[]⟩:ByteArray))=some ((Xca,0,()),()):=by kernel_rfl
theorem X6w:Ql8 Xca (5,7,0,0,(⟨#[]⟩:ByteArray))=some ((Xbx,0,()),()):=by kernel_rfl
theorem X74:Ql8 Xbx (5,8,0,0,(⟨#[]⟩:ByteArray))=some ((Xbz,0,()),()):=by kernel_rfl
theorem X86:Ql8 Xbz (6,0,0,0,(⟨#[]⟩:ByteArray))=some ((Xce,0,()),()):=by kernel_rfl
theorem X7y:Ql8 Xce (6,0,0,0,(⟨#[]⟩:ByteArray))=some ((Xby,0,()),()):=by kernel_rfl
theorem X7r:Ql8 Xby (6,0,0,0,(⟨#[]⟩:ByteArray))=some ((Xch,0,()),()):=by kernel_rfl
theorem X84:Ql8 Xch (6,0,0,0,(⟨#[]⟩:ByteArray))=some ((Xcc,0,()),()):=by kernel_rfl
theorem X7x:Ql8 Xcc (6,0,0,0,(⟨#[]⟩:ByteArray))=some ((Xc4,0,()),()):=by kernel_rfl
theorem X8a:Ql8 Xc4 (6,0,0,0,(⟨#[]⟩:ByteArray))=some ((Xcf,0,()),()):=by kernel_rfl
theorem X7a:Ql8 Xcf (6,0,0,0,(⟨#[]⟩:ByteArray))=some ((Xc6,0,()),()):=by kernel_rfl
theorem X7w:Ql8 Xc6 (6,0,0,0,(⟨#[]⟩:ByteArray))=some ((Xbv,0,()),()):=by kernel_rfl
theorem X7z:Ql8 Xbv (6,0,0,0,(⟨#[]⟩:ByteArray))=some ((Xci,0,()),()):=by kernel_rfl
theorem X75:Ql8 Xci (6,0,0,0,(⟨#[]⟩:ByteArray))=some ((Xc0,0,()),()):=by kernel_rfl
theorem X82:Ql8 Xc0 (6,0,0,0,(⟨#[]⟩:ByteArray))=some ((Xcj,0,()),()):=by kernel_rfl
theorem X7m:Ql8 Xcj (6,0,0,0,(⟨#[]⟩:ByteArray))=some ((Xc1,0,()),()):=by kernel_rfl
theorem X6p:Ql8 Xc1 (6,0,0,0,(⟨#[]⟩:ByteArray))=some ((Xc5,0,()),()):=by kernel_rfl
theorem X6u:Ql8 Xc5 (6,0,0,0,(⟨#[]⟩:ByteArray))=some ((Xb6,0,()),()):=by kernel_rfl
def Zyb:List ((Zmw × Xcz × Unit) × ((Zmw × (Int) × Unit) × (Unit))):=[((Xcw,(5,1,0,0,(⟨#[]⟩:ByteArray)),()),((Xdb,0,()),())),
 ((Xdb,(5,2,0,0,(⟨#[]⟩:ByteArray)),()),((Xd8,0,()),())),
 ((Xd8,(6,0,0,0,(⟨#[]⟩:ByteArray)),()),((Xda,0,()),())),
 ((Xda,(6,0,0,0,(⟨#[]⟩:ByteArray)),()),((Xd7,0,()),())),
 ((X9a,(5,1,0,0,(⟨#[]⟩:ByteArray)),()),((Xcd,0,()),())),
 ((Xcd,(5,2,0,0,(⟨#[]⟩:ByteArray)),()),((Xc8,0,()),())),
 ((Xc8,(5,3,0,0,(⟨#[]⟩:ByteArray)),()),((Xcb,0,()),())),
 ((Xcb,(5,4,0,0,(⟨#[]⟩:ByteArray)),()),((Xc9,0,()),())),
 ((Xc9,(5,5,0,0,(⟨#[]⟩:ByteArray)),()),((Xc7,0,()),())),
 ((Xc7,(5,6,0,0,(⟨#[]⟩:ByteArray)),()),((Xca,0,()),())),
 ((Xca,(5,7,0,0,(⟨#[]⟩:ByteArray)),()),((Xbx,0,()),())),
 ((Xbx,(5,8,0,0,(⟨#[]⟩:ByteArray)),()),((Xbz,0,()),())),
 ((Xbz,(6,0,0,0,(⟨#[]⟩:ByteArray)),()),((Xce,0,()),())),
 ((Xce,(6,0,0,0,(⟨#[]⟩:ByteArray)),()),((Xby,0,()),())),
 ((Xby,(6,0,0,0,(⟨#[]⟩:ByteArray)),()),((Xch,0,()),())),
 ((Xch,(6,0,0,0,(⟨#[]⟩:ByteArray)),()),((Xcc,0,()),())),
 ((Xcc,(6,0,0,0,(⟨#[]⟩:ByteArray)),()),((Xc4,0,()),())),
 ((Xc4,(6,0,0,0,(⟨#[]⟩:ByteArray)),()),((Xcf,0,()),())),
 ((Xcf,(6,0,0,0,(⟨#[]⟩:ByteArray)),()),((Xc6,0,()),())),
 ((Xc6,(6,0,0,0,(⟨#[]⟩:ByteArray)),()),((Xbv,0,()),())),
 ((Xbv,(6,0,0,0,(⟨#[]⟩:ByteArray)),()),((Xci,0,()),())),
 ((Xci,(6,0,0,0,(⟨#[]⟩:ByteArray)),()),((Xc0,0,()),())),
 ((Xc0,(6,0,0,0,(⟨#[]⟩:ByteArray)),()),((Xcj,0,()),())),
 ((Xcj,(6,0,0,0,(⟨#[]⟩:ByteArray)),()),((Xc1,0,()),())),
 ((Xc1,(6,0,0,0,(⟨#[]⟩:ByteArray)),()),((Xc5,0,()),())),
 ((Xc5,(6,0,0,0,(⟨#[]⟩:ByteArray)),()),((Xb6,0,()),()))]
noncomputable def X9n (x:PDs [.val t30,.val t40]):Option (RDs [⟨t30,[true,false,true,false,false,false],none⟩,⟨t2,[false],none⟩] × ODs [.val t30,.val t40]):=Qie (α:=Zmw × Xcz × Unit) (β:=(Zmw × (Int) × Unit) × (Unit)) Zyb x
noncomputable def Zzr:Ent:=⟨[.val t30,.val t40],[⟨t30,[true,false,true,false,false,false],none⟩,⟨t2,[false],none⟩],X9n⟩
theorem X43:Q4j tab.ty Tryz.prog 29 Zzr:=Q4j.weaken Zwg (fun x r h=>Qhb (α:=Zmw × Xcz × Unit) (β:=(Zmw × (Int) × Unit) × (Unit)) (G:=fun x=>Ql8 x.1 x.2.1) (t:=Zyb) ⟨X9c,X8b,X94,X99,X9i,X9d,X8r,X8l,X90,X8p,X6w,X74,X86,X7y,X7r,X84,X7x,X8a,X7a,X7w,X7z,X75,X82,X7m,X6p,X6u,trivial⟩ x r h)
theorem X2l:Qon Xcv=some ((true,()),()):=by kernel_rfl
theorem X2o:Qon Xcx=some ((false,()),()):=by kernel_rfl
theorem X1q:Qon Xcy=some ((false,()),()):=by kernel_rfl
theorem X3q:Qon Xbd=some ((false,()),()):=by kernel_rfl
theorem X3c:Qon Xb9=some ((false,()),()):=by kernel_rfl
theorem X4f:Qon Xba=some ((false,()),()):=by kernel_rfl
theorem X17:Qon Xb4=some ((false,()),()):=by kernel_rfl
theorem X11:Qon X9a=some ((false,()),()):=by kernel_rfl
theorem X32:Qon Xb6=some ((true,()),()):=by kernel_rfl
def Zpr:List (Zka × (((Bool) × Unit) × (Unit))):=[((Xcv,()),((true,()),())),
 ((Xcx,()),((false,()),())),
 ((Xcy,()),((false,()),())),
 ((Xbd,()),((false,()),())),
 ((Xb9,()),((false,()),())),
 ((Xba,()),((false,()),())),
 ((Xb4,()),((false,()),())),
 ((X9a,()),((false,()),())),
 ((Xb6,()),((true,()),()))]
noncomputable def X12 (x:PDs [.val t30]):Option (RDs [⟨t4,[false],none⟩] × ODs [.val t30]):=Qie (α:=Zmw × Unit) (β:=((Bool) × Unit) × (Unit)) Zpr x
noncomputable def Zbh:Ent:=⟨[.val t30],[⟨t4,[false],none⟩],X12⟩
theorem Ze6:Q4j tab.ty Tryz.prog 10 Zbh:=Q4j.weaken Z5w (fun x r h=>Qhb (α:=Zmw × Unit) (β:=((Bool) × Unit) × (Unit)) (G:=fun x=>Qon x.1) (t:=Zpr) ⟨X2l,X2o,X1q,X3q,X3c,X4f,X17,X11,X32,trivial⟩ x r h)
noncomputable def Zpx:Ctx:=[(29,Zzr)]
def Zl7:Fi:={ keep:=[],vty:=[],vals:=[],live:=[(0,[1,2,28,29,30,31]),(1,[1,2,7,8,9,28,29,30,31]),(2,[1,2,7,8,9,10,28,29,30,31]),(3,[1,2,3,4,7,8,9,28,29,30,31]),(4,[1,2,3,7,8,9,15,28,29,30,31]),(5,[1,2,7,8,9,28,29,30,31]),(6,[1,2,7,8,9,28,29,30,31]),(7,[1,2,5,28,29,30,31]),(8,[1,2,5,28,29,30,31,32]),(9,[1,2,5,28,29,30,31]),(10,[1,2,5,28,29,30,31]),(11,[2])] }
noncomputable def X2a (x:PDs [.val t30]):Option (RDs [⟨t30,[false,false,false,false,false,false],none⟩] × ODs [.val t30]):=Qdf Zpx tab Zl7 1099511627776 [.val t30] [⟨t30,[false,false,false,false,false,false],none⟩] Tryz.f11 x
noncomputable def Z95 (x0:Qsj × Qq2 × (List ByteArray) × Int × Qp3 × List Qkr):Option (Zka × Unit):=X2a (x0,())
noncomputable def X42:Ent:=⟨[.val t30],[⟨t30,[false,false,false,false,false,false],none⟩],fun x=>Z95 x.1⟩
theorem Zv0:Q4j tab.ty Tryz.prog 11 X42:=by
 refine Qjd (Γ:=Zpx) (fi:=Zl7) (n:=1099511627776) follows (Qjq X43 Qju) Qjz Tryz.func11 (by kernel_rfl) (by kernel_rfl) (fun x r h=>?_)
 obtain ⟨x0,_u⟩:=x
 exact h
theorem X1w:Z95 Xcw=some ((Xd7,()),()):=by kernel_rfl
theorem X33:Z95 X9a=some ((Xb6,()),()):=by kernel_rfl
def Zoc:List (Zka × (Zka × (Unit))):=[((Xcw,()),((Xd7,()),())),
 ((X9a,()),((Xb6,()),()))]
noncomputable def X4c (x:PDs [.val t30]):Option (RDs [⟨t30,[false,false,false,false,false,false],none⟩] × ODs [.val t30]):=Qie (α:=Zmw × Unit) (β:=Zka × (Unit)) Zoc x
noncomputable def Zaq:Ent:=⟨[.val t30],[⟨t30,[false,false,false,false,false,false],none⟩],X4c⟩
theorem Zfm:Q4j tab.ty Tryz.prog 11 Zaq:=Q4j.weaken Zv0 (fun x r h=>Qhb (α:=Zmw × Unit) (β:=Zka × (Unit)) (G:=fun x=>Z95 x.1) (t:=Zoc) ⟨X1w,X33,trivial⟩ x r h)
noncomputable def Z5h:Ctx:=[(5,Qxm),(6,Qqo),(7,Qq4),(8,Z03),(9,Qyb),(10,Zbh),(11,Zaq),(14,Zku)]
def Z27:Fi:={ keep:=[],vty:=[],vals:=[],live:=[(0,[23,24,27,28,29,32,33,34,35,38,39,40,41,42,43,44,47,48]),(1,[1,23,24,27,28,29,32,33,34,35,38,39,40,41,42,43,44,47,48]),(2,[1,3,23,24,27,28,29,32,33,34,35,38,39,40,41,42,43,44,47,48]),(3,[1,3,5,23,24,27,28,29,32,33,34,35,38,39,40,41,42,43,44,47,48]),(4,[0])] }
noncomputable def Zq4 (x:PDs []):Option (RDs [⟨t4,[false],none⟩] × ODs []):=Qdf Z5h tab Z27 1099511627776 [] [⟨t4,[false],none⟩] Tryz.f4 x
noncomputable def Zb4  : Option ((Bool × Unit) × Unit):=Zq4 (())
noncomputable def Zpo:Ent:=⟨[],[⟨t4,[false],none⟩],fun x=>Zb4⟩
theorem Zga:Q4j tab.ty Tryz.prog 4 Zpo:=by
 refine Qjd (Γ:=Z5h) (fi:=Z27) (n:=1099511627776) follows (Qjq Z20 (Qjq Qqg (Qjq Qt4 (Qjq Z58 (Qjq Qub (Qjq Ze6 (Qjq Zfm (Qjq Zlv Qju)))))))) Qjz Tryz.func4 (by kernel_rfl) (by kernel_rfl) (fun x r h=>?_)
 exact h
theorem Zhe:Zb4=some ((true,()),()):=by kernel_rfl
noncomputable def Z5f:Ent:=⟨[],[⟨t4,[false],none⟩],fun _=>some ((true,()),())⟩
theorem Zig:Q4j tab.ty Tryz.prog 4 Z5f:=Q4j.weaken Zga (fun x r h=>Zhe.trans h)
noncomputable def Qv9:Ctx:=[(4,Z5f),(5,Qxm),(6,Qqo),(7,Qq4),(8,Z03),(9,Qyb),(10,Zbh),(11,Zaq),(12,Z66),(13,Qvp)]
def Quh:Fi:={ keep:=[],vty:=[(5,44),(6,45),(55,44),(56,45),(60,44)],vals:=[],live:=[(0,[29,30,35,36,37,51,52,55,56,57,60,61,62,65,66,67,68]),(1,[8,29,30,35,36,37,51,52,55,56,57,60,61,62,65,66,67,68]),(2,[0]),(3,[1,29,30,35,36,37,51,52,55,56,57,60,61,62,65,66,67,68]),(4,[1,3,29,30,35,36,37,51,52,55,56,57,60,61,62,65,66,67,68]),(5,[1,3,16,29,30,35,36,37,51,52,55,56,57,60,61,62,65,66,67,68]),(6,[1,3,29,30,35,36,37,51,52,55,56,57,60,61,62,65,66,67,68]),(7,[1,3,29,30,35,36,37,51,52,55,56,57,60,61,62,65,66,67,68]),(8,[1,3,29,30,31,35,36,37,51,52,55,56,57,60,61,62,65,66,67,68]),(9,[0]),(10,[1,4,35,36,37,51,52,55,56,57,60,61,62,65,66,67,68]),(11,[1,4,35,36,37,38,51,52,55,56,57,60,61,62,65,66,67,68]),(12,[1,4,35,36,37,51,52,55,56,57,60,61,62,65,66,67,68]),(13,[1,4,35,36,37,51,52,55,56,57,60,61,62,65,66,67,68]),(14,[1,4,5,6,51,52,55,56,57,60,61,62,65,66,67,68]),(15,[0])] }
noncomputable def Zcl (x:PDs []):Option (RDs [⟨t4,[false],none⟩] × ODs []):=Qdf Qv9 tab Quh 1099511627776 [] [⟨t4,[false],none⟩] Tryz.f3 x
noncomputable def Qlw  : Option ((Bool × Unit) × Unit):=Zcl (())
noncomputable def Zcq:Ent:=⟨[],[⟨t4,[false],none⟩],fun x=>Qlw⟩
theorem Qsm:Q4j tab.ty Tryz.prog 3 Zcq:=by
 refine Qjd (Γ:=Qv9) (fi:=Quh) (n:=1099511627776) follows (Qjq Zig (Qjq Z20 (Qjq Qqg (Qjq Qt4 (Qjq Z58 (Qjq Qub (Qjq Ze6 (Qjq Zfm (Qjq Zai (Qjq Z0e Qju)))))))))) Qjz Tryz.func3 (by kernel_rfl) (by kernel_rfl) (fun x r h=>?_)
 exact h
theorem Qsn:Qlw=some ((true,()),()):=by kernel_rfl
noncomputable def Zcs:Ent:=⟨[],[⟨t4,[false],none⟩],fun _=>some ((true,()),())⟩
theorem X0n:Q4j tab.ty Tryz.prog 3 Zcs:=Q4j.weaken Qsm (fun x r h=>Qsn.trans h)
end Go.PE
