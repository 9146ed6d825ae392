/-
  Plain lemmas on the functions.
  Conditions: none.
-/
import Derived.Test.YtemajkklbjdmjaaGreatHierAllPClusBase
set_option linter.unusedVariables false
set_option linter.unusedSimpArgs false
set_option maxRecDepth 100000
namespace Go.PE
theorem clus_Join_text (d:List (List Int)) (cs:List Cl) (a i k:Int):clus_Join d cs a i k=(
 bif bigOk cs then
 bif (cs.length:Int)==0 then
  Option.bind (clus_Of d [i]) fun r=>some (([r.1.1],()),())
 else
 bif decide (a<0) then some ((cs,()),()) else
 bif decide (a ≥ (cs.length:Int)) then some ((cs,()),()) else
 Option.bind (clus_find cs i) fun r=>
 bif decide (r.1.1 ≥ 0) then some ((cs,()),()) else
 bif takeAt a cs then
  bif Nat.ble ((List.getD cs a.toNat ([],0)).1.length+1) 1073741824 then
  Option.bind (slices_Sort_int ((List.getD cs a.toNat ([],0)).1++[i])) fun r2=>
  Option.bind (clus_Of d r2.2.1) fun r3=>
  bif decide (0≤a)&&decide (a<(cs.length:Int)) then
  bif decide (0≤a)&&decide (a<(cs.length:Int))&&Nat.ble cs.length (List.set (List.map some cs) a.toNat none).length&&allThere (List.take cs.length (List.set (List.set (List.map some cs) a.toNat none) a.toNat (some r3.1.1))) then
  Option.bind (clus_cut d (gets ([],0) (List.take cs.length (List.set (List.set (List.map some cs) a.toNat none) a.toNat (some r3.1.1)))) a k) fun r4=>some ((r4.1.1,()),())
  else none
  else none
  else none
 else none
 else none):=by kernel_rfl
theorem clus_Leave_text (d:List (List Int)) (cs:List Cl) (i k:Int):clus_Leave d cs i k=(
 bif bigOk cs then
 Option.bind (clus_find cs i) fun r=>
 bif decide (r.1.1<0) then some ((cs,()),()) else
 bif takeAt r.1.1 cs then
  Option.bind (slices_DeleteFunc_int (List.getD cs r.1.1.toNat ([],0)).1 (fun x=>(clus_Leave_fn1 x.1 i).bind fun r=>some (r.1.1,()))) fun r2=>
  bif (r2.1.1.length:Int)==0 then
  Option.bind (slices_Delete_Cluster (padN cs.length (List.set (List.map some cs) r.1.1.toNat none)) r.1.1 (IntKind.wrap .i64 (r.1.1+1))) fun r3=>some ((r3.1.1,()),())
  else
  Option.bind (clus_Of d r2.1.1) fun r4=>
  bif decide (0≤r.1.1)&&decide (r.1.1<(cs.length:Int)) then
  bif decide (0≤r.1.1)&&decide (r.1.1<(cs.length:Int))&&Nat.ble cs.length (List.set (List.map some cs) r.1.1.toNat none).length&&allThere (List.take cs.length (List.set (List.set (List.map some cs) r.1.1.toNat none) r.1.1.toNat (some r4.1.1))) then
  bif decide ((r2.1.1.length:Int) ≥ k) then some (((gets ([],0) (List.take cs.length (List.set (List.set (List.map some cs) r.1.1.toNat none) r.1.1.toNat (some r4.1.1)))),()),()) else
  bif decide (((gets ([],0) (List.take cs.length (List.set (List.set (List.map some cs) r.1.1.toNat none) r.1.1.toNat (some r4.1.1)))).length:Int)<2) then some (((gets ([],0) (List.take cs.length (List.set (List.set (List.map some cs) r.1.1.toNat none) r.1.1.toNat (some r4.1.1)))),()),()) else
  bif decide (0≤r.1.1)&&decide (r.1.1<((gets ([],0) (List.take cs.length (List.set (List.set (List.map some cs) r.1.1.toNat none) r.1.1.toNat (some r4.1.1)))).length:Int)) then
  bif decide (0≤r.1.1)&&decide (r.1.1<((gets ([],0) (List.take cs.length (List.set (List.set (List.map some cs) r.1.1.toNat none) r.1.1.toNat (some r4.1.1)))).length:Int)) then
  Option.bind (clus_leaders (gets ([],0) (List.take cs.length (List.set (List.set (List.map some cs) r.1.1.toNat none) r.1.1.toNat (some r4.1.1)))) r.1.1) fun r5=>
  Option.bind (mid_Near d (List.getD (gets ([],0) (List.take cs.length (List.set (List.set (List.map some cs) r.1.1.toNat none) r.1.1.toNat (some r4.1.1)))) r.1.1.toNat ([],0)).2 r5.1.1) fun r6=>
  Option.bind (slices_IndexFunc_Cluster (gets ([],0) (List.take cs.length (List.set (List.set (List.map some cs) r.1.1.toNat none) r.1.1.toNat (some r4.1.1)))) (fun x=>(clus_Leave_fn2 x.1 r6.1.1).bind fun r=>some (r.1.1,()))) fun r7=>
  bif decide (r7.1.1<0) then some (((gets ([],0) (List.take cs.length (List.set (List.set (List.map some cs) r.1.1.toNat none) r.1.1.toNat (some r4.1.1)))),()),()) else
  bif r7.1.1==r.1.1 then some (((gets ([],0) (List.take cs.length (List.set (List.set (List.map some cs) r.1.1.toNat none) r.1.1.toNat (some r4.1.1)))),()),()) else
  bif decide (0≤r7.1.1)&&decide (r7.1.1<((gets ([],0) (List.take cs.length (List.set (List.set (List.map some cs) r.1.1.toNat none) r.1.1.toNat (some r4.1.1)))).length:Int)) then
  bif decide (0≤r7.1.1)&&decide (r7.1.1<((gets ([],0) (List.take cs.length (List.set (List.set (List.map some cs) r.1.1.toNat none) r.1.1.toNat (some r4.1.1)))).length:Int)) then
  bif Nat.ble (r2.1.1.length+(List.getD (gets ([],0) (List.take cs.length (List.set (List.set (List.map some cs) r.1.1.toNat none) r.1.1.toNat (some r4.1.1)))) r7.1.1.toNat ([],0)).1.length) 1073741824 then
  Option.bind (slices_Sort_int (r2.1.1++(List.getD (gets ([],0) (List.take cs.length (List.set (List.set (List.map some cs) r.1.1.toNat none) r.1.1.toNat (some r4.1.1)))) r7.1.1.toNat ([],0)).1)) fun r8=>
  Option.bind (clus_Of d r8.2.1) fun r9=>
  bif decide (0≤r.1.1)&&decide (r.1.1<((gets ([],0) (List.take cs.length (List.set (List.set (List.map some cs) r.1.1.toNat none) r.1.1.toNat (some r4.1.1)))).length:Int)) then
  bif decide (0≤r.1.1)&&decide (r.1.1<((gets ([],0) (List.take cs.length (List.set (List.set (List.map some cs) r.1.1.toNat none) r.1.1.toNat (some r4.1.1)))).length:Int)) then
  Option.bind (slices_Delete_Cluster (List.map some (List.set (gets ([],0) (List.take cs.length (List.set (List.set (List.map some cs) r.1.1.toNat none) r.1.1.toNat (some r4.1.1)))) r.1.1.toNat r9.1.1)) r7.1.1 (IntKind.wrap .i64 (r7.1.1+1))) fun r10=>
  bif decide ((0:Int)≤0)&&decide ((0:Int)<(r8.2.1.length:Int)) then
  bif decide ((0:Int)≤0)&&decide ((0:Int)<(r8.2.1.length:Int)) then
  Option.bind (clus_find r10.1.1 (List.getD r8.2.1 0 0)) fun r11=>
  Option.bind (clus_cut d r10.1.1 r11.1.1 k) fun r12=>some ((r12.1.1,()),())
  else none
  else none
  else none
  else none
  else none
  else none
  else none
  else none
  else none
  else none
  else none
  else none
 else none):=by kernel_rfl
end Go.PE
