/-
  Plain lemmas on the functions.
  Conditions: none.
-/
import Derived.Test.YtmfiijdlhjajcaaGreatDoorNodeDownPPairRef2
set_option linter.unusedVariables false
set_option linter.unusedSimpArgs false
set_option maxRecDepth 20000
namespace Go.PE
structure NSm (n:Zbs):Prop where
 path:n.2.2.2.1.2.2.2.2.2.2.1.length≤10
 kids:n.2.2.2.1.2.2.2.2.2.2.2.2.2.2.2.2.length≤8
 feed:FSm n.2.2.2.2.1
theorem NOk.nsm {N:Int} {n:Zbs} (h:NOk N n):NSm n:=⟨h.tie.path,h.tie.kids.len,h.feed.sm⟩
end Go.PE
