/-
  Plain lemmas on the functions.
  Conditions: none.
-/
import Derived.Test.YtmfiijdlhjajcaaGreatDoorNodeDeafPMsgRef
set_option linter.unusedVariables false
namespace Go.PE
theorem Zuh {k:Int} (h1:0≤k) (h2:k≤1000000):IntKind.wrap .i64 (k+1)=k+1:=Qsk (by omega) (by omega)
theorem ct {α:Type} {c:Bool} {a b:α} (h:c=true):(bif c then a else b)=a:=by rw [h];rfl
theorem cf {α:Type} {c:Bool} {a b:α} (h:c=false):(bif c then a else b)=b:=by rw [h];rfl
end Go.PE
