/- What the claims of this group lean on: WjT. No condition. -/
import Derived.LaidMore
import Derived.Lay
import Derived.SevenTiedAt
import Derived.Stop.Joined
import Derived.Test.YtdldbkpdecbgnaaGreatDoorRows
import Derived.Test.YtdldbkpdecbgnaaGreatDoorCards
import Derived.Test.YtdldbkpdecbgnaaGreatDoorTie
set_option linter.unusedSimpArgs false
set_option linter.unusedVariables false
set_option maxRecDepth 100000
set_option maxHeartbeats 4000000
namespace Go.Proofs.YtdldbkpdecbgnaaGreatDoor
open Go
theorem andT {a b:Bool}(h:a=true) (g:b=true):(a&&b)=true:=by subst h g;rfl
theorem joinedT:joinedFacts Tryz.prog 3 Tryz.f3 Rows.writeTurnsSpec Rows.writeTurnsRow=true:=by
 unfold joinedFacts
 repeat' (with_reducible refine andT ?_ ?_)
 all_goals as_aux_lemma=>kernel_rfl
end Go.Proofs.YtdldbkpdecbgnaaGreatDoor
