/- What the claims of this group lean on: WjB. No condition. -/
import Derived.LaidMore
import Derived.Lay
import Derived.SevenTiedAt
import Derived.Stop.Joined
import Derived.Test.YtfijlhdheiebcaaGreatDoorRows
import Derived.Test.YtfijlhdheiebcaaGreatDoorCards
import Derived.Test.YtfijlhdheiebcaaGreatDoorTie
set_option linter.unusedSimpArgs false
set_option linter.unusedVariables false
set_option maxRecDepth 100000
set_option maxHeartbeats 4000000
namespace Go.Proofs.YtfijlhdheiebcaaGreatDoor
open Go
theorem andB {a b:Bool}(h:a=true) (g:b=true):(a&&b)=true:=by subst h g;rfl
theorem joinedB:joinedFacts Tryz.prog 5 Tryz.f5 Rows.writeBackSpec Rows.writeBackRow=true:=by
 unfold joinedFacts
 repeat' (with_reducible refine andB ?_ ?_)
 all_goals as_aux_lemma=>kernel_rfl
end Go.Proofs.YtfijlhdheiebcaaGreatDoor
