/- What the claims of this group lean on: Fa7. No condition. -/
import Derived.Test.YtoebcpfligblaaaGreatDoorKF6
import Derived.Test.YtoebcpfligblaaaGreatDoorKFhFa8
import Derived.Test.YtoebcpfligblaaaGreatDoorKFhFa9
import Derived.Test.YtoebcpfligblaaaGreatDoorKFhFb2
import Derived.Test.YtoebcpfligblaaaGreatDoorKFhFb3
set_option linter.unusedSimpArgs false
set_option linter.unusedVariables false
set_option maxRecDepth 100000
set_option maxHeartbeats 4000000
namespace Cz
open Go Go.RowKit Go.Proofs
namespace Fa
section
variable {S : Sy} {bl : List Blk} {K : SV → List Blk → Prop}
theorem ok_1u (hS : S0 Tryz.prog = S) {args : List SV} (ha : FzL bl id [] args [FR 1 4 1 [.i .u8 (.l 129), .i .u8 (.l 131), .i .u8 (.l 132)] (.l 3) (.l 0) (.l 0) (.l 0) [] (.l 0)]) (hK : K (.b true) bl) : S.call 18 args bl K := qfj hS ok_1 ha rfl rfl hK
theorem ok_4u (hS : S0 Tryz.prog = S) {args : List SV} {w : Int} (h0 : 0 ≤ w) (h1 : w ≤ 2147483647) (ha : FzL bl id [] args [FR 4 0 0 [] (.l 0) (.l 0) (.l 0) (.l 0) [.i .u16 (.l 4), .i .u32 (.y w)] (.l 1)]) (hK : K (.b true) bl) : S.call 18 args bl K := qfj hS (ok_4 h0 h1) ha rfl rfl hK
theorem ok_80u (hS : S0 Tryz.prog = S) {args : List SV} {w : Int} (h0 : 1 ≤ w) (h1 : w ≤ 2147483647) (ha : FzL bl id [] args [FR 8 0 0 [] (.l 0) (.l 0) (.y w) (.l 0) [] (.l 0)]) (hK : K (.b true) bl) : S.call 18 args bl K := qfj hS (ok_80 h0 h1) ha rfl rfl hK
theorem ok_81u (hS : S0 Tryz.prog = S) {args : List SV} {w : Int} (h0 : 1 ≤ w) (h1 : w ≤ 2147483647) (ha : FzL bl id [] args [FR 8 0 1 [] (.l 0) (.l 0) (.y w) (.l 0) [] (.l 0)]) (hK : K (.b true) bl) : S.call 18 args bl K := qfj hS (ok_81 h0 h1) ha rfl rfl hK
theorem rr_au (hS : S0 Tryz.prog = S) {args : List SV} (ha : FzL bl id [] args [FR 4 1 0 [] (.l 0) (.l 0) (.l 0) (.l 0) [] (.l 0)]) (hK : K (.b true) bl) : S.call 33 args bl K := qfj hS rr_a ha rfl rfl hK
theorem rr_su (hS : S0 Tryz.prog = S) {args : List SV} (ha : FzL bl id [] args [FR 4 0 0 [] (.l 0) (.l 0) (.l 0) (.l 0) [] (.l 0)]) (hK : K (.b true) bl) : S.call 33 args bl K := qfj hS rr_s ha rfl rfl hK
theorem rr_hu (hS : S0 Tryz.prog = S) {args : List SV} (ha : FzL bl id [] args [FR 1 4 1 [.i .u8 (.l 134)] (.l 1) (.l 0) (.l 0) (.l 0) [] (.l 0)]) (hK : K (.b true) bl) : S.call 33 args bl K := qfj hS rr_h ha rfl rfl hK
theorem rr_eu (hS : S0 Tryz.prog = S) {args : List SV} (ha : FzL bl id [] args [FR 0 1 1 [.i .u8 (.l 7)] (.l 1) (.l 0) (.l 0) (.l 0) [] (.l 0)]) (hK : K (.b true) bl) : S.call 33 args bl K := qfj hS rr_e ha rfl rfl hK
theorem rr_zu (hS : S0 Tryz.prog = S) {args : List SV} (ha : FzL bl id [] args [FR 0 0 1 [] (.l 0) (.l 0) (.l 0) (.l 0) [] (.l 0)]) (hK : K (.b true) bl) : S.call 33 args bl K := qfj hS rr_z ha rfl rfl hK
end
end Fa
end Cz
