/- What the claims of this group lean on: Fb3. No condition. -/
import Derived.Test.YtoebcpfligblaaaGreatDoorKF6
set_option linter.unusedSimpArgs false
set_option linter.unusedVariables false
set_option maxRecDepth 100000
set_option maxHeartbeats 4000000
namespace Cz
open Go Go.RowKit Go.Proofs
namespace Fa
theorem rpay_e : (S0 Tryz.prog).call 34 [FR 0 1 1 [.i .u8 (.l 7)] (.l 1) (.l 0) (.l 0) (.l 0) [] (.l 0)] [] (Tell (.v true 1 [.i .u8 (.l 7)] (.l 1))) := by
  generalize hS : S0 Tryz.prog = S
  refine qaa hS I.qat ?_
  cbv
  repeat' (first | (refine qdo hS ?_; cbv) | (refine qbz hS ?_; cbv) | (refine qdr hS ?_; cbv) | (refine qac hS ?_; cbv) | (refine qaa hS I.qbd ?_; cbv) | (refine qaa hS I.qba ?_; cbv) | fail)
  all_goals
    intro g
    repeat' (first | exact .nil | refine .cons ?_ ?_ | (refine .tp ?_) | (refine .ag ?_) | exact .sub .rfl rfl | exact .sub (qad rfl) rfl | exact .nil (by decide) rfl | exact qag rfl rfl rfl rfl rfl | fail)
theorem rtake_e : (S0 Tryz.prog).call 57 [.ag [.i .i64 (.l 0), .i .u8 (.l 0), .i .u8 (.l 1), .i .i64 (.l 1)], .v true 1 [.i .u8 (.l 7)] (.l 1)] [] (Tell (.tp [FR 0 1 1 [.i .u8 (.l 7)] (.l 1) (.l 0) (.l 0) (.l 0) [] (.l 0), .ag [.ff, .i .i64 (.l 0), .i .u32 (.l 0)]])) := by
  generalize hS : S0 Tryz.prog = S
  refine qaa hS I.qch ?_
  cbv
  repeat' (first | (refine qhk hS rfl ?_; try cbv) | (refine qdo hS ?_; cbv) | (refine qbz hS ?_; cbv) | (refine qac hS ?_; cbv) | (refine qaa hS I.qbw ?_; cbv) | (refine qaa hS I.qav ?_; cbv) | (refine qaa hS I.qcg ?_; cbv) | (refine qaa hS I.qcf ?_; cbv) | (refine qaa hS I.qby ?_; cbv) | (refine qaa hS I.qcq ?_; cbv) | (refine qaa hS I.qck ?_; cbv) | (refine qaa hS I.qdv ?_; cbv) | (refine qaa hS I.qcp ?_; cbv) | (refine qaa hS I.qcr ?_; cbv) | (refine qaf hS rfl I.qbl (by decide +kernel) ?_; cbv) | (refine qaf hS rfl I.qbk (by decide +kernel) ?_; cbv) | fail)
  all_goals
    intro g
    repeat' (first | exact .nil | refine .cons ?_ ?_ | (refine .tp ?_) | (refine .ag ?_) | exact .sub .rfl rfl | exact .sub (qad rfl) rfl | exact .nil (by decide) rfl | exact qag rfl rfl rfl rfl rfl | fail)
theorem rsame_e : (S0 Tryz.prog).call 59 [FR 0 1 1 [.i .u8 (.l 7)] (.l 1) (.l 0) (.l 0) (.l 0) [] (.l 0), FR 0 1 1 [.i .u8 (.l 7)] (.l 1) (.l 0) (.l 0) (.l 0) [] (.l 0)] [] (fun x _ => Sub x (.b true)) := by
  generalize hS : S0 Tryz.prog = S
  refine qaa hS I.qcl ?_
  cbv
  repeat' (first | (refine qhk hS rfl ?_; try cbv) | (refine qcz hS ?_ ?_ <;> intro h <;> (try cbv) <;> try exact s_ab h) | (refine qac hS ?_; cbv) | (refine qts hS rfl rfl ?_; cbv) | (refine qaa hS I.qci ?_; cbv) | fail)
  all_goals first
    | exact qiw rfl
    | exact .rfl
theorem rr_e : (S0 Tryz.prog).call 33 [FR 0 1 1 [.i .u8 (.l 7)] (.l 1) (.l 0) (.l 0) (.l 0) [] (.l 0)] [] (fun x _ => Sub x (.b true)) :=
  rr_g rfl (fun bl K h => qap rfl rpay_e .rfl rfl h) (fun bl K h => qap rfl rtake_e .rfl rfl h) (fun bl K h => qaw rfl rsame_e .rfl rfl rfl h)
theorem rpay_z : (S0 Tryz.prog).call 34 [FR 0 0 1 [] (.l 0) (.l 0) (.l 0) (.l 0) [] (.l 0)] [] (Tell (.v true 1 [] (.l 0))) := by
  generalize hS : S0 Tryz.prog = S
  refine qaa hS I.qat ?_
  cbv
  repeat' (first | (refine qdo hS ?_; cbv) | (refine qbz hS ?_; cbv) | (refine qdr hS ?_; cbv) | (refine qac hS ?_; cbv) | (refine qaa hS I.qbd ?_; cbv) | (refine qaa hS I.qba ?_; cbv) | fail)
  all_goals
    intro g
    repeat' (first | exact .nil | refine .cons ?_ ?_ | (refine .tp ?_) | (refine .ag ?_) | exact .sub .rfl rfl | exact .sub (qad rfl) rfl | exact .nil (by decide) rfl | exact qag rfl rfl rfl rfl rfl | fail)
theorem rtake_z : (S0 Tryz.prog).call 57 [.ag [.i .i64 (.l 0), .i .u8 (.l 0), .i .u8 (.l 0), .i .i64 (.l 1)], .v true 1 [] (.l 0)] [] (Tell (.tp [FR 0 0 1 [] (.l 0) (.l 0) (.l 0) (.l 0) [] (.l 0), .ag [.ff, .i .i64 (.l 0), .i .u32 (.l 0)]])) := by
  generalize hS : S0 Tryz.prog = S
  refine qaa hS I.qch ?_
  cbv
  repeat' (first | (refine qhk hS rfl ?_; try cbv) | (refine qdo hS ?_; cbv) | (refine qbz hS ?_; cbv) | (refine qac hS ?_; cbv) | (refine qaa hS I.qbw ?_; cbv) | (refine qaa hS I.qav ?_; cbv) | (refine qaa hS I.qcg ?_; cbv) | (refine qaa hS I.qcf ?_; cbv) | (refine qaa hS I.qby ?_; cbv) | (refine qaa hS I.qcq ?_; cbv) | (refine qaa hS I.qck ?_; cbv) | (refine qaa hS I.qdv ?_; cbv) | (refine qaa hS I.qcp ?_; cbv) | (refine qaa hS I.qcr ?_; cbv) | (refine qaf hS rfl I.qbl (by decide +kernel) ?_; cbv) | (refine qaf hS rfl I.qbk (by decide +kernel) ?_; cbv) | fail)
  all_goals
    intro g
    repeat' (first | exact .nil | refine .cons ?_ ?_ | (refine .tp ?_) | (refine .ag ?_) | exact .sub .rfl rfl | exact .sub (qad rfl) rfl | exact .nil (by decide) rfl | exact qag rfl rfl rfl rfl rfl | fail)
theorem rsame_z : (S0 Tryz.prog).call 59 [FR 0 0 1 [] (.l 0) (.l 0) (.l 0) (.l 0) [] (.l 0), FR 0 0 1 [] (.l 0) (.l 0) (.l 0) (.l 0) [] (.l 0)] [] (fun x _ => Sub x (.b true)) := by
  generalize hS : S0 Tryz.prog = S
  refine qaa hS I.qcl ?_
  cbv
  repeat' (first | (refine qhk hS rfl ?_; try cbv) | (refine qcz hS ?_ ?_ <;> intro h <;> (try cbv) <;> try exact s_ab h) | (refine qac hS ?_; cbv) | (refine qts hS rfl rfl ?_; cbv) | (refine qaa hS I.qci ?_; cbv) | fail)
  all_goals first
    | exact qiw rfl
    | exact .rfl
theorem rr_z : (S0 Tryz.prog).call 33 [FR 0 0 1 [] (.l 0) (.l 0) (.l 0) (.l 0) [] (.l 0)] [] (fun x _ => Sub x (.b true)) :=
  rr_g rfl (fun bl K h => qap rfl rpay_z .rfl rfl h) (fun bl K h => qap rfl rtake_z .rfl rfl h) (fun bl K h => qaw rfl rsame_z .rfl rfl rfl h)
end Fa
end Cz
