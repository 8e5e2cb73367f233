/- What the claims of this group lean on: Fa9. No condition. -/
import Derived.Test.YtoebcpfligblaaaGreatDoorKF6
import Derived.Test.YtoebcpfligblaaaGreatDoorKFhFa8
set_option linter.unusedSimpArgs false
set_option linter.unusedVariables false
set_option maxRecDepth 100000
set_option maxHeartbeats 4000000
namespace Cz
open Go Go.RowKit Go.Proofs
namespace Fa
theorem same_81 {w : Int} : (S0 Tryz.prog).call 29 [FR 8 0 1 [] (.l 0) (.l 0) (.y w) (.l 0) [] (.l 0), FR 8 0 1 [] (.l 0) (.l 0) (.y w) (.l 0) [] (.l 0)] [] (fun x _ => Sub x (.b true)) := by
  generalize hS : S0 Tryz.prog = S
  refine qaa hS I.qfd ?_
  cbv
  repeat' (first | (refine qhk hS rfl ?_; try cbv) | (refine qcz hS ?_ ?_ <;> intro h <;> (try cbv) <;> try exact s_ab h) | (refine qac hS ?_; cbv) | (refine qts hS rfl rfl ?_; cbv) | (refine qaa hS I.qea ?_; cbv) | (refine qaa hS I.qbg ?_; cbv) | fail)
  all_goals first
    | exact qiw rfl
    | trace_state
  all_goals sorry
theorem take_81 {w b0 b1 b2 b3 : Int} (h0 : 0 ≤ b0 ∧ b0 < 256) (h1 : 0 ≤ b1 ∧ b1 < 256) (h2 : 0 ≤ b2 ∧ b2 < 256) (h3 : 0 ≤ b3 ∧ b3 < 128) (hw : w = b3 * 16777216 + b2 * 65536 + b1 * 256 + b0) (hp : 1 ≤ w) : (S0 Tryz.prog).call 31 [.ag [.i .i64 (.l 0), .i .u8 (.l 8), .i .u8 (.l 0), .i .i64 (.l 1)], .v true 1 [.i .u8 (.y b3), .i .u8 (.y b2), .i .u8 (.y b1), .i .u8 (.y b0)] (.l 4)] [] (Tell (.tp [FR 8 0 1 [] (.l 0) (.l 0) (.y w) (.l 0) [] (.l 0), .ag [.ff, .i .i64 (.l 0), .i .u32 (.l 0)]])) := by
  generalize hS : S0 Tryz.prog = S
  refine qaa hS I.qbv ?_
  cbv
  repeat' (first | (refine qdo hS ?_; cbv) | (refine qbz hS ?_; cbv) | (refine qcz hS ?_ ?_ <;> intro h <;> (try cbv) <;> try exact s_ab h) | (refine qme hS ?_; try cbv) | (refine qac hS ?_; cbv) | (refine qaa hS I.qcw ?_; cbv) | (refine qaa hS I.qah ?_; cbv) | (refine qaa hS I.qbu ?_; cbv) | (refine qaa hS I.qcd ?_; cbv) | (refine qaa hS I.qbs ?_; cbv) | (refine qaa hS I.qcx ?_; cbv) | (refine qaa hS I.qcu ?_; cbv) | (refine qaa hS I.qcv ?_; cbv) | (refine qaa hS I.qae ?_; cbv) | (refine qaa hS I.qbt ?_; cbv) | (refine qaa hS I.qdd ?_; cbv) | (refine qaa hS I.qjp ?_; cbv) | (refine qaa hS I.qpf ?_; cbv) | (refine qaa hS I.qie ?_; cbv) | (refine qcb hS I.qbh ?_; cbv) | (refine qaa hS I.qgv ?_; cbv) | (refine qaf hS rfl I.qaz (by decide +kernel) ?_; cbv) | (refine qri hS (c := 256) rfl ?_ (by simp only [lo]; omega) (by simp only [Cz.hi]; omega); intro _ _; cbv) | (refine qri hS (c := 2) rfl ?_ (by simp only [lo]; omega) (by simp only [Cz.hi]; omega); intro _ _; cbv) | (refine s_orl hS (c := 256) (m := 8) rfl (by omega) (by omega) (by omega) (by omega) (by simp only [Cz.hi]; omega) ?_; intro _ _; cbv) | (refine qgd hS (c := 2) rfl ?_; intro _ _; cbv) | (refine s_lk hS ?_; try cbv) | (refine s_mu hS ?_; try cbv) | fail)
  all_goals first
    | (exfalso; omega)
    | (exfalso; revert h; decide)
    | skip
  all_goals
    intro g
    repeat' (first | exact .nil | refine .cons ?_ ?_ | (refine .tp ?_) | (refine .ag ?_) | exact .sub .rfl rfl | exact .sub (qad rfl) rfl | exact .nil (by decide) rfl | exact qag rfl rfl rfl rfl rfl | (refine .sub (qad ?_) rfl; (focus (simp only [Z.v]; omega))) | (refine .row rfl rfl ?_ rfl rfl) | fail)
  all_goals trace_state
  all_goals sorry
theorem ok_80 {w : Int} (h0 : 1 ≤ w) (h1 : w ≤ 2147483647) : (S0 Tryz.prog).call 18 [FR 8 0 0 [] (.l 0) (.l 0) (.y w) (.l 0) [] (.l 0)] [] (fun x _ => Sub x (.b true)) :=
  qwh rfl (fun bl K h => known_8u rfl h) (fun bl K h => qap rfl (puts_80 h0 h1 rfl rfl rfl rfl) .rfl rfl h) (fun bl K h => qap rfl (take_80 (by omega) (by omega) (by omega) (by omega) (by omega) h0) .rfl rfl h) (fun bl K h => qaw rfl same_80 .rfl rfl rfl h)
theorem ok_81 {w : Int} (h0 : 1 ≤ w) (h1 : w ≤ 2147483647) : (S0 Tryz.prog).call 18 [FR 8 0 1 [] (.l 0) (.l 0) (.y w) (.l 0) [] (.l 0)] [] (fun x _ => Sub x (.b true)) :=
  qwh rfl (fun bl K h => known_8u rfl h) (fun bl K h => qap rfl (puts_81 h0 h1 rfl rfl rfl rfl) .rfl rfl h) (fun bl K h => qap rfl (take_81 (by omega) (by omega) (by omega) (by omega) (by omega) h0) .rfl rfl h) (fun bl K h => qaw rfl same_81 .rfl rfl rfl h)
end Fa
end Cz
