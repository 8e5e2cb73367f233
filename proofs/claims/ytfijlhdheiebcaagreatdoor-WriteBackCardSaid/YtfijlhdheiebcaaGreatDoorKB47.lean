/- What the claims of this group lean on: WfG. No condition. -/
import Derived.Test.YtfijlhdheiebcaaGreatDoorKB38
set_option linter.unusedSimpArgs false
set_option linter.unusedVariables false
set_option maxRecDepth 100000
set_option maxHeartbeats 4000000
namespace Cz
open Go Go.RowKit Go.Proofs
namespace Wf
open Fa
theorem take_7 {la co b0 b1 b2 b3 c0 c1 c2 c3:Int}(h0:0<=b0/\b0<256) (h1:0<=b1/\b1<256) (h2:0<=b2/\b2<256) (h3:0<=b3/\b3<128) (g0:0<=c0/\c0<256) (g1:0<=c1/\c1<256) (g2:0<=c2/\c2<256) (g3:0<=c3/\c3<256) (hl:la=b3*16777216+b2*65536+b1*256+b0) (hc:co=c3*16777216+c2*65536+c1*256+c0):
  (S0 Tryz.prog).call 156 [.ag [.i .i64 (.l 0),.i .u8 (.l 7),.i .u8 (.l 0),.i .i64 (.l 0)],.v true 1 [.i .u8 (.y b3),.i .u8 (.y b2),.i .u8 (.y b1),.i .u8 (.y b0),.i .u8 (.y c3),.i .u8 (.y c2),.i .u8 (.y c1),.i .u8 (.y c0)] (.l 8)] [] (Tell (.tp [FQ 7 0 (.l 0) n1 (.y la) (.l 0) (.y co) n2,.ag [.ff,.i .i64 (.l 0),.i .u32 (.l 0)]])):=by
 generalize hS:S0 Tryz.prog=S;refine qaa hS I.qgn ?_;cbv
 repeat' (first|(refine qdd hS ?_;try cbv)|(refine qax hS ?_;cbv)|(refine qaa hS I.qui ?_;cbv)|(refine qaa hS I.qef ?_;cbv)|(refine qaa hS I.qeg ?_;cbv)|(refine qaa hS I.qed ?_;cbv)|(refine qaa hS I.qee ?_;cbv)|(refine qaa hS I.qcw ?_;cbv)|(refine qaa hS I.qgm ?_;cbv)|(refine qaa hS I.qfn ?_;cbv)|(refine qaa hS I.qfo ?_;cbv)|(refine qaa hS I.qrd ?_;cbv)|(refine qaa hS I.qzady ?_;cbv)|(refine qaa hS I.qzacy ?_;cbv)|(refine qaa hS I.qzadx ?_;cbv)|(refine qaa hS I.qfp ?_;cbv)|(refine qaa hS I.qyl ?_;cbv)|(refine qbq hS I.qdv ?_;cbv)|(refine qaa hS I.qgl ?_;cbv)|(refine qag hS rfl I.qdt (by decide +kernel) ?_;cbv)|(refine qag hS rfl I.qup (by decide +kernel) ?_;cbv)|(refine qgu hS (c:=256) rfl ?_ (by simp only[lo];omega) (by simp only[Cz.hi];omega);intro _ _;cbv)|(refine qgu hS (c:=2) rfl ?_ (by simp only[lo];omega) (by simp only[Cz.hi];omega);intro _ _;cbv)|(refine qwm hS (c:=256) (m:=8) rfl (by omega) (by omega) (by omega) (by omega) (by simp only[Cz.hi];omega) ?_;intro _ _;cbv)|(refine qbd hS (c:=2) rfl ?_;intro _ _;cbv)|(refine s_nil hS ?_ ?_;rotate_left;cbv;rotate_left;intro _;cbv)|(refine s_lk hS ?_;try cbv)|(refine s_mu hS ?_;try cbv)|fail)
 all_goals first
  | (exfalso;omega)
  | (exfalso;revert h;decide)
  | skip
 all_goals
  intro g
  repeat' (first|exact .nil|refine .cons ?_ ?_|(refine .tp ?_)|(refine .ag ?_)|exact .sub .rfl rfl|exact .sub (qau rfl) rfl|exact .nil (by decide) rfl|exact qzasg rfl rfl rfl rfl rfl|(refine .sub (qau ?_) rfl;(focus (simp only[Z.v];omega)))|(refine .row rfl rfl ?_ rfl rfl)|fail)
theorem ok_7 {la co:Int}(hl:0<=la/\la<=2147483647) (hc:0<=co/\co<=4294967295):(S0 Tryz.prog).call 88 [FQ 7 0 (.l 0) n1 (.y la) (.l 0) (.y co) n2] [] (λx _=>Sub x (.b true)):=
 qzanc rfl (λbl K h=>known_7u rfl h) (λbl K h=>qaq rfl (puts_7 hl hc rfl rfl rfl rfl rfl rfl rfl rfl) .rfl rfl h) (λbl K h=>qaq rfl (take_7 (by omega) (by omega) (by omega) (by omega) (by omega) (by omega) (by omega) (by omega) (by omega) (by omega)) .rfl rfl h) (λbl K h=>qbg rfl same_7 .rfl rfl rfl h)
end Wf
end Cz
