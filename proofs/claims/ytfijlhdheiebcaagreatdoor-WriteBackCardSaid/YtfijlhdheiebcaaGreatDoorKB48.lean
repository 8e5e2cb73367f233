/- What the claims of this group lean on: WkZ WkS. No condition. -/
import Derived.Test.YtfijlhdheiebcaaGreatDoorKB45
import Derived.Test.YtfijlhdheiebcaaGreatDoorKB47
set_option linter.unusedSimpArgs false
set_option linter.unusedVariables false
set_option maxRecDepth 100000
set_option maxHeartbeats 4000000
namespace Cz
open Go Go.RowKit Go.Proofs
namespace Wr
open Fa
abbrev nil0:SV:=.re (.slice none 0 0)
theorem right_0:(S0 Tryz.prog).call 36 [.ag [nil0,.i .i64 (.l 0),nil0,nil0,.i .i64 (.l 0),.i .i64 (.l 0),.i .i64 (.l 0),nil0,.i .u64 (.l 0),.i .i64 (.l 0),.i .i64 (.l 0),.i .i64 (.l 0),.i .i64 (.l 0),.i .i64 (.l 0),.i .i64 (.l 0),.i .i64 (.l 0),.i .i64 (.l 0),.ff]] [] (λx _=>Sub x .ff):=by
 generalize hS:S0 Tryz.prog=S;refine qaa hS I.quc ?_;cbv
 repeat' (first|(refine qtk hS rfl ?_;cbv)|(refine qax hS ?_;cbv)|(refine qfw hS rfl rfl ?_;cbv)|(refine qaa hS I.qby ?_;cbv)|(refine qaa hS I.qhe ?_;cbv)|(refine qaa hS I.qyi ?_;cbv)|(refine qaa hS I.qqw ?_;cbv)|(refine qaa hS I.quh ?_;cbv)|(refine qaa hS I.qyh ?_;cbv)|(refine qaa hS I.qdb ?_;cbv)|(refine qaa hS I.qjw ?_;cbv)|(refine qaa hS I.qyk ?_;cbv)|(refine qaa hS I.qec ?_;cbv)|(refine qbq hS I.qfm ?_;cbv)|(refine qaa hS I.qzacw ?_;cbv)|(refine qbq hS I.qda ?_;cbv)|(refine qag hS rfl I.qmp (by decide +kernel) ?_;cbv)|(refine qag hS rfl I.qeo (by decide +kernel) ?_;cbv)|fail)
 all_goals first
  | exact .rfl
theorem waits_7:(S0 Tryz.prog).call 37 [.ag [.i .u8 (.l 7),.i .i64 (.l 0),.i .i64 (.l 0),.i .u32 (.l 0),nil0,nil0,nil0]] [] (λx _=>Sub x .ff):=by
 generalize hS:S0 Tryz.prog=S;refine qaa hS I.qlw ?_;cbv
 repeat' (first|(refine qaa hS I.qua ?_;cbv)|(refine s_lk hS ?_;try cbv)|(refine s_mu hS ?_;try cbv)|fail)
 all_goals first
  | exact .rfl
theorem waits_5 {la co:Int}(hl:0<=la/\la<=2147483647) (hc:0<=co/\co<=4294967295) {D:List SV}{Q:List SV}{L:List SV}:(S0 Tryz.prog).call 37 [.ag [.i .u8 (.l 5),.i .i64 (.y la),.i .i64 (.l 0),.i .u32 (.y co),.v true 1 D (.l 0),.v true 2 Q (.l 0),.v true 2 L (.l 0)]] [] (λx _=>Sub x .tt):=by
 have ok:=Wf.ok_7 hl hc;generalize hS:S0 Tryz.prog=S;refine qaa hS I.qlw ?_;cbv
 repeat' (first|(refine qac hS ?_ ?_<;>intro h<;>(try cbv)<;>try exact s_ab h)|(refine qbg hS ok ?_ rfl rfl ?_;(focus (repeat' (first|exact .nil|refine .cons ?_ ?_|refine qja ?_|exact .rfl|exact qau rfl|exact qpx (by decide) rfl rfl|fail));done);cbv)|(refine qaa hS I.qua ?_;cbv)|(refine qaa hS I.qzadu ?_;cbv)|(refine s_lk hS ?_;try cbv)|(refine s_mu hS ?_;try cbv)|fail)
 all_goals first
  | exact .rfl
end Wr
end Cz
namespace Cz
open Go Go.RowKit Go.Proofs
namespace Wr
open Fa
theorem same_cc:(S0 Tryz.prog).call 38 [lnQ [] 65532 65535 0 [sC] 0 (-1) false,lnQ [] 65532 65535 0 [sC] 0 (-1) false] [] (Tell .tt):=by
 generalize hS:S0 Tryz.prog=S;refine qaa hS I.qye ?_;cbv
 repeat' (first|(refine qwn hS rfl ?_;try cbv)|(refine qac hS ?_ ?_<;>intro h<;>(try cbv)<;>try exact s_ab h)|(refine qax hS ?_;cbv)|(refine Wf.s_bst0 hS ?_;cbv)|(refine qaa hS I.qdl ?_;cbv)|(refine qaa hS I.qgo ?_;cbv)|(refine qaa hS I.qkn ?_;cbv)|(refine qaa hS I.qzaor ?_;cbv)|(refine qaa hS I.qko ?_;cbv)|(refine qaa hS I.qgg ?_;cbv)|(refine qaa hS I.qzakl ?_;cbv)|fail)
 all_goals first
  | exact λg=>.sub .rfl rfl
theorem same_ab:(S0 Tryz.prog).call 38 [lnQ [] 65535 65535 0 [sA] 1152921504606847064 (-1) false,lnQ [] 65533 65535 0 [sB] 0 0 false] [] (λx _=>Sub x .ff):=by
 generalize hS:S0 Tryz.prog=S;refine qaa hS I.qye ?_;cbv
 repeat' (first|(refine qax hS ?_;cbv)|(refine qaa hS I.qdl ?_;cbv)|fail)
 all_goals first
  | exact .rfl
end Wr
end Cz
