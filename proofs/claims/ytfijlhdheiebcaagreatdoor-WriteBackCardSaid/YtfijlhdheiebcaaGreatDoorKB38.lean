/- What the claims of this group lean on: WfD WfF. No condition. -/
import Derived.Test.YtfijlhdheiebcaaGreatDoorKB37
set_option linter.unusedSimpArgs false
set_option linter.unusedVariables false
set_option maxRecDepth 100000
set_option maxHeartbeats 4000000
namespace Cz
open Go Go.RowKit Go.Proofs
namespace Wf
open Fa
theorem s_bst0 {S:Sy}(hS:S0 Tryz.prog=S) {K:List UInt8->Prop}(h:K []):S.bs [] 0 0 K:=s_bsB hS (l:=[]) (λ_ h=>by cases h) rfl rfl rfl h
theorem known_8:(S0 Tryz.prog).call 113 [.i .u8 (.l 8)] [] (λx _=>Sub x (.ag [.i .i64 (.l 0),.any,.fn (.func 228) [] [],.fn (.func 229) [] []])):=by
 generalize hS:S0 Tryz.prog=S;refine qaa hS I.qef ?_;cbv
 repeat' (first|(refine qaa hS I.qeg ?_;cbv)|(refine qaa hS I.qed ?_;cbv)|(refine qaa hS I.qee ?_;cbv)|(refine qaa hS I.qfo ?_;cbv)|(refine s_lk hS ?_;try cbv)|(refine s_mu hS ?_;try cbv)|fail)
 all_goals first
  | exact qja (.cons .rfl (.cons qlm (.cons .rfl (.cons .rfl .nil))))
theorem known_8u {S:Sy}{bl:List Blk}{K:SV->List Blk->Prop}(hS:S0 Tryz.prog=S) (hK:K (.ag [.i .i64 (.l 0),.any,.fn (.func 228) [] [],.fn (.func 229) [] []]) bl):S.call 113 [.i .u8 (.l 8)] bl K:=qbg hS known_8 .rfl rfl rfl hK
theorem puts_8 {st w b0 b1 b2 b3:Int}(h0:1<=w) (h1:w<=2147483647) (e0:b0=w%256) (e1:b1=w/256%256) (e2:b2=w/65536%256) (e3:b3=w/16777216):(S0 Tryz.prog).call 229 [FQ 8 0 (.y st) n1 (.l 0) (.y w) (.l 0) n2] [] (Tell (.v true 1 [.i .u8 (.y b3),.i .u8 (.y b2),.i .u8 (.y b1),.i .u8 (.y b0)] (.l 4))):=by
 generalize hS:S0 Tryz.prog=S;refine qaa hS I.qzaao ?_;cbv
 repeat' (first|(refine qac hS ?_ ?_<;>intro h<;>(try cbv)<;>try exact s_ab h)|(refine qdd hS ?_;try cbv)|(refine qax hS ?_;cbv)|(refine qaa hS I.qym ?_;cbv)|(refine qaa hS I.qzacx ?_;cbv)|(refine qaa hS I.qgl ?_;cbv)|(refine qbd hS (c:=4294967296) rfl ?_;intro _ _;cbv)|(refine qbd hS (c:=16777216) rfl ?_;intro _ _;cbv)|(refine qbd hS (c:=65536) rfl ?_;intro _ _;cbv)|(refine qbd hS (c:=256) rfl ?_;intro _ _;cbv)|(refine qbd hS (c:=1) rfl ?_;intro _ _;cbv)|(refine s_c8 hS ?_;intro _ _;cbv)|fail)
 all_goals first
  | (exfalso;omega)
  | skip
 all_goals
  intro g;refine .row rfl rfl ?_ rfl rfl
  repeat' (first|exact .nil|refine .cons ?_ ?_|exact .sub (qau rfl) rfl|(refine .sub (qau ?_) rfl;(focus (simp only[Z.v];omega)))|fail)
theorem same_8 {st w:Int}:(S0 Tryz.prog).call 157 [FQ 8 0 (.y st) n1 (.l 0) (.y w) (.l 0) n2,FQ 8 0 (.y st) n1 (.l 0) (.y w) (.l 0) n2] [] (λx _=>Sub x (.b true)):=by
 generalize hS:S0 Tryz.prog=S;refine qaa hS I.qoh ?_;cbv
 repeat' (first|(refine qwn hS rfl ?_;try cbv)|(refine qac hS ?_ ?_<;>intro h<;>(try cbv)<;>try exact s_ab h)|(refine qax hS ?_;cbv)|(refine s_bst0 hS ?_;cbv)|(refine qaa hS I.qgo ?_;cbv)|(refine qaa hS I.qch ?_;cbv)|fail)
 all_goals first
  | exact qay rfl
theorem take_8 {st w b0 b1 b2 b3:Int}(hs:0<=st/\st<=2147483647) (h0:0<=b0/\b0<256) (h1:0<=b1/\b1<256) (h2:0<=b2/\b2<256) (h3:0<=b3/\b3<128) (hw:w=b3*16777216+b2*65536+b1*256+b0) (hp:1<=w):(S0 Tryz.prog).call 156 [.ag [.i .i64 (.l 0),.i .u8 (.l 8),.i .u8 (.l 0),.i .i64 (.y st)],.v true 1 [.i .u8 (.y b3),.i .u8 (.y b2),.i .u8 (.y b1),.i .u8 (.y b0)] (.l 4)] [] (Tell (.tp [FQ 8 0 (.y st) n1 (.l 0) (.y w) (.l 0) n2,.ag [.ff,.i .i64 (.l 0),.i .u32 (.l 0)]])):=by
 generalize hS:S0 Tryz.prog=S;refine qaa hS I.qgn ?_;cbv
 repeat' (first|(refine qac hS ?_ ?_<;>intro h<;>(try cbv)<;>try exact s_ab h)|(refine qdd hS ?_;try cbv)|(refine qax hS ?_;cbv)|(refine qaa hS I.qef ?_;cbv)|(refine qaa hS I.qeg ?_;cbv)|(refine qaa hS I.qed ?_;cbv)|(refine qaa hS I.qee ?_;cbv)|(refine qaa hS I.qcw ?_;cbv)|(refine qaa hS I.qgm ?_;cbv)|(refine qaa hS I.qfn ?_;cbv)|(refine qaa hS I.qfo ?_;cbv)|(refine qaa hS I.qrd ?_;cbv)|(refine qaa hS I.qzacy ?_;cbv)|(refine qaa hS I.qzaap ?_;cbv)|(refine qaa hS I.qfp ?_;cbv)|(refine qaa hS I.qzaht ?_;cbv)|(refine qaa hS I.qyl ?_;cbv)|(refine qbq hS I.qdv ?_;cbv)|(refine qaa hS I.qgl ?_;cbv)|(refine qag hS rfl I.qdt (by decide +kernel) ?_;cbv)|(refine qbd hS (c:=2147483648) rfl ?_;intro _ _;cbv)|(refine qgu hS (c:=256) rfl ?_ (by simp only[lo];omega) (by simp only[Cz.hi];omega);intro _ _;cbv)|(refine qgu hS (c:=2) rfl ?_ (by simp only[lo];omega) (by simp only[Cz.hi];omega);intro _ _;cbv)|(refine qwm hS (c:=256) (m:=8) rfl (by omega) (by omega) (by omega) (by omega) (by simp only[Cz.hi];omega) ?_;intro _ _;cbv)|(refine qbd hS (c:=2) rfl ?_;intro _ _;cbv)|(refine s_lk hS ?_;try cbv)|(refine s_mu hS ?_;try cbv)|fail)
 all_goals first
  | (exfalso;omega)
  | (exfalso;revert h;decide)
  | skip
 all_goals
  intro g
  repeat' (first|exact .nil|refine .cons ?_ ?_|(refine .tp ?_)|(refine .ag ?_)|exact .sub .rfl rfl|exact .sub (qau rfl) rfl|exact .nil (by decide) rfl|exact qzasg rfl rfl rfl rfl rfl|(refine .sub (qau ?_) rfl;(focus (simp only[Z.v];omega)))|(refine .row rfl rfl ?_ rfl rfl)|fail)
theorem ok_8 {st w:Int}(hs:0<=st/\st<=2147483647) (h0:1<=w) (h1:w<=2147483647):(S0 Tryz.prog).call 88 [FQ 8 0 (.y st) n1 (.l 0) (.y w) (.l 0) n2] [] (λx _=>Sub x (.b true)):=
 qzanc rfl (λbl K h=>known_8u rfl h) (λbl K h=>qaq rfl (puts_8 h0 h1 rfl rfl rfl rfl) .rfl rfl h) (λbl K h=>qaq rfl (take_8 hs (by omega) (by omega) (by omega) (by omega) (by omega) h0) .rfl rfl h) (λbl K h=>qbg rfl same_8 .rfl rfl rfl h)
end Wf
end Cz
namespace Cz
open Go Go.RowKit Go.Proofs
namespace Wf
open Fa
theorem known_7:(S0 Tryz.prog).call 113 [.i .u8 (.l 7)] [] (λx _=>Sub x (.ag [.i .i64 (.l 2),.any,.fn (.func 224) [] [],.fn (.func 226) [] []])):=by
 generalize hS:S0 Tryz.prog=S;refine qaa hS I.qef ?_;cbv
 repeat' (first|(refine qaa hS I.qeg ?_;cbv)|(refine qaa hS I.qed ?_;cbv)|(refine qaa hS I.qee ?_;cbv)|(refine qaa hS I.qfo ?_;cbv)|(refine s_lk hS ?_;try cbv)|(refine s_mu hS ?_;try cbv)|fail)
 all_goals first
  | exact qja (.cons .rfl (.cons qlm (.cons .rfl (.cons .rfl .nil))))
theorem known_7u {S:Sy}{bl:List Blk}{K:SV->List Blk->Prop}(hS:S0 Tryz.prog=S) (hK:K (.ag [.i .i64 (.l 2),.any,.fn (.func 224) [] [],.fn (.func 226) [] []]) bl):S.call 113 [.i .u8 (.l 7)] bl K:=qbg hS known_7 .rfl rfl rfl hK
theorem puts_7 {la co b0 b1 b2 b3 c0 c1 c2 c3:Int}(hl:0<=la/\la<=2147483647) (hc:0<=co/\co<=4294967295) (e0:b0=la%256) (e1:b1=la/256%256) (e2:b2=la/65536%256) (e3:b3=la/16777216) (f0:c0=co%256) (f1:c1=co/256%256) (f2:c2=co/65536%256) (f3:c3=co/16777216):
  (S0 Tryz.prog).call 226 [FQ 7 0 (.l 0) n1 (.y la) (.l 0) (.y co) n2] [] (Tell (.v true 1 [.i .u8 (.y b3),.i .u8 (.y b2),.i .u8 (.y b1),.i .u8 (.y b0),.i .u8 (.y c3),.i .u8 (.y c2),.i .u8 (.y c1),.i .u8 (.y c0)] (.l 8))):=by
 generalize hS:S0 Tryz.prog=S;refine qaa hS I.qzaaq ?_;cbv
 repeat' (first|(refine s_ck hS ?_;try cbv)|(refine qac hS ?_ ?_<;>intro h<;>(try cbv)<;>try exact s_ab h)|(refine qdd hS ?_;try cbv)|(refine qax hS ?_;cbv)|(refine qaa hS I.qhf ?_;cbv)|(refine qaa hS I.qjx ?_;cbv)|(refine s_mk hS rfl (by decide) (by decide) rfl ?_;cbv)|(refine qaa hS I.qym ?_;cbv)|(refine qaa hS I.qzacx ?_;cbv)|(refine qaa hS I.qgl ?_;cbv)|(refine qag hS rfl I.qsj (by decide +kernel) ?_;cbv)|(refine qbd hS (c:=4294967296) rfl ?_;intro _ _;cbv)|(refine qbd hS (c:=16777216) rfl ?_;intro _ _;cbv)|(refine qbd hS (c:=65536) rfl ?_;intro _ _;cbv)|(refine qbd hS (c:=256) rfl ?_;intro _ _;cbv)|(refine qbd hS (c:=1) rfl ?_;intro _ _;cbv)|(refine s_c8 hS ?_;intro _ _;cbv)|fail)
 all_goals first
  | (exfalso;omega)
  | skip
 all_goals
  intro g;refine .row rfl rfl ?_ rfl rfl
  repeat' (first|exact .nil|refine .cons ?_ ?_|exact .sub (qau rfl) rfl|(refine .sub (qau ?_) rfl;(focus (simp only[Z.v];omega)))|fail)
theorem same_7 {la co:Int}:(S0 Tryz.prog).call 157 [FQ 7 0 (.l 0) n1 (.y la) (.l 0) (.y co) n2,FQ 7 0 (.l 0) n1 (.y la) (.l 0) (.y co) n2] [] (λx _=>Sub x (.b true)):=by
 generalize hS:S0 Tryz.prog=S;refine qaa hS I.qoh ?_;cbv
 repeat' (first|(refine qwn hS rfl ?_;try cbv)|(refine qac hS ?_ ?_<;>intro h<;>(try cbv)<;>try exact s_ab h)|(refine qax hS ?_;cbv)|(refine s_bst0 hS ?_;cbv)|(refine qaa hS I.qgo ?_;cbv)|(refine qaa hS I.qch ?_;cbv)|fail)
 all_goals first
  | exact qay rfl
end Wf
end Cz
