/- What the claims of this group lean on: WgE WgF. No condition. -/
import Derived.Test.YtfijlhdheiebcaaGreatDoorKB27
import Derived.Test.YtfijlhdheiebcaaGreatDoorKB28
set_option linter.unusedSimpArgs false
set_option linter.unusedVariables false
set_option maxRecDepth 100000
set_option maxHeartbeats 4000000
namespace Cz
open Go Go.RowKit Go.Proofs
namespace Wg
open Fa Wr
theorem spar_n {ps:List (Int×Int)}{Q G:List SV}{qn g c:Int}(hQ:cellsP ps=Q) (hn:qn=ilen ps) (hl:qn<=2000) (hr:PrIn ps) (hp:ps.all prB=false) (hc:fcL ps=c) (hG:cellsB (byp ps)=G) (hg:g=6*qn):
  (S0 Tryz.prog).call 54 [.ag [.i .i64 (.l 0),.i .u8 (.l 4),.i .u8 (.l 0),.i .i64 (.l 0)],.v false 1 G (.y g)] [] (Tell (.tp [f0,.ag [.tt,.i .i64 (.l 0),.i .u32 (.y c)]])):=by
 have c1:=takep_f hQ hn (by omega) hr hG hg;have c2:=val_n hQ hn (by omega) hp hc (y:=.re (.slice none 0 0)) (Or.inr rfl);have hn0:=qaj ps;rw[<-hn] at hn0;unfold f0;clear hr hp hQ hG hn hc;generalize hS:S0 Tryz.prog=S;refine qaa hS I.qih ?_;cbv
 repeat' (first|(refine qwn hS rfl ?_;try cbv)|(refine qac hS ?_ ?_<;>intro h<;>(try cbv)<;>try exact s_ab h)|(refine qaq hS c1 .rfl rfl ?_;cbv)|(refine qbg hS c2 .rfl rfl rfl ?_;cbv)|(refine s_rm hS (by omega) ?_;intro _ _;cbv)|(refine qaa hS I.qii ?_;cbv)|(refine qaa hS I.qif ?_;cbv)|(refine qaa hS I.qbc ?_;cbv)|(refine qaa hS I.qie ?_;cbv)|(refine qaa hS I.qlh ?_;cbv)|(refine qaa hS I.qjz ?_;cbv)|(refine qaa hS I.qlg ?_;cbv)|(refine qaa hS I.qli ?_;cbv)|(refine qag hS rfl I.qff (by decide +kernel) ?_;cbv)|(refine qag hS rfl I.qfe (by decide +kernel) ?_;cbv)|fail)
 all_goals first
  | (exfalso;omega)
  | skip
 all_goals
  intro g
  repeat' (first|exact .nil|refine .cons ?_ ?_|(refine .tp ?_)|(refine .ag ?_)|exact .sub .rfl rfl|exact .sub (qau rfl) rfl|exact .nil (by decide) rfl|fail)
 all_goals trace_state
theorem ssame_f {ps:List (Int×Int)}{Q:List SV}{qn:Int}(hQ:cellsP ps=Q) (hn:qn=ilen ps) (hl:qn<=2000):
  (S0 Tryz.prog).call 126 [stF Q qn,stF Q qn] [] (λx _=>Sub x (.b true)):=by
 have c1:=pairs_f hQ hn (by omega);unfold stF;generalize hS:S0 Tryz.prog=S;refine qaa hS I.qvl ?_;cbv
 repeat' (first|(refine qwn hS rfl ?_;try cbv)|(refine qac hS ?_ ?_<;>intro h<;>(try cbv)<;>try exact s_ab h)|(refine qbg hS c1 .rfl rfl rfl ?_;cbv)|fail)
 all_goals first
  | exact qbt rfl
  | exact qay rfl
  | exact .rfl
theorem qzamx {ps:List (Int×Int)}{Q:List SV}{qn:Int}{t:Bool}(hQ:cellsP ps=Q) (hn:qn=ilen ps) (hl:qn<=2000) (hr:PrIn ps) (hp:ps.all prB=t):
  (S0 Tryz.prog).call 57 [stF Q qn] [] (λx _=>Sub x (.b t)):=by
 obtain⟨G,hG⟩:∃ G,cellsB (byp ps)=G:=⟨_,rfl⟩;obtain⟨g,hg⟩:∃ g,g=6*qn:=⟨_,rfl⟩;have c1:=spay_f hQ hn hl hr hG hg;have c3:=ssame_f hQ hn hl;cases t
 ·obtain⟨c,hc⟩:∃ c,fcL ps=c:=⟨_,rfl⟩
  have c2:=spar_n hQ hn hl hr hp hc hG hg;unfold stF at *;unfold f0 at *;clear hr hp hQ hG hn hc;generalize hS:S0 Tryz.prog=S;refine qaa hS I.qig ?_;cbv;refine qnt hS rfl I.qez (by decide +kernel) ?_;cbv
  repeat' (refine And.intro ?_ ?_)
  all_goals
   repeat' (first|(refine qaq hS c1 .rfl rfl ?_;cbv)|(refine qaq hS c2 .rfl rfl ?_;cbv)|(refine qaa hS I.qbc ?_;cbv)|(refine qag hS rfl I.qfd (by decide +kernel) ?_;cbv)|(refine qzaqz hS ?_;try cbv)|fail)
  all_goals first
   | exact .rfl
   | exact qao rfl
 ·have c2:=spar_y hQ hn hl hr hp hG hg
  unfold stF at *;clear hr hp hQ hG hn;generalize hS:S0 Tryz.prog=S;refine qaa hS I.qig ?_;cbv;refine qnt hS rfl I.qez (by decide +kernel) ?_;cbv
  repeat' (refine And.intro ?_ ?_)
  all_goals
   repeat' (first|(refine qwn hS rfl ?_;try cbv)|(refine qaq hS c1 .rfl rfl ?_;cbv)|(refine qaq hS c2 .rfl rfl ?_;cbv)|(refine qbg hS c3 .rfl rfl rfl ?_;cbv)|(refine qaa hS I.qbc ?_;cbv)|(refine qag hS rfl I.qfd (by decide +kernel) ?_;cbv)|fail)
  all_goals first
   | exact .rfl
   | exact qbt rfl
   | exact qay rfl
theorem set_u {S:Sy}{bl:List Blk}{K:SV->List Blk->Prop}(hS:S0 Tryz.prog=S) {ps:List (Int×Int)}{Q:List SV}{qn:Int}(hQ:cellsP ps=Q) (hn:qn=ilen ps) (hl:qn<=2000) (hr:PrIn ps) (h:K (.b (ps.all prB)) bl):S.call 57 [stF Q qn] bl K:=qbg hS (qzamx hQ hn hl hr rfl) .rfl rfl rfl h
end Wg
end Cz
namespace Cz
open Go Go.RowKit Go.Proofs
namespace Wg
open Fa Wr
theorem prin_of {o:Ot}(ok:OtOk o):PrIn o.ps:=by
 intro i p h
 have:=ok.ps p (List.mem_of_getElem? h)
 omega
theorem dwp_of {o:Ot}(ok:OtOk o):DwP o:=by
 intro D dn Q qn Lf ln hN bl K h;have hpl:=ok.pl;have hlf:=ok.lf;have hq:qn<=2000:=by rw[hN.qn];omega
 have hf:=dwaits_f ok hN rfl (λbl K h=>by
   have e:=rusize_f (l:=o.li) rfl (by omega);rw[hN.l,<-hN.ln] at e;exact qbg rfl e .rfl rfl rfl h) (λbl K h=>set_u rfl hN.q hN.qn hq (prin_of ok) h)
 exact qbg rfl hf .rfl rfl rfl h
end Wg
end Cz
