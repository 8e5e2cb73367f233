/- What the claims of this group lean on: WfB. No condition. -/
import Derived.Test.YtdldbkpdecbgnaaGreatDoorKY27
set_option linter.unusedSimpArgs false
set_option linter.unusedVariables false
set_option maxRecDepth 100000
set_option maxHeartbeats 4000000
namespace Cz
open Go Go.RowKit Go.Proofs
namespace Wf
open Fa
abbrev FQ (k fl:Int) (st:Z) (dat:SV) (la inc co:Z) (prs:SV):SV:=.ag [.i .u8 (.l k),.i .u8 (.l fl),.i .i64 st,dat,.i .i64 (.l 0),.i .i64 la,.i .i64 inc,.i .u32 co,prs,.ff,.ff,.i .i64 (.l 0),.i .u8 (.l 0)]
abbrev n1:SV:=.v true 1 [] (.l 0)
abbrev n2:SV:=.v true 2 [] (.l 0)
theorem s_c8 {S:Sy}{a:Int}{K:Int->Prop}(hS:S0 Tryz.prog=S) (h:∀ r,r=a%256->K r):S.cv .u8 a K:=by
 refine s_cve hS _ ?_ (h _ rfl);simp [IntKind.wrap,IntKind.bits,IntKind.signed]
theorem s_bsB {S:Sy}(hS:S0 Tryz.prog=S) {l:List Int}{F:List SV}{n:Int}{x:List UInt8}{K:List UInt8->Prop}(hb:Hu.BOk l) (hF:cellsB l=F) (hn:n=ilen l) (hx:l.map (λv=>UInt8.ofNat v.toNat)=x) (h:K x):S.bs F 0 n K:=by
 subst hS hF hn hx;refine⟨Int.le_refl _,qaj _,_,⟨by unfold ilen;simp,λq c hc=>?_⟩,h⟩;rw[List.getElem?_map] at hc;obtain⟨v,hv,rfl⟩:=Option.map_eq_some_iff.1 hc;refine⟨.y v,?_,?_⟩
 ·rw[show (0:Int).toNat+q=q by simp]
  exact cellsB_get hv
 ·have:=hb v (List.mem_of_getElem? hv)
  show v=_;simp only[UInt8.toNat_ofNat'];omega
theorem qzanc {k fl:Int}{st:Z}{ld lp:Bool}{D Ps:List SV}{dn pn:Z}{la inc co:Z}{of f1 f2:SV}{B:List SV}{lb:Bool}{bn:Z}{pt:FuncId}{t:Bool}{F:SV}(hF:F=FQ k fl st (.v ld 1 D dn) la inc co (.v lp 2 Ps pn))
  (hk:∀ (bl:List Blk) (K:SV->List Blk->Prop),K (.ag [of,f1,f2,.fn (.func pt) [] []]) bl->(S0 Tryz.prog).call 107 [.i .u8 (.l k)] bl K)
  (hp:∀ (bl:List Blk) (K:SV->List Blk->Prop),K (.v lb 1 B bn) bl->(S0 Tryz.prog).call pt [F] bl K)
  (hq:∀ (bl:List Blk) (K:SV->List Blk->Prop),K (.tp [F,.ag [.ff,.i .i64 (.l 0),.i .u32 (.l 0)]]) bl->(S0 Tryz.prog).call 150 [.ag [.i .i64 (.l 0),.i .u8 (.l k),.i .u8 (.l fl),.i .i64 st],.v lb 1 B bn] bl K)
  (hs:∀ (bl:List Blk) (K:SV->List Blk->Prop),K (.b t) bl->(S0 Tryz.prog).call 151 [F,F] bl K):
  (S0 Tryz.prog).call 81 [F] [] (λx _=>Sub x (.b t)):=by
 subst hF;generalize hS:S0 Tryz.prog=S at *;refine qaa hS I.qzakn ?_;cbv;refine qnt hS rfl I.qzp (by decide +kernel) ?_;cbv
 repeat' (refine And.intro ?_ ?_)
 all_goals
  repeat' (first|(refine hk _ _ ?_;cbv)|(refine hp _ _ ?_;cbv)|(refine hq _ _ ?_;cbv)|(refine hs _ _ ?_;cbv)|fail)
 all_goals first
  | exact .rfl
theorem known_0:(S0 Tryz.prog).call 107 [.i .u8 (.l 0)] [] (λx _=>Sub x (.ag [.i .i64 (.l 1),.fn (.func 199) [] [],.fn (.func 200) [] [],.fn (.func 201) [] []])):=by
 generalize hS:S0 Tryz.prog=S;refine qaa hS I.qef ?_;cbv
 repeat' (first|(refine qaa hS I.qeg ?_;cbv)|(refine qaa hS I.qed ?_;cbv)|(refine qaa hS I.qee ?_;cbv)|(refine qaa hS I.qfo ?_;cbv)|(refine s_lk hS ?_;try cbv)|(refine s_mu hS ?_;try cbv)|fail)
 all_goals first
  | exact qja (.cons .rfl (.cons .rfl (.cons .rfl (.cons .rfl .nil))))
theorem qrx {S:Sy}{bl:List Blk}{K:SV->List Blk->Prop}(hS:S0 Tryz.prog=S) (hK:K (.ag [.i .i64 (.l 1),.fn (.func 199) [] [],.fn (.func 200) [] [],.fn (.func 201) [] []]) bl):S.call 107 [.i .u8 (.l 0)] bl K:=qbg hS known_0 .rfl rfl rfl hK
section
variable {b:List Int}{D:List SV}{n st:Int}
theorem puts_00 (hb:Hu.BOk b) (hD:cellsB b=D) (hn:n=ilen b) (h1:n<=16384):(S0 Tryz.prog).call 201 [FQ 0 0 (.y st) (.v false 1 D (.y n)) (.l 0) (.l 0) (.l 0) n2] [] (Tell (.v false 1 D (.y n))):=by
 have hpl:plains D=true:=hD▸qbv b;generalize hS:S0 Tryz.prog=S;refine qaa hS I.qpg ?_;cbv
 repeat' (first|(refine Wr.qzapa hS hD hn (by omega) ?_;cbv)|(refine qaa hS I.qrc ?_;cbv)|(refine qag hS rfl I.qmq (by decide +kernel) ?_;cbv)|fail)
 all_goals
  intro g
  first
   | exact .sub .rfl rfl
theorem puts_01 (hb:Hu.BOk b) (hD:cellsB b=D) (hn:n=ilen b) (h1:n<=16384):(S0 Tryz.prog).call 201 [FQ 0 1 (.y st) (.v false 1 D (.y n)) (.l 0) (.l 0) (.l 0) n2] [] (Tell (.v false 1 D (.y n))):=by
 have hpl:plains D=true:=hD▸qbv b;generalize hS:S0 Tryz.prog=S;refine qaa hS I.qpg ?_;cbv
 repeat' (first|(refine Wr.qzapa hS hD hn (by omega) ?_;cbv)|(refine qaa hS I.qrc ?_;cbv)|(refine qag hS rfl I.qmq (by decide +kernel) ?_;cbv)|fail)
 all_goals
  intro g
  first
   | exact .sub .rfl rfl
theorem take_00 (hb:Hu.BOk b) (hD:cellsB b=D) (hn:n=ilen b) (h1:n<=16384) (hs:1<=st/\st<=2147483647):(S0 Tryz.prog).call 150 [.ag [.i .i64 (.l 0),.i .u8 (.l 0),.i .u8 (.l 0),.i .i64 (.y st)],.v false 1 D (.y n)] [] (Tell (.tp [FQ 0 0 (.y st) (.v false 1 D (.y n)) (.l 0) (.l 0) (.l 0) n2,.ag [.ff,.i .i64 (.l 0),.i .u32 (.l 0)]])):=by
 have hpl:plains D=true:=hD▸qbv b;have h0:=qaj b;rw[<-hn] at h0;generalize hS:S0 Tryz.prog=S;refine qaa hS I.qgn ?_;cbv
 repeat' (first|(refine qac hS ?_ ?_<;>intro h<;>(try cbv)<;>try exact s_ab h)|(refine qax hS ?_;cbv)|(refine qrx hS ?_;cbv)|(refine Wr.qzapa hS hD hn (by omega) ?_;cbv)|(refine qaa hS I.qcw ?_;cbv)|(refine qaa hS I.qgm ?_;cbv)|(refine qaa hS I.qfn ?_;cbv)|(refine qaa hS I.qph ?_;cbv)|(refine qaa hS I.qnb ?_;cbv)|(refine qaa hS I.qzahs ?_;cbv)|(refine qaa hS I.qfp ?_;cbv)|(refine qbq hS I.qdv ?_;cbv)|(refine qag hS rfl I.qdt (by decide +kernel) ?_;cbv)|(refine qbd hS (c:=2147483648) rfl ?_;intro _ _;cbv)|fail)
 all_goals first
  | (exfalso;omega)
  | skip
 all_goals
  intro g
  repeat' (first|exact .nil|refine .cons ?_ ?_|(refine .tp ?_)|(refine .ag ?_)|exact .sub .rfl rfl|exact .sub (qau rfl) rfl|exact .nil (by decide) rfl|exact qzasg rfl rfl rfl rfl rfl|fail)
theorem take_01 (hb:Hu.BOk b) (hD:cellsB b=D) (hn:n=ilen b) (h1:n<=16384) (hs:1<=st/\st<=2147483647):(S0 Tryz.prog).call 150 [.ag [.i .i64 (.l 0),.i .u8 (.l 0),.i .u8 (.l 1),.i .i64 (.y st)],.v false 1 D (.y n)] [] (Tell (.tp [FQ 0 1 (.y st) (.v false 1 D (.y n)) (.l 0) (.l 0) (.l 0) n2,.ag [.ff,.i .i64 (.l 0),.i .u32 (.l 0)]])):=by
 have hpl:plains D=true:=hD▸qbv b;have h0:=qaj b;rw[<-hn] at h0;generalize hS:S0 Tryz.prog=S;refine qaa hS I.qgn ?_;cbv
 repeat' (first|(refine qac hS ?_ ?_<;>intro h<;>(try cbv)<;>try exact s_ab h)|(refine qax hS ?_;cbv)|(refine qrx hS ?_;cbv)|(refine Wr.qzapa hS hD hn (by omega) ?_;cbv)|(refine qaa hS I.qcw ?_;cbv)|(refine qaa hS I.qgm ?_;cbv)|(refine qaa hS I.qfn ?_;cbv)|(refine qaa hS I.qph ?_;cbv)|(refine qaa hS I.qnb ?_;cbv)|(refine qaa hS I.qzahs ?_;cbv)|(refine qaa hS I.qfp ?_;cbv)|(refine qbq hS I.qdv ?_;cbv)|(refine qag hS rfl I.qdt (by decide +kernel) ?_;cbv)|(refine qbd hS (c:=2147483648) rfl ?_;intro _ _;cbv)|fail)
 all_goals first
  | (exfalso;omega)
  | skip
 all_goals
  intro g
  repeat' (first|exact .nil|refine .cons ?_ ?_|(refine .tp ?_)|(refine .ag ?_)|exact .sub .rfl rfl|exact .sub (qau rfl) rfl|exact .nil (by decide) rfl|exact qzasg rfl rfl rfl rfl rfl|fail)
theorem same_00 {fl:Int}(hb:Hu.BOk b) (hD:cellsB b=D) (hn:n=ilen b):(S0 Tryz.prog).call 151 [FQ 0 fl (.y st) (.v false 1 D (.y n)) (.l 0) (.l 0) (.l 0) n2,FQ 0 fl (.y st) (.v false 1 D (.y n)) (.l 0) (.l 0) (.l 0) n2] [] (λx _=>Sub x (.b true)):=by
 obtain⟨x,hx⟩:∃ x,b.map (λv=>UInt8.ofNat v.toNat)=x:=⟨_,rfl⟩;generalize hS:S0 Tryz.prog=S;refine qaa hS I.qoh ?_;cbv
 repeat' (first|(refine qwn hS rfl ?_;try cbv)|(refine qac hS ?_ ?_<;>intro h<;>(try cbv)<;>try exact s_ab h)|(refine qax hS ?_;cbv)|(refine s_bsB hS hb hD hn hx ?_;cbv)|(refine qaa hS I.qgo ?_;cbv)|(refine qaa hS I.qch ?_;cbv)|fail)
 all_goals first
  | exact qay rfl
theorem ok_00 (hb:Hu.BOk b) (hD:cellsB b=D) (hn:n=ilen b) (h1:n<=16384) (hs:1<=st/\st<=2147483647):(S0 Tryz.prog).call 81 [FQ 0 0 (.y st) (.v false 1 D (.y n)) (.l 0) (.l 0) (.l 0) n2] [] (λx _=>Sub x (.b true)):=
 qzanc rfl (λbl K h=>qrx rfl h) (λbl K h=>qaq rfl (puts_00 hb hD hn h1) .rfl rfl h) (λbl K h=>qaq rfl (take_00 hb hD hn h1 hs) .rfl rfl h) (λbl K h=>qbg rfl (same_00 hb hD hn) .rfl rfl rfl h)
theorem ok_01 (hb:Hu.BOk b) (hD:cellsB b=D) (hn:n=ilen b) (h1:n<=16384) (hs:1<=st/\st<=2147483647):(S0 Tryz.prog).call 81 [FQ 0 1 (.y st) (.v false 1 D (.y n)) (.l 0) (.l 0) (.l 0) n2] [] (λx _=>Sub x (.b true)):=
 qzanc rfl (λbl K h=>qrx rfl h) (λbl K h=>qaq rfl (puts_01 hb hD hn h1) .rfl rfl h) (λbl K h=>qaq rfl (take_01 hb hD hn h1 hs) .rfl rfl h) (λbl K h=>qbg rfl (same_00 hb hD hn) .rfl rfl rfl h)
end
end Wf
end Cz
