/- What the claims of this group lean on: WfC. No condition. -/
import Derived.Test.YtfijlhdheiebcaaGreatDoorKB28
import Derived.Test.YtfijlhdheiebcaaGreatDoorKB33
set_option linter.unusedSimpArgs false
set_option linter.unusedVariables false
set_option maxRecDepth 100000
set_option maxHeartbeats 4000000
namespace Cz
open Go Go.RowKit Go.Proofs
namespace Wf
open Fa
open Wr in
theorem putB_eq (f:Fm):putB f=[ilen (payB f)/65536%256,ilen (payB f)/256%256,ilen (payB f)%256,f.k,f.fl,f.st/16777216%256,f.st/65536%256,f.st/256%256,f.st%256]++payB f:=by
 unfold putB;generalize ilen (payB f)=L;generalize payB f=P;have e1:L/256/256=L/65536:=by omega
 have e2:f.st/256/256=f.st/65536:=by omega
 have e3:f.st/65536/256=f.st/16777216:=by omega
 simp only[beB,List.nil_append,List.cons_append,e1,e2,e3]
open Wr in
theorem putB_len (f:Fm):ilen (putB f)=9+ilen (payB f):=by
 rw[putB_eq];unfold ilen;rw[List.length_append];simp only[List.length_cons,List.length_nil];omega
def hdV (L k fl st:Int):List SV:=[.i .u8 (.y (L/65536%256)),.i .u8 (.y (L/256%256)),.i .u8 (.y (L%256)),.i .u8 (.y k),.i .u8 (.y fl),.i .u8 (.y (st/16777216%256)),.i .u8 (.y (st/65536%256)),.i .u8 (.y (st/256%256)),.i .u8 (.y (st%256))]
open Wr in
theorem putB_cells (f:Fm):cellsB (putB f)=hdV (ilen (payB f)) f.k f.fl f.st++cellsB (payB f):=by
 rw[putB_eq,qex,qex,List.map_append];rfl
open Wr in
theorem fz_put {l':List Blk}{g:Nat->Nat}{ks:List (Option Nat)}{k:Nat}{lit:Bool}{st0 z:Z}{f:Fm}{X H G B:List SV}{bn:Int}{cap:Option Z}(hB:l'[k]?=some (.r false lit st0 1 X)) (hk:kpOf ks k=none) (hX:X=H++G) (hG:G=cellsB (payB f)) (hBB:cellsB (putB f)=B) (hbn:bn=ilen (putB f)) (hz:z.v=9+ilen (payB f)) (hH:SubL H (hdV (ilen (payB f)) f.k f.fl f.st)):Fz l' g ks (.sl k 1 (.l 0) z cap) (.v false 1 B (.y bn)):=by
 have hp:plains B=true:=hBB▸qbv _;refine .row hB hk (.fsub ?_ hp) hp (by rw[hz,<-putB_len];exact hbn.symm);have e:(X.drop ((Z.l 0).v.toNat*1)).take (z.v.toNat*1)=X:=by
  show (X.drop (0*1)).take (z.v.toNat*1)=X;rw[Nat.zero_mul,List.drop_zero,Nat.mul_one,List.take_of_length_le];rw[hX,hG,List.length_append];have h1:H.length=9:=(qyb hH).1.symm▸rfl;have h2:=qsg (payB f);unfold ilen at h2 hz;omega
 rw[e,hX,<-hBB,putB_cells,hG];exact qzafe (qyb hH) .rfl
theorem pay_0 {fl st:Int}{b:List Int}:Wr.payB ⟨0,fl,st,b,0,0,0,[]⟩=b:=rfl
section
variable {b:List Int}{D:List SV}{n st:Int}
theorem put_00 {B:List SV}{bn:Int}(hb:Hu.BOk b) (hD:cellsB b=D) (hn:n=ilen b) (h1:n<=16384) (hs:1<=st/\st<=2147483647) (hB:cellsB (Wr.putB ⟨0,0,st,b,0,0,0,[]⟩)=B) (hbn:bn=ilen (Wr.putB ⟨0,0,st,b,0,0,0,[]⟩)):
  (S0 Tryz.prog).call 44 [FQ 0 0 (.y st) (.v false 1 D (.y n)) (.l 0) (.l 0) (.l 0) n2] [] (Tell (.tp [.v false 1 B (.y bn),.i .i64 (.y 0)])):=by
 have hpl:plains D=true:=hD▸qbv b;have h0:=qaj b;rw[<-hn] at h0;generalize hS:S0 Tryz.prog=S;refine qaa hS I.qre ?_;cbv
 repeat' (first|(refine s_ck hS ?_;try cbv)|(refine qac hS ?_ ?_<;>intro h<;>(try cbv)<;>try exact s_ab h)|(refine qdd hS ?_;try cbv)|(refine qax hS ?_;cbv)|(refine qfw hS rfl rfl ?_;cbv)|(refine qbg hS (ok_00 hb hD hn h1 hs) .rfl rfl rfl ?_;cbv)|(refine qrx hS ?_;cbv)|(refine qaq hS (puts_00 hb hD hn h1) .rfl rfl ?_;cbv)|(refine qaa hS I.quy ?_;cbv)|(refine qaa hS I.qcw ?_;cbv)|(refine qaa hS I.qog ?_;cbv)|(refine qbq hS I.qjy ?_;cbv)|(refine qag hS rfl I.qje (by decide +kernel) ?_;cbv)|(refine qag hS rfl I.qls (by decide +kernel) ?_;cbv)|(refine qbd hS (c:=2147483648) rfl ?_;intro _ _;cbv)|(refine qbd hS (c:=16777216) rfl ?_;intro _ _;cbv)|(refine qbd hS (c:=65536) rfl ?_;intro _ _;cbv)|(refine qbd hS (c:=256) rfl ?_;intro _ _;cbv)|(refine qbd hS (c:=1) rfl ?_;intro _ _;cbv)|(refine s_c8 hS ?_;intro _ _;cbv)|fail)
 all_goals first
  | (exfalso;omega)
  | skip
 have eA:∀ A C:List SV,S.app A C=A++C:=λA C=>by subst hS;exact qfv
 have eP:S.pl (Int.ofNat 9) n=9+n:=by subst hS;rfl
 all_goals
  intro g;refine .tp (.cons (fz_put (f:=⟨0,0,st,b,0,0,0,[]⟩) rfl rfl (eA _ _) (by rw[pay_0];exact hD.symm) hB hbn (by rw[pay_0,<-hn];exact eP) ?_) (.cons (.sub (qau rfl) rfl) .nil));rw[pay_0,<-hn];unfold hdV;dsimp only
  repeat' (first|exact .nil|refine .cons ?_ ?_|exact qau rfl|(refine qau ?_;(focus (simp only[Z.v];omega)))|fail)
theorem put_01 {B:List SV}{bn:Int}(hb:Hu.BOk b) (hD:cellsB b=D) (hn:n=ilen b) (h1:n<=16384) (hs:1<=st/\st<=2147483647) (hB:cellsB (Wr.putB ⟨0,1,st,b,0,0,0,[]⟩)=B) (hbn:bn=ilen (Wr.putB ⟨0,1,st,b,0,0,0,[]⟩)):
  (S0 Tryz.prog).call 44 [FQ 0 1 (.y st) (.v false 1 D (.y n)) (.l 0) (.l 0) (.l 0) n2] [] (Tell (.tp [.v false 1 B (.y bn),.i .i64 (.y 0)])):=by
 have hpl:plains D=true:=hD▸qbv b;have h0:=qaj b;rw[<-hn] at h0;generalize hS:S0 Tryz.prog=S;refine qaa hS I.qre ?_;cbv
 repeat' (first|(refine s_ck hS ?_;try cbv)|(refine qac hS ?_ ?_<;>intro h<;>(try cbv)<;>try exact s_ab h)|(refine qdd hS ?_;try cbv)|(refine qax hS ?_;cbv)|(refine qfw hS rfl rfl ?_;cbv)|(refine qbg hS (ok_01 hb hD hn h1 hs) .rfl rfl rfl ?_;cbv)|(refine qrx hS ?_;cbv)|(refine qaq hS (puts_01 hb hD hn h1) .rfl rfl ?_;cbv)|(refine qaa hS I.quy ?_;cbv)|(refine qaa hS I.qcw ?_;cbv)|(refine qaa hS I.qog ?_;cbv)|(refine qbq hS I.qjy ?_;cbv)|(refine qag hS rfl I.qje (by decide +kernel) ?_;cbv)|(refine qag hS rfl I.qls (by decide +kernel) ?_;cbv)|(refine qbd hS (c:=2147483648) rfl ?_;intro _ _;cbv)|(refine qbd hS (c:=16777216) rfl ?_;intro _ _;cbv)|(refine qbd hS (c:=65536) rfl ?_;intro _ _;cbv)|(refine qbd hS (c:=256) rfl ?_;intro _ _;cbv)|(refine qbd hS (c:=1) rfl ?_;intro _ _;cbv)|(refine s_c8 hS ?_;intro _ _;cbv)|fail)
 all_goals first
  | (exfalso;omega)
  | skip
 have eA:∀ A C:List SV,S.app A C=A++C:=λA C=>by subst hS;exact qfv
 have eP:S.pl (Int.ofNat 9) n=9+n:=by subst hS;rfl
 all_goals
  intro g;refine .tp (.cons (fz_put (f:=⟨0,1,st,b,0,0,0,[]⟩) rfl rfl (eA _ _) (by rw[pay_0];exact hD.symm) hB hbn (by rw[pay_0,<-hn];exact eP) ?_) (.cons (.sub (qau rfl) rfl) .nil));rw[pay_0,<-hn];unfold hdV;dsimp only
  repeat' (first|exact .nil|refine .cons ?_ ?_|exact qau rfl|(refine qau ?_;(focus (simp only[Z.v];omega)))|fail)
end
end Wf
end Cz
