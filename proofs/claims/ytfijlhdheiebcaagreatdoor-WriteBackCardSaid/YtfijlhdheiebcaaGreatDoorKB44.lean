/- What the claims of this group lean on: WtI. No condition. -/
import Derived.Test.YtfijlhdheiebcaaGreatDoorKB36
set_option linter.unusedSimpArgs false
set_option linter.unusedVariables false
set_option maxRecDepth 100000
set_option maxHeartbeats 4000000
namespace Cz
open Go Go.RowKit Go.Proofs
namespace Wr
theorem change_6 {X X':Ln}{s:St}{t:Bool}{Fo Fo':List SV}{no no':Int}{Fr:List SV}{nr:Int}{Fz:List SV}{nz:Int}{Fs Fs':List SV}{ns ns' w w':Int}{D:List SV}{dn:Int}(hn:LnN X.os X.tr X.zs X.ss Fo no Fr nr Fz nz Fs ns) (hg:GdL X) (hw:w=wdI X.L) (hwt:∀ o∈X.os,WtP o) (ok:StOk s) (hD:cellsB s.o=D) (hdn:dn=ilen s.o)
  (hr:changeL X s=(X',t)) (hw':w'=wdI X'.L) (hFo':cellsO X'.os=Fo') (hno':no'=ilen X'.os) (hFs':cellsS X'.ss=Fs') (hns':ns'=ilen X'.ss) (he:X.os=[]) (h6:s.st=6) (hq1:stB s=true) {i:Nat}(hp:plI X.ss s.id=some i):
  (S0 Tryz.prog).call 35 [.ag (lnK Fo no X.tm Fr nr Fz nz X.se X.re X.ow Fs ns w X.H X.sh),.ag (stK s D dn)] [] (Tell (.tp [.ag (lnK Fo' no' X'.tm Fr nr Fz nz X'.se X'.re X'.ow Fs' ns' w' X'.H X'.sh),.b t])):=by
 obtain⟨f1,f2,f3,f4,f5,f6⟩:=hn.lo;have hrt:∀ (bl:List Blk) (K:SV->List Blk->Prop),K .tt bl->(S0 Tryz.prog).call 36 [.ag (lnK Fo no X.tm Fr nr Fz nz X.se X.re X.ow Fs ns w X.H X.sh)] bl K:=λbl K h=>qlr rfl hn hg hw hwt h;have hgd:=(change_gd hg ok).ss;have hss:=hg.ss;have hR:=hg.rd.r;have hse:=hg.se;have hns:=hn.sn;have hns8:ns<=8:=by rw[hns];exact hss.len
 have hsf:=hn.s;have hon:=hn.on;have hoo:=hn.o;have hofo:=hn.oo;have hnob:=hn.ob;clear hg hwt;rw[hr] at hgd;obtain⟨os,tm,tr,zs,se,re,ow,ss,L,H,sh⟩:=X;obtain⟨r,hpr⟩:∃ r,plR ss s.id=r:=⟨_,rfl⟩;have hpr':=hpr;unfold plR at hpr';unfold changeL setL at hr;dsimp only at *;have hbw:=qgi hse;have hst:=ok.st;have ok':=ok;unfold lnK at *;subst he;have hno0:no=0:=hon;obtain⟨s0,hs0,hsi⟩:=pl_at hp;rw[hp] at hr hpr';dsimp only at hr hpr';rw[hs0] at hr;dsimp only at hr;have hr0:0<=r:=by rw[<-hpr'];simp only[Int.ofNat_eq_natCast];omega
 have hri:r.toNat=i:=by rw[<-hpr'];rfl
 have hin:r<ns:=by have:=(List.getElem?_eq_some_iff.1 hs0).1;unfold ilen at hns;omega
 have ok0:=(hss.ok s0 (List.mem_of_getElem? hs0)).1;rw[<-hri] at hs0 hr;clear hpr';obtain⟨id,sst,sse,sre,sow,an,en,o,ur,ic,sl⟩:=s;dsimp only at h6;subst h6;have hq2:ansB 6=false:=rfl;dsimp only at hr;rw[hq1,hq2,if_neg (by rintro (h|⟨h,_⟩)<;>cases h)] at hr;obtain⟨id0,st0',se0,re0,ow0,an0,en0,o0,ur0,ic0,sl0⟩:=s0;dsimp only at *;cases hr;rw[if_pos rfl] at hFo' hno';dsimp only at hFs' hns' hw' hgd ⊢;obtain⟨⟨L1,H1⟩,hset⟩:∃ R3,settleR (L,H) (want (laidI ss r.toNat ⟨id0,st0',se0,re0,ow0,an0,en0,o0,ur0,ic0,sl0⟩ ⟨id,6,sse,sre,sow,an,en,o,ur,ic,sl⟩) se)=R3:=⟨_,rfl⟩;rw[hset] at hw' ⊢;dsimp only at hw' ⊢;obtain⟨ex,hex⟩:=laid_x ss r.toNat ⟨id0,st0',se0,re0,ow0,an0,en0,o0,ur0,ic0,sl0⟩ ⟨id,6,sse,sre,sow,an,en,o,ur,ic,sl⟩;obtain⟨Fx,hFx⟩:∃ F,cellsS (laidX ss r.toNat ⟨id0,st0',se0,re0,ow0,an0,en0,o0,ur0,ic0,sl0⟩ ⟨id,6,sse,sre,sow,an,en,o,ur,ic,sl⟩)=F:=⟨_,rfl⟩;have hfx:plains Fx=true:=hFx▸qak _;have f4':plains Fs'=true:=hFs'▸qak _;have f1':plains Fo'=true:=hFo'▸qdr _;have hpt:(Fx.drop ((Z.l 0).v.toNat*11)).take ((Z.y ns').v.toNat*11)=Fs':=by
  rw[<-hFx,hex,<-hFs',hns'];show ((cellsS (laidI ss r.toNat ⟨id0,st0',se0,re0,ow0,an0,en0,o0,ur0,ic0,sl0⟩ ⟨id,6,sse,sre,sow,an,en,o,ur,ic,sl⟩++ex)).drop (0*11)).take ((ilen (laidI ss r.toNat ⟨id0,st0',se0,re0,ow0,an0,en0,o0,ur0,ic0,sl0⟩ ⟨id,6,sse,sre,sow,an,en,o,ur,ic,sl⟩)).toNat*11)=_;rw[Nat.zero_mul,List.drop_zero];have hl:=qcq (laidI ss r.toNat ⟨id0,st0',se0,re0,ow0,an0,en0,o0,ur0,ic0,sl0⟩ ⟨id,6,sse,sre,sow,an,en,o,ur,ic,sl⟩);unfold cellsS at hl ⊢;rw[List.flatMap_append,List.take_append_of_le_length (by rw[hl];unfold ilen;simp),List.take_of_length_le (by rw[hl];unfold ilen;simp)]
 obtain rfl:Fo'=[]:=hFo'.symm;obtain rfl:no'=0:=hno';generalize hS:S0 Tryz.prog=S at *;refine qaa hS I.qzaho ?_;cbv
 repeat' (first|(refine qac hS ?_ ?_<;>intro h<;>(try cbv)<;>try exact s_ab h)|(refine qaa hS I.qav ?_;cbv)|(refine qkk hS (H:=H) hn ?_;intro st0;cbv)|(refine hrt _ _ ?_;cbv)|(refine qaa hS I.qzaam ?_;cbv)|(refine qag hS rfl I.qsi (by decide +kernel) ?_;cbv)|(refine at_y hS (k1:=5) (k2:=6) (H:=H) r rfl rfl f1 hsf hns (by omega) hpr ?_;cbv)|(refine qci hS ⟨id,6,sse,sre,sow,an,en,o,ur,ic,sl⟩ true ok' hD hdn hq1 ?_;cbv)|(refine qcd hS false hst hq2 ?_;cbv)|(refine lay_u hS 7 5 6 (s:=⟨id,6,sse,sre,sow,an,en,o,ur,ic,sl⟩) (off:=0) (H:=H) rfl rfl rfl rfl rfl s_qA hsf hns (by omega) hr0 hin hs0 ok' ok0 hD hdn hFx hns' f1 ?_;cbv)|(refine qnt hS rfl I.qsh (by decide +kernel) ?_;cbv;(repeat' (refine And.intro ?_ ?_))<;>cbv)|(refine qaa hS I.qgk ?_;cbv)|(refine qbq hS I.qel ?_;cbv)|(refine s_mu hS ?_;try cbv)|fail)
 all_goals
  as_aux_lemma=>
   refine qcf hS 10 0 7 (by decide) rfl rfl ?_;cbv;refine qad hS 15 I.qcj (λx:Int=>x=0) (λx=>[(7,.i .i64 (.y x))]) (λ_=>[]) (λ_=>0) 0 rfl ⟨rfl,rfl,?_,?_,by cbv⟩ ?_
   ·cbv;exact s_qA
   ·cbv;exact s_qA
   intro x hx;cbv;refine s_br hS ?_ ?_<;>intro h'<;>cbv<;>simp only[<-hS,Int.ofNat_eq_natCast,cq,Bool.not_eq_true',Bool.not_eq_false',decide_eq_true_eq,decide_eq_false_iff_not,beq_iff_eq,beq_eq_false_iff_ne,ne_eq] at h'
   ·exfalso;omega
   ·repeat' (first|(refine qio hS 7 14 6 (off:=0) (H:=H) (H':=H1) (ss:=laidI ss r.toNat ⟨id0,st0',se0,re0,ow0,an0,en0,o0,ur0,ic0,sl0⟩ ⟨id,6,sse,sre,sow,an,en,o,ur,ic,sl⟩) (sx:=laidX ss r.toNat ⟨id0,st0',se0,re0,ow0,an0,en0,o0,ur0,ic0,sl0⟩ ⟨id,6,sse,sre,sow,an,en,o,ur,ic,sl⟩) rfl rfl rfl rfl s_qA hgd hFx ⟨ex,hex⟩ hns' hbw hR hw hset hw' rfl ?_;cbv)|fail)
    all_goals first
     | (exfalso;omega)
     | (intro g;refine .tp ?_;repeat' (first|exact .nil|refine .cons ?_ ?_|refine .ag ?_|exact .sub .rfl rfl|exact qqb (n:=.y 0) (F:=[]) rfl rfl rfl rfl g|exact qqb (n:=.y ns') rfl hpt f4' rfl g|exact .sub (qay rfl) rfl))
end Wr
end Cz
