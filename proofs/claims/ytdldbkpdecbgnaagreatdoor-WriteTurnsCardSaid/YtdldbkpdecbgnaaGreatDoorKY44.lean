/- What the claims of this group lean on: WgH WhA WhP. No condition. -/
import Derived.Test.YtdldbkpdecbgnaaGreatDoorKY38
import Derived.Test.YtdldbkpdecbgnaaGreatDoorKY43
set_option linter.unusedSimpArgs false
set_option linter.unusedVariables false
set_option maxRecDepth 100000
set_option maxHeartbeats 4000000
namespace Cz
open Go Go.RowKit Go.Proofs
namespace Wr
open Fa Wg
section
variable {Fo:List SV}{no:Int}{Fr:List SV}{nr:Int}{Fz:List SV}{nz:Int}{Fs:List SV}{ns w:Int}
theorem find_y {X:Ln}{id r:Int}{s:St}{F:List SV}{n:Int}(hn:LnN X.os X.tr X.zs X.ss Fo no Fr nr Fz nz Fs ns) (hg:GdL X) (hw:w=wdI X.L) (hwt:∀ o∈X.os,WtP o) (hr:plR X.ss id=r) (hr0:0<=r) (hs:X.ss[r.toNat]?=some s) (ok:StOk s) (hF:cellsB s.o=F) (hN:n=ilen s.o):
  (S0 Tryz.prog).call 24 [.ag (lnK Fo no X.tm Fr nr Fz nz X.se X.re X.ow Fs ns w X.H X.sh),.i .i64 (.y id)] [] (Tell (.tp [.ag (stK s F n),.tt])):=by
 have hrt:∀ (bl:List Blk) (K:SV->List Blk->Prop),K .tt bl->(S0 Tryz.prog).call 29 [.ag (lnK Fo no X.tm Fr nr Fz nz X.se X.re X.ow Fs ns w X.H X.sh)] bl K:=λbl K h=>qlr rfl hn hg hw hwt h;have hsb:=hn.sb;have hrl:r<ns:=by
  have h1:=(List.getElem?_eq_some_iff.1 hs).1;have h2:=hn.sn;unfold ilen at h2;omega
 have hat:=at_f (Fo:=Fo) (no:=no) (tm:=X.tm) (Fr:=Fr) (nr:=nr) (Fz:=Fz) (nz:=nz) (se:=X.se) (re:=X.re) (ow:=X.ow) (w:=w) (H:=X.H) (sh:=X.sh) hn.s hn.sn (by omega) hr;have hsF:=hn.s;obtain⟨os,tm,tr,zs,se,re,ow,ss,L,H,sh⟩:=X;dsimp only at *;clear hg hw hwt hn;obtain⟨sid,st,sse,sre,sow,an,en,o,ur,ic,sl⟩:=s;dsimp only at hF hN;have hmk:=qdg ⟨sid,st,sse,sre,sow,an,en,o,ur,ic,sl⟩ hF hN;unfold lnK at *;unfold stK at *;dsimp only at *;generalize hS:S0 Tryz.prog=S at hrt ⊢;refine qaa hS I.qzaon ?_;cbv
 repeat' (first|(refine s_ck hS ?_;try cbv)|(refine qac hS ?_ ?_<;>intro h<;>(try cbv)<;>try exact s_ab h)|(refine qbg hS hat .rfl rfl rfl ?_;cbv)|(refine hrt _ _ ?_;cbv)|(refine qal hS (enc:=stC) (l:=ss) hsF hs (λ_=>rfl) hr0 (by omega) hmk ?_;cbv)|(refine qeq hS ⟨sid,st,sse,sre,sow,an,en,o,ur,ic,sl⟩ ok hF hN ?_;cbv)|fail)
 all_goals first
  | (exact λg=>.sub .rfl rfl)
theorem dfind_y {X:Ln}{id r:Int}{s:St}{F:List SV}{n:Int}(hn:LnN X.os X.tr X.zs X.ss Fo no Fr nr Fz nz Fs ns)
  (hdr:∀ (bl:List Blk) (K:SV->List Blk->Prop),K .tt bl->(S0 Tryz.prog).call 6 [.ag (lnK Fo no X.tm Fr nr Fz nz X.se X.re X.ow Fs ns w X.H X.sh)] bl K)
  (hr:plR X.ss id=r) (hr0:0<=r) (hs:X.ss[r.toNat]?=some s) (ok:StOk s) (hF:cellsB s.o=F) (hN:n=ilen s.o):
  (S0 Tryz.prog).call 10 [.ag (lnK Fo no X.tm Fr nr Fz nz X.se X.re X.ow Fs ns w X.H X.sh),.i .i64 (.y id)] [] (Tell (.tp [.ag (stK s F n),.tt])):=by
 have hsb:=hn.sb;have hrl:r<ns:=by
  have h1:=(List.getElem?_eq_some_iff.1 hs).1;have h2:=hn.sn;unfold ilen at h2;omega
 have hat:=dplc_f (Fo:=Fo) (no:=no) (tm:=X.tm) (Fr:=Fr) (nr:=nr) (Fz:=Fz) (nz:=nz) (se:=X.se) (re:=X.re) (ow:=X.ow) (w:=w) (H:=X.H) (sh:=X.sh) hn.s hn.sn (by omega) hr;have hsF:=hn.s;have how:=dsown_f ok hF hN;obtain⟨os,tm,tr,zs,se,re,ow,ss,L,H,sh⟩:=X;dsimp only at *;clear hn;obtain⟨sid,st,sse,sre,sow,an,en,o,ur,ic,sl⟩:=s;dsimp only at hF hN;have hmk:=qdg ⟨sid,st,sse,sre,sow,an,en,o,ur,ic,sl⟩ hF hN;unfold lnK at *;unfold stK at *;dsimp only at *;generalize hS:S0 Tryz.prog=S at hdr ⊢;refine qaa hS I.qvb ?_;cbv
 repeat' (first|(refine s_ck hS ?_;try cbv)|(refine qac hS ?_ ?_<;>intro h<;>(try cbv)<;>try exact s_ab h)|(refine qbg hS hat .rfl rfl rfl ?_;cbv)|(refine hdr _ _ ?_;cbv)|(refine qal hS (enc:=stC) (l:=ss) hsF hs (λ_=>rfl) hr0 (by omega) hmk ?_;cbv)|(refine qaq hS how .rfl rfl ?_;cbv)|fail)
 all_goals first
  | (exact λg=>.sub .rfl rfl)
theorem drt_u {X:Ln}(hn:LnN X.os X.tr X.zs X.ss Fo no Fr nr Fz nz Fs ns) (hg:GdL X) (hw:w=wdI X.L) (hok:∀ o∈X.os,OtOk o) (hw0:0<=w) (hw1:w<18446744073709551616) (bl:List Blk) (K:SV->List Blk->Prop) (h:K .tt bl):
  (S0 Tryz.prog).call 6 [.ag (lnK Fo no X.tm Fr nr Fz nz X.se X.re X.ow Fs ns w X.H X.sh)] bl K:=by
 have e:=dRight_f (tm:=X.tm) (se:=X.se) (re:=X.re) (ow:=X.ow) (H:=X.H) (sh:=X.sh) (w:=w) (t:=true) hn hw0 hw1 (λo ho=>dwp_of (hok o ho)) ⟨λ_=>⟨X.L,hw,hg⟩,λ_=>rfl⟩;exact qai (qae e λx _ hx=>⟨_,hx.trans (qbt rfl),.rfl⟩) rfl rfl h
end
end Wr
end Cz
namespace Cz
open Go Go.RowKit Go.Proofs
namespace Wr
section
variable {Fo:List SV}{no tm:Int}{Fr:List SV}{nr:Int}{Fz:List SV}{nz se re ow:Int}{Fs:List SV}{ns w:Int}{H:Nat->Int}{sh:Bool}{cut steps:Int}
theorem turns_a (hwk:∀ (bl:List Blk) (K:SV->List Blk->Prop),K .tt bl->(S0 Tryz.prog).call 7 [] bl K)
  (hgr:∀ (bl:List Blk) (K:SV->List Blk->Prop),K .tt bl->(S0 Tryz.prog).call 5 [.ag (lnK Fo no tm Fr nr Fz nz se re ow Fs ns w H sh)] bl K):
  (S0 Tryz.prog).call 3 [.ag (lnK Fo no tm Fr nr Fz nz se re ow Fs ns w H sh),.i .i64 (.y cut),.i .i64 (.y steps)] [] (λx _=>Sub x .tt):=by
 unfold lnK at *;generalize hS:S0 Tryz.prog=S at *;refine qaa hS I.qbh ?_;cbv
 repeat' (first|(refine hgr _ _ ?_;cbv)|(refine hwk _ _ ?_;cbv)|fail)
 all_goals exact .rfl
theorem turns_b (hwk:∀ (bl:List Blk) (K:SV->List Blk->Prop),K .tt bl->(S0 Tryz.prog).call 7 [] bl K)
  (hgr:∀ (bl:List Blk) (K:SV->List Blk->Prop),K .ff bl->(S0 Tryz.prog).call 5 [.ag (lnK Fo no tm Fr nr Fz nz se re ow Fs ns w H sh)] bl K)
  (hdr:∀ (bl:List Blk) (K:SV->List Blk->Prop),K .ff bl->(S0 Tryz.prog).call 6 [.ag (lnK Fo no tm Fr nr Fz nz se re ow Fs ns w H sh)] bl K):
  (S0 Tryz.prog).call 3 [.ag (lnK Fo no tm Fr nr Fz nz se re ow Fs ns w H sh),.i .i64 (.y cut),.i .i64 (.y steps)] [] (λx _=>Sub x .tt):=by
 unfold lnK at *;generalize hS:S0 Tryz.prog=S at *;refine qaa hS I.qbh ?_;cbv
 repeat' (first|(refine hgr _ _ ?_;cbv)|(refine hdr _ _ ?_;cbv)|(refine hwk _ _ ?_;cbv)|fail)
 all_goals exact .rfl
theorem turns_c (hwk:∀ (bl:List Blk) (K:SV->List Blk->Prop),K .tt bl->(S0 Tryz.prog).call 7 [] bl K)
  (hgr:∀ (bl:List Blk) (K:SV->List Blk->Prop),K .ff bl->(S0 Tryz.prog).call 5 [.ag (lnK Fo no tm Fr nr Fz nz se re ow Fs ns w H sh)] bl K)
  (hdr:∀ (bl:List Blk) (K:SV->List Blk->Prop),K .tt bl->(S0 Tryz.prog).call 6 [.ag (lnK Fo no tm Fr nr Fz nz se re ow Fs ns w H sh)] bl K)
  (hbad:sh=true∨(0<no∨cut<1∨steps<0∨40<steps)):
  (S0 Tryz.prog).call 3 [.ag (lnK Fo no tm Fr nr Fz nz se re ow Fs ns w H sh),.i .i64 (.y cut),.i .i64 (.y steps)] [] (λx _=>Sub x .tt):=by
 unfold lnK at *;cases sh
 all_goals
  generalize hS:S0 Tryz.prog=S at *;refine qaa hS I.qbh ?_;cbv
  repeat' (first|(refine qac hS ?_ ?_<;>intro h<;>(try cbv)<;>try exact s_ab h)|(refine hgr _ _ ?_;cbv)|(refine hdr _ _ ?_;cbv)|(refine hwk _ _ ?_;cbv)|fail)
  all_goals first
   | exact .rfl
   | (exfalso;rcases hbad with h'|h';(focus (cases h'));(focus omega))
end
end Wr
end Cz
namespace Cz
open Go Go.RowKit Go.Proofs
namespace Wr
theorem share_ids {X:Ln}(h:GdS X.ss) {KS:List Key}(hk:(shareS X).map key=KS) {j:Nat}{k:Key}(hj:KS[j]?=some k) {q:Int}(h0:0<=q) (hq:q<j):∃ y,(KS.map (·.1))[q.toNat]?=some y/\y≠k.1:=by
 have hp:((shareS X).map λs=>s.id).Pairwise λa b=>a<b:=h.srt.sublist (List.filter_sublist.map _);have e:KS.map (·.1)=(shareS X).map λs=>s.id:=by rw[<-hk,List.map_map];rfl
 have hl:=(List.getElem?_eq_some_iff.1 hj).1;have h1:q.toNat<(KS.map (·.1)).length:=by rw[List.length_map];omega
 have h2:j<(KS.map (·.1)).length:=by rw[List.length_map];exact hl
 refine⟨_,List.getElem?_eq_getElem h1,?_⟩;have h3:(KS.map (·.1))[j]=k.1:=by
  rw[List.getElem_map];rw[List.getElem?_eq_getElem hl] at hj;cases hj;rfl
 rw[<-h3];rw[<-e] at hp
 have:=List.pairwise_iff_getElem.1 hp q.toNat j h1 h2 (by omega)
 omega
theorem plR_at {ss:List St}(h:GdS ss) {r:Nat}{s:St}(hr:ss[r]?=some s):plR ss s.id=(r:Int):=by
 have e:plI ss s.id=some r:=qzang hr rfl (λj t hj ht e=>by
  have hp:=List.pairwise_iff_getElem.1 h.srt;obtain⟨h1,rfl⟩:=List.getElem?_eq_some_iff.1 hr;obtain⟨h2,rfl⟩:=List.getElem?_eq_some_iff.1 ht
  have:=hp j r (by rw[List.length_map];exact h2) (by rw[List.length_map];exact h1) hj
  rw[List.getElem_map,List.getElem_map] at this;omega)
 unfold plR;rw[e];rfl
theorem wd_range {X:Ln}(h:GdL X):0<=wdI X.L/\wdI X.L<18446744073709551616:=by
 obtain⟨_,_,a,b⟩:=qds h.rd.r.w.bd h.rd.r.w.len;exact⟨a,b⟩
theorem rep_sub (n:Nat):FSub (repS n [SV.i .i64 (.l 0)]) (cellsI (List.replicate n 0)):=by
 have e:repS n [SV.i .i64 (.l 0)]=List.replicate n (SV.i .i64 (.l 0)):=by
  induction n with
  | zero=>rfl
  | succ n ih=>rw[List.replicate_succ,<-ih];rfl
 have e2:cellsI (List.replicate n 0)=List.replicate n (SV.i .i64 (.y 0)):=by
  unfold cellsI;clear e
  induction n with
  | zero=>rfl
  | succ n ih=>rw[List.replicate_succ,List.flatMap_cons,ih];rfl
 rw[e,e2];refine⟨by rw[List.length_replicate,List.length_replicate],λq x hx=>?_⟩;have hq:=(List.getElem?_eq_some_iff.1 hx).1;rw[List.length_replicate] at hq;rw[List.getElem?_replicate_of_lt hq] at hx;cases hx;exact⟨_,List.getElem?_replicate_of_lt hq,λρ v d=>d⟩
end Wr
end Cz
