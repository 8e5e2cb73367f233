/- What the claims of this group lean on: WrX. No condition. -/
import Derived.Test.YtfijlhdheiebcaaGreatDoorKB22
set_option linter.unusedSimpArgs false
set_option linter.unusedVariables false
set_option maxRecDepth 100000
set_option maxHeartbeats 4000000
namespace Cz
open Go Go.RowKit Go.Proofs
namespace Wr
section
variable {S:Sy}{l:List Blk}{K:SV->List Blk->Prop}
theorem dwr_n (hS:S0 Tryz.prog=S) {w:Int}(h0:0<=w) (h1:w<18446744073709551616) (hn:∀ L,Good L->w≠wdI L) (h:K .ff l):S.call 127 [.i .u64 (.y w)] l K:=by
 subst hS;refine qai (qae (dwr_f (t:=false) h0 h1 rfl rfl ⟨λe=>(by cases e),λe=>?_⟩) λx _ hx=>⟨.ff,hx.trans (qkt rfl),.rfl⟩) rfl rfl h;refine absurd e.1.symm (hn _ (pr_good (qzawf _ _) ?_ e.2));unfold ilen;rw[qok];omega
theorem qzawg (hS:S0 Tryz.prog=S) {L:List (Int×Int)}{w s:Int}(k:Int) (t:Bool) (hL:Good L) (hw:w=wdI L) (hk:findK L s=k) (ht:findB L s=t) (h:K (.tp [.i .i64 (.y k),.b t]) l):S.call 128 [.i .u64 (.y w),.i .i64 (.y s)] l K:=by
 subst hS;exact qai (qae (dfind_f hL hw hk ht) λx _ hx=>⟨_,hx,.rfl⟩) rfl rfl h
theorem qzafi (hS:S0 Tryz.prog=S) {H:Nat->Int}{w s:Int}(k:Int) (hs:0<=s/\s<=7) (hk:hldI H s=k) (h:K (.i .i64 (.y k)) l):S.call 130 [.ag (rdyC w H),.i .i64 (.y s)] l K:=by
 subst hS;exact qai (qae (dholds_f hs hk) λx _ hx=>⟨_,hx,.rfl⟩) rfl rfl h
end
theorem hok_next {L:List (Int×Int)}{H:Nat->Int}{x r:Int}(h0:0<=x) (hr:r=x+1) (g:HOk L H x.toNat) (h:H x.toNat=-1∨(findB L (H x.toNat)=false/\(0<=H x.toNat/\H x.toNat<=7)/\hldI H (H x.toNat)=x)):HOk L H r.toNat:=by
 intro u hu;by_cases e:u=x.toNat
 ·subst e
  rcases h with h|⟨h1,h2,h3⟩
  ·exact .inl h
  ·exact .inr ⟨h1,h2,by rw[h3];simp only[Int.ofNat_eq_natCast];omega⟩
 ·exact g u (by omega)
theorem drr_f {L:List (Int×Int)}{H:Nat->Int}{w:Int}{t:Bool}(hL:Good L) (hw:w=wdI L) (ht:t=true↔HOk L H 8):
  (S0 Tryz.prog).call 63 [rdyV w H] [] (λx _=>Sub x (.b t)):=by
 have hff:∀ u,u<8->¬ (H u=-1∨(findB L (H u)=false/\(0<=H u/\H u<=7)/\hldI H (H u)=Int.ofNat u))->t=false:=λu hu h=>Bool.eq_false_iff.2 λe=>h (ht.1 e u hu);unfold rdyV rdyC;generalize hS:S0 Tryz.prog=S;refine qaa hS I.qid ?_;cbv
 repeat' (first|(refine dwr_u hS hL hw ?_;cbv)|fail)
 refine qad hS 1 I.qnh (λx:Int=>0<=x/\x<=8/\HOk L H x.toNat) (λx=>[(3,.i .i64 (.y x))]) (λ_=>[]) (λx=>(8-x).toNat) 0 rfl ⟨⟨Int.le_refl _,by decide,λu hu=>by omega⟩,rfl,?_,?_,by cbv⟩ ?_
 ·cbv;exact s_qA
 ·cbv;exact s_qA
 intro x hx;cbv;obtain⟨g0,g1,g2⟩:=hx;refine s_br hS ?_ ?_<;>intro h'<;>cbv<;>simp only[<-hS,Int.ofNat_eq_natCast,cq,Bool.not_eq_true',Bool.not_eq_false',decide_eq_true_eq,decide_eq_false_iff_not,beq_iff_eq,beq_eq_false_iff_ne,ne_eq] at h'
 ·obtain⟨k,hk⟩:∃ k,findK L (H x.toNat)=k:=⟨_,rfl⟩
  obtain⟨b,hb⟩:∃ b,findB L (H x.toNat)=b:=⟨_,rfl⟩;obtain⟨q,hq⟩:∃ q,hldI H (H x.toNat)=q:=⟨_,rfl⟩;have hno:¬ (H x.toNat=-1∨(b=false/\(0<=H x.toNat/\H x.toNat<=7)/\q=x))->t=false:=λh=>hff x.toNat (by omega) λe=>h (e.imp id λe=>⟨hb▸e.1,e.2.1,by rw[<-hq,e.2.2];simp only[Int.ofNat_eq_natCast];omega⟩);have hyes:∀ r,r=x+1->(H x.toNat=-1∨(b=false/\(0<=H x.toNat/\H x.toNat<=7)/\q=x))->HOk L H r.toNat:=λr hr h=>hok_next g0 hr g2 (by rw[hb,hq];exact h);obtain⟨c,hc⟩:∃ c,x.toNat=c:=⟨_,rfl⟩;have hxc:(c=0/\x=0)∨(c=1/\x=1)∨(c=2/\x=2)∨(c=3/\x=3)∨(c=4/\x=4)∨(c=5/\x=5)∨(c=6/\x=6)∨(c=7/\x=7):=by omega
  rw[hc] at hk hb hq hno hyes;clear g2 hc;rcases hxc with ⟨rfl,rfl⟩|⟨rfl,rfl⟩|⟨rfl,rfl⟩|⟨rfl,rfl⟩|⟨rfl,rfl⟩|⟨rfl,rfl⟩|⟨rfl,rfl⟩|⟨rfl,rfl⟩
  all_goals
   repeat' (first|(refine s_ck hS ?_;try cbv)|(refine qac hS ?_ ?_<;>intro h<;>(try cbv)<;>try exact s_ab h)|(refine s_ad hS ?_;intro _ _;try cbv)|(refine qzawg hS k b hL hw hk hb ?_;cbv)|(refine qzafi hS (H:=H) q ⟨by omega,by omega⟩ hq ?_;cbv)|(refine qaa hS I.qgw ?_;cbv)|fail)
   all_goals first
    | (rename_i r e;exact⟨r,by omega,⟨by omega,by omega,hyes r (by omega) (by first|(exact .inl (by omega))|(exact .inr ⟨by assumption,⟨by omega,by omega⟩,by omega⟩))⟩,rfl,by cbv;exact s_qA,by cbv;exact s_qA,by cbv⟩)
    | (refine qao (hno ?_);rintro (e|⟨e1,e2,e3⟩)<;>first|omega|(simp_all;done))
 ·skip
  refine qay (ht.2 ?_)
  have:x=8:=by omega
  subst this;exact g2
theorem drr_n {H:Nat->Int}{w:Int}(h0:0<=w) (h1:w<18446744073709551616) (hn:∀ L,Good L->w≠wdI L):
  (S0 Tryz.prog).call 63 [rdyV w H] [] (λx _=>Sub x .ff):=by
 unfold rdyV rdyC;generalize hS:S0 Tryz.prog=S;refine qaa hS I.qid ?_;cbv
 repeat' (first|(refine dwr_n hS h0 h1 hn ?_;cbv)|fail)
 all_goals exact s_qA
section
variable {S:Sy}{l:List Blk}{K:SV->List Blk->Prop}
theorem drr_u (hS:S0 Tryz.prog=S) {L:List (Int×Int)}{H:Nat->Int}{w:Int}(hR:GoodR L H) (hw:w=wdI L) (h:K .tt l):S.call 63 [.ag (rdyC w H)] l K:=by
 subst hS;exact qai (qae (drr_f (t:=true) hR.w hw ⟨λ_=>qzase hR,λ_=>rfl⟩) λx _ hx=>⟨.tt,hx.trans (qbt rfl),.rfl⟩) rfl rfl h
theorem drr_w (hS:S0 Tryz.prog=S) {H:Nat->Int}{w:Int}(t:Bool) (h0:0<=w) (h1:w<18446744073709551616) (ht:t=true↔∃ L,GoodR L H/\w=wdI L) (h:K (.b t) l):S.call 63 [.ag (rdyC w H)] l K:=by
 subst hS;by_cases hg:∃ L,Good L/\w=wdI L
 ·obtain⟨L,hL,hw⟩:=hg
  refine qai (qae (drr_f (t:=t) hL hw ⟨λe=>?_,λe=>ht.2 ⟨L,good_to hL e,hw⟩⟩) λx _ hx=>⟨_,hx,.rfl⟩) rfl rfl h;obtain⟨L',hR,hw'⟩:=ht.1 e
  have:L'=L:=by
   have e1:=qzaaw hL.bd hL.len;have e2:=qzaaw hR.w.bd hR.w.len;have l1:=(qds hL.bd hL.len).1;have l2:=(qds hR.w.bd hR.w.len).1;rw[<-hw] at e1 l1;rw[<-hw'] at e2 l2
   have:L'.length=L.length:=by unfold ilen at l1 l2;omega
   rw[this] at e2;rw[<-e1,e2]
  subst this;exact qzase hR
 ·have hf:t=false:=Bool.eq_false_iff.2 λe=>by
   obtain⟨L,hR,hw⟩:=ht.1 e;exact hg ⟨L,hR.w,hw⟩
  subst hf;refine qai (qae (drr_n (H:=H) h0 h1 λL hL hw=>hg ⟨L,hL,hw⟩) λx _ hx=>⟨.b false,hx.trans (qao rfl),.rfl⟩) rfl rfl h
end
theorem dof_f {L:List (Int×Int)}{H:Nat->Int}{w s k:Int}{t:Bool}(hR:GoodR L H) (hw:w=wdI L) (hs:0<=s/\s<=7) (hk:ofK (allR L H) s=k) (ht:ofB (allR L H) s=t):
  (S0 Tryz.prog).call 64 [rdyV w H,.i .i64 (.y s)] [] (λx _=>Sub x (.tp [.i .i64 (.y k),.b t])):=by
 obtain⟨q,hq⟩:∃ q,hldI H s=q:=⟨_,rfl⟩;obtain⟨b,hb⟩:∃ b,findB L s=b:=⟨_,rfl⟩;obtain⟨j,hj⟩:∃ j,findK L s=j:=⟨_,rfl⟩;have hL:=hR.w;have hqc:q=-1∨0<=q:=by
  rcases qzalg hq with ⟨e,_⟩|⟨c,_,e,_⟩
  ·exact .inl e
  ·exact .inr (by rw[e];simp)
 have h1:0<=q->k=q/\t=true:=λh=>by
  rcases qzalg hq with ⟨e,_⟩|⟨c,c0,e,c1,_⟩
  ·omega
  ·have:=of_held hR c0 c1 hs.1
   rw[<-hk,<-ht,this.1,e];exact⟨rfl,this.2⟩
 have h2:q=-1->b=true->∃ u,L[j.toNat]?=some (s,u)/\0<=j/\k=u/\t=true:=λh e=>by
  rcases qzalg hq with ⟨_,hn⟩|⟨c,c0,e,c1,_⟩
  ·rw[e] at hb
   obtain⟨c,u,f1,f2⟩:=find_at hb
   have:=of_word hR hn hb f1 f2
   rw[hj] at f1;subst f1;exact⟨u,f2,by simp,by rw[<-hk,this.1],by rw[<-ht,this.2]⟩
  ·rw[h] at e
   exact absurd e (by simp only[Int.ofNat_eq_natCast];omega)
 have h3:q=-1->b=false->k=0/\t=false:=λh e=>by
  rcases qzalg hq with ⟨_,hn⟩|⟨c,c0,e,c1,_⟩
  ·rw[e] at hb
   have:=of_none hR hs.1 hn hb
   rw[<-hk,<-ht];exact this
  ·rw[h] at e
   exact absurd e (by simp only[Int.ofNat_eq_natCast];omega)
 clear hk ht;unfold rdyV rdyC;generalize hS:S0 Tryz.prog=S;refine qaa hS I.qzaar ?_;cbv;rcases hqc with e|e
 ·cases b with
  | true=>
   obtain⟨u,u1,u2,u3,u4⟩:=h2 e rfl;subst u3 u4
   repeat' (first|(refine qac hS ?_ ?_<;>intro h<;>(try cbv)<;>try exact s_ab h)|(refine drr_u hS (H:=H) hR hw ?_;cbv)|(refine qzafi hS (H:=H) q hs hq ?_;cbv)|(refine qzawg hS j true hL hw hj hb ?_;cbv)|(refine dat_u hS hL hw u2 u1 ?_;cbv)|fail)
   all_goals first
    | (exfalso;omega)
    | exact s_qA
  | false=>
   obtain⟨u3,u4⟩:=h3 e rfl;subst u3 u4
   repeat' (first|(refine qac hS ?_ ?_<;>intro h<;>(try cbv)<;>try exact s_ab h)|(refine drr_u hS (H:=H) hR hw ?_;cbv)|(refine qzafi hS (H:=H) q hs hq ?_;cbv)|(refine qzawg hS j false hL hw hj hb ?_;cbv)|fail)
   all_goals first
    | (exfalso;omega)
    | exact s_qA
 ·obtain⟨u3,u4⟩:=h1 e
  subst u3 u4
  repeat' (first|(refine qac hS ?_ ?_<;>intro h<;>(try cbv)<;>try exact s_ab h)|(refine drr_u hS (H:=H) hR hw ?_;cbv)|(refine qzafi hS (H:=H) k hs hq ?_;cbv)|fail)
  all_goals first
   | (exfalso;omega)
   | exact s_qA
section
variable {S:Sy}{l:List Blk}{K:SV->List Blk->Prop}
theorem dof_u (hS:S0 Tryz.prog=S) {L:List (Int×Int)}{H:Nat->Int}{w s:Int}(k:Int) (t:Bool) (hR:GoodR L H) (hw:w=wdI L) (hs:0<=s/\s<=7) (hk:ofK (allR L H) s=k) (ht:ofB (allR L H) s=t) (h:K (.tp [.i .i64 (.y k),.b t]) l):S.call 64 [.ag (rdyC w H),.i .i64 (.y s)] l K:=by
 subst hS;exact qai (qae (dof_f hR hw hs hk ht) λx _ hx=>⟨_,hx,.rfl⟩) rfl rfl h
end
end Wr
end Cz
