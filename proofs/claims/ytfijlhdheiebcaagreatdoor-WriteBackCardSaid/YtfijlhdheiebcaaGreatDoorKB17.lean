/- What the claims of this group lean on: Wr6 Wr7 Wr8 WrE WrF. No condition. -/
import Derived.Test.YtfijlhdheiebcaaGreatDoorKB16
set_option linter.unusedSimpArgs false
set_option linter.unusedVariables false
set_option maxRecDepth 100000
set_option maxHeartbeats 4000000
namespace Cz
open Go Go.RowKit Go.Proofs
namespace Wr
def rdyC (w:Int) (H:Nat->Int):List SV:=[.i .u64 (.y w),.i .i64 (.y (H 0)),.i .i64 (.y (H 1)),.i .i64 (.y (H 2)),.i .i64 (.y (H 3)),.i .i64 (.y (H 4)),.i .i64 (.y (H 5)),.i .i64 (.y (H 6)),.i .i64 (.y (H 7))]
def rdyV (w:Int) (H:Nat->Int):SV:=.ag (rdyC w H)
theorem qzana {L:List (Int×Int)}{H:Nat->Int}{w:Int}(hR:GoodR L H) (hw:w=wdI L):
  (S0 Tryz.prog).call 80 [rdyV w H] [] (λx _=>Sub x .tt):=by
 have hL:=hR.w;obtain⟨F,hF⟩:∃ F:Nat->List SV,(λu=>cellsI (rowU L u))=F:=⟨_,rfl⟩;obtain⟨m,hm⟩:∃ m:Nat->Int,(λu=>ilen (rowU L u))=m:=⟨_,rfl⟩;have hrow:rowsV L=.ag [.v false 1 (F 0) (.y (m 0)),.v false 1 (F 1) (.y (m 1)),.v false 1 (F 2) (.y (m 2)),.v false 1 (F 3) (.y (m 3)),.v false 1 (F 4) (.y (m 4)),.v false 1 (F 5) (.y (m 5)),.v false 1 (F 6) (.y (m 6)),.v false 1 (F 7) (.y (m 7))]:=by subst hF hm;rfl
 have hm0:∀ u,0<=m u/\m u<=8:=λu=>by subst hm;have h1:=qzage L u;have h2:=hL.len;exact⟨qaj _,by dsimp only;omega⟩
 unfold rdyV rdyC;generalize hS:S0 Tryz.prog=S;refine qaa hS I.qyi ?_;cbv
 repeat' (first|(refine qrn hS hw hL ?_;cbv)|fail)
 refine qad hS 2 I.qzaba (λx:Int=>0<=x/\x<=8) (λx=>[(13,.i .i64 (.y x))]) (λ_=>[]) (λx=>(8-x).toNat) 0 rfl ⟨⟨Int.le_refl _,by decide⟩,rfl,?_,?_,by cbv⟩ ?_
 ·cbv;all_goals exact s_sA
 ·cbv;all_goals exact s_bA
 ·intro x hx
  cbv;obtain⟨g0,g1⟩:=hx;refine qac hS ?_ ?_<;>intro h<;>cbv
  ·obtain⟨c,hc⟩:∃ c,x.toNat=c:=⟨_,rfl⟩
   obtain⟨hh,hhe⟩:∃ v,H c=v:=⟨_,rfl⟩;have hbd:=hR.held c (by omega);rw[hhe] at hbd
   repeat' (first|(refine qac hS ?_ ?_<;>intro h<;>(try cbv)<;>try exact s_ab h)|(refine s_ad hS ?_;intro _ _;try cbv)|(refine qzadf hS (λk=>.i .i64 (.y (H k))) (v:=.i .i64 (.y hh)) rfl g0 h hc (by rw[<-hhe]) rfl ?_;cbv)|(refine qaa hS I.qdb ?_;cbv)|(refine qbd hS (c:=8) rfl ?_;intro _ _;cbv)|fail)
   ·rename_i r1 e1 r2 e2
    exact⟨r2,by omega,⟨by omega,by omega⟩,rfl,by cbv;all_goals exact s_sA,by cbv;all_goals exact s_bA,by cbv⟩
   ·rename_i r1 e1
    exact⟨r1,by omega,⟨by omega,by omega⟩,rfl,by cbv;all_goals exact s_sA,by cbv;all_goals exact s_bA,by cbv⟩
  ·repeat' (first|(refine qaa hS I.qjw ?_;cbv)|(refine qbq hS I.qfm ?_;cbv)|(refine qzalt hS hw hL hrow ?_;cbv)|fail)
   refine qad hS 6 I.qdw (λx:Int×(Nat->Bool)=>0<=x.1/\x.1<=8/\∀ q:Nat,(∀ y∈allT L H x.1.toNat,y.1≠Int.ofNat q)->x.2 q=false) (λx=>[(13,.i .i64 (.y x.1))])
    (λx=>[(1,.c [.b (x.2 0),.b (x.2 1),.b (x.2 2),.b (x.2 3),.b (x.2 4),.b (x.2 5),.b (x.2 6),.b (x.2 7)])]) (λx=>(8-x.1).toNat) (0,λ_=>false) rfl ⟨⟨Int.le_refl _,by decide,λq _=>rfl⟩,rfl,?_,?_,by cbv⟩ ?_
   ·cbv;exact s_qA
   ·cbv;exact s_qA
   intro x';obtain⟨x',g⟩:=x';intro hx';dsimp only at hx';cbv;obtain⟨k0,k1,k2⟩:=hx';refine s_br hS ?_ ?_<;>intro h'<;>cbv<;>simp only[<-hS,Int.ofNat_eq_natCast,cq,Bool.not_eq_true',Bool.not_eq_false',decide_eq_true_eq,decide_eq_false_iff_not,beq_iff_eq,beq_eq_false_iff_ne,ne_eq] at h'
   ·obtain⟨c,hc⟩:∃ c,x'.toNat=c:=⟨_,rfl⟩
    obtain⟨hh,hhe⟩:∃ v,H c=v:=⟨_,rfl⟩;have hbd:=hR.held c (by omega);rw[hhe] at hbd;obtain⟨Fc,hFc⟩:∃ v,F c=v:=⟨_,rfl⟩;obtain⟨mc,hmc⟩:∃ v,m c=v:=⟨_,rfl⟩;have hmb:=hm0 c;rw[hmc] at hmb;rw[hc] at k2;have hgf:0<=hh->g hh.toNat=false:=λh0=>by
     obtain⟨R,hRR⟩:=pre_h (L:=L) (H:=H) (k:=c) (by omega) (by rw[hhe];exact h0)
     have:=nd_new hR.nd hRR
     exact k2 _ λy hy e=>this y hy (by rw[e,hhe];exact Int.toNat_of_nonneg h0)
    obtain⟨c1,hc1⟩:∃ g1:Nat->SV,∀ k,g1 k=if k=hh.toNat then .tt else .b (g k):=⟨_,λ_=>rfl⟩
    obtain⟨g1,hg1⟩:∃ g1:Nat->Bool,∀ k,g1 k=if k=hh.toNat then true else g k:=⟨_,λ_=>rfl⟩
    have hsc:=qzamo hc1 hg1
    repeat' (first|(refine s_ck hS ?_;try cbv)|(refine qac hS ?_ ?_<;>intro h<;>(try cbv)<;>try exact s_ab h)|(refine qzadf hS (λk=>.i .i64 (.y (H k))) (v:=.i .i64 (.y hh)) rfl k0 h' hc (by rw[<-hhe]) rfl ?_;cbv)|(refine qfw hS rfl rfl ?_;cbv)|(refine qzadf hS (λk=>.b (g k)) (i:=hh) (c:=hh.toNat) (v:=.b false) rfl (by omega) (by omega) rfl (by rw[hgf (by omega)]) rfl ?_;cbv)|(refine s_wr8 hS (λk=>.b (g k)) c1 (i:=hh) (v:=.tt) rfl (by omega) (by omega) hc1 rfl ?_;cbv)|(refine qzadf hS (λk=>.v false 1 (F k) (.y (m k))) (i:=x') (v:=.v false 1 Fc (.y mc)) rfl k0 h' hc (by rw[<-hFc,<-hmc]) rfl ?_;cbv)|fail)
    ·have hpc:∀ q:Nat,(∀ y∈pre L H c 0,y.1≠Int.ofNat q)->g1 q=false:=λq hq=>by
      rw[qzavg] at hq;have h1:=k2 q λy hy=>hq y (List.mem_append_left _ hy);unfold hldU at hq;rw[if_pos (by omega)] at hq;have h2:=hq (H c,Int.ofNat c) (by simp);rw[hg1,if_neg (by intro e;exact h2 (by rw[hhe,e];exact (Int.toNat_of_nonneg (by omega)).symm))];exact h1
     refine qad hS 6 I.qbm (λx:Int×(Nat->Bool)=>0<=x.1/\x.1<=mc/\∀ q:Nat,(∀ y∈pre L H c x.1.toNat,y.1≠Int.ofNat q)->x.2 q=false) (λx=>[(30,.i .i64 (.y x.1))])
      (λx=>[(1,.c [.b (x.2 0),.b (x.2 1),.b (x.2 2),.b (x.2 3),.b (x.2 4),.b (x.2 5),.b (x.2 6),.b (x.2 7)])]) (λx=>(mc-x.1).toNat) (0,g1) rfl ⟨⟨Int.le_refl _,by dsimp only;omega,hpc⟩,rfl,?_,?_,by cbv⟩ ?_
     ·cbv;exact s_qA
     ·cbv;(repeat' (first|exact trivial|exact SubB.rfl|refine And.intro ?_ ?_|refine SubB.c ?_|exact SubL.nil|refine SubL.cons ?_ ?_|exact hsc _|exact qau rfl|exact Sub.rfl))
     clear hpc;intro z;obtain⟨j,Q⟩:=z;intro hz;dsimp only at hz;cbv;obtain⟨j0,j1,j2⟩:=hz;refine qac hS ?_ ?_<;>intro hj<;>cbv
     ·have hrl:ilen (rowU L c)=mc:=by rw[<-hmc,<-hm]
      have hrc:cellsI (rowU L c)=Fc:=by rw[<-hFc,<-hF]
      obtain⟨s,hs⟩:=qbi (l:=rowU L c) (i:=j) (by omega) j0;have hsb:=row_bd hL hs;have hQ:Q s.toNat=false:=by
       obtain⟨R,hRR⟩:=pre_r (L:=L) (H:=H) (k:=c) (by omega) hs
       have:=nd_new hR.nd hRR
       exact j2 _ λy hy e=>this y hy (by rw[e];exact Int.toNat_of_nonneg hsb.1)
      obtain⟨c2,hc2⟩:∃ g1:Nat->SV,∀ k,g1 k=if k=s.toNat then .tt else .b (Q k):=⟨_,λ_=>rfl⟩
      obtain⟨g2,hg2⟩:∃ g1:Nat->Bool,∀ k,g1 k=if k=s.toNat then true else Q k:=⟨_,λ_=>rfl⟩
      have hsc2:=qzamo hc2 hg2
      repeat' (first|(refine s_ck hS ?_;try cbv)|(refine qac hS ?_ ?_<;>intro h<;>(try cbv)<;>try exact s_ab h)|(refine s_ad hS ?_;intro _ _;try cbv)|(refine qal hS (enc:=i1) (l:=rowU L c) hrc hs (λ_=>rfl) j0 (by omega) rfl ?_;cbv)|(refine qfw hS rfl rfl ?_;cbv)|(refine qzadf hS (λk=>.b (Q k)) (i:=s) (c:=s.toNat) (v:=.b false) rfl (by omega) (by omega) rfl (by rw[hQ]) rfl ?_;cbv)|(refine s_wr8 hS (λk=>.b (Q k)) c2 (i:=s) (v:=.tt) rfl (by omega) (by omega) hc2 rfl ?_;cbv)|fail)
      rename_i r1 e1;refine⟨(r1,g2),by dsimp only;omega,⟨by dsimp only;omega,by dsimp only;omega,λq hq=>?_⟩,rfl,?_,?_,by cbv⟩
      ·dsimp only at hq ⊢
       rw[show r1.toNat=j.toNat+1 by omega,pre_s hs] at hq;have h1:=j2 q λy hy=>hq y (List.mem_append_left _ hy);have h2:=hq (s,Int.ofNat c) (by simp);rw[hg2,if_neg (by intro e;exact h2 (by rw[e];exact (Int.toNat_of_nonneg hsb.1).symm))];exact h1
      ·cbv;exact s_qA
      ·cbv;(repeat' (first|exact trivial|exact SubB.rfl|refine And.intro ?_ ?_|refine SubB.c ?_|exact SubL.nil|refine SubL.cons ?_ ?_|exact hsc2 _|exact qau rfl|exact Sub.rfl))
     ·repeat' (first|(refine s_ad hS ?_;intro _ _;try cbv)|fail)
      rename_i r1 e1;refine⟨(r1,Q),by dsimp only;omega,⟨by dsimp only;omega,by dsimp only;omega,λq hq=>?_⟩,rfl,?_,?_,by cbv⟩
      ·dsimp only at hq ⊢
       rw[show r1.toNat=c+1 by omega,<-qum (j:=j.toNat) (by have:ilen (rowU L c)=mc:=(by rw[<-hmc,<-hm]);unfold ilen at this;omega)] at hq;exact j2 q hq
      ·cbv;exact s_qA
      ·cbv;exact s_qA
    ·have hpc:∀ q:Nat,(∀ y∈pre L H c 0,y.1≠Int.ofNat q)->g q=false:=λq hq=>by
      rw[qzavg] at hq;have h1:=k2 q λy hy=>hq y (List.mem_append_left _ hy);exact h1
     refine qad hS 6 I.qbm (λx:Int×(Nat->Bool)=>0<=x.1/\x.1<=mc/\∀ q:Nat,(∀ y∈pre L H c x.1.toNat,y.1≠Int.ofNat q)->x.2 q=false) (λx=>[(30,.i .i64 (.y x.1))])
      (λx=>[(1,.c [.b (x.2 0),.b (x.2 1),.b (x.2 2),.b (x.2 3),.b (x.2 4),.b (x.2 5),.b (x.2 6),.b (x.2 7)])]) (λx=>(mc-x.1).toNat) (0,g) rfl ⟨⟨Int.le_refl _,by dsimp only;omega,hpc⟩,rfl,?_,?_,by cbv⟩ ?_
     ·cbv;exact s_qA
     ·cbv;exact s_qA
     clear hpc;intro z;obtain⟨j,Q⟩:=z;intro hz;dsimp only at hz;cbv;obtain⟨j0,j1,j2⟩:=hz;refine qac hS ?_ ?_<;>intro hj<;>cbv
     ·have hrl:ilen (rowU L c)=mc:=by rw[<-hmc,<-hm]
      have hrc:cellsI (rowU L c)=Fc:=by rw[<-hFc,<-hF]
      obtain⟨s,hs⟩:=qbi (l:=rowU L c) (i:=j) (by omega) j0;have hsb:=row_bd hL hs;have hQ:Q s.toNat=false:=by
       obtain⟨R,hRR⟩:=pre_r (L:=L) (H:=H) (k:=c) (by omega) hs
       have:=nd_new hR.nd hRR
       exact j2 _ λy hy e=>this y hy (by rw[e];exact Int.toNat_of_nonneg hsb.1)
      obtain⟨c2,hc2⟩:∃ g1:Nat->SV,∀ k,g1 k=if k=s.toNat then .tt else .b (Q k):=⟨_,λ_=>rfl⟩
      obtain⟨g2,hg2⟩:∃ g1:Nat->Bool,∀ k,g1 k=if k=s.toNat then true else Q k:=⟨_,λ_=>rfl⟩
      have hsc2:=qzamo hc2 hg2
      repeat' (first|(refine s_ck hS ?_;try cbv)|(refine qac hS ?_ ?_<;>intro h<;>(try cbv)<;>try exact s_ab h)|(refine s_ad hS ?_;intro _ _;try cbv)|(refine qal hS (enc:=i1) (l:=rowU L c) hrc hs (λ_=>rfl) j0 (by omega) rfl ?_;cbv)|(refine qfw hS rfl rfl ?_;cbv)|(refine qzadf hS (λk=>.b (Q k)) (i:=s) (c:=s.toNat) (v:=.b false) rfl (by omega) (by omega) rfl (by rw[hQ]) rfl ?_;cbv)|(refine s_wr8 hS (λk=>.b (Q k)) c2 (i:=s) (v:=.tt) rfl (by omega) (by omega) hc2 rfl ?_;cbv)|fail)
      rename_i r1 e1;refine⟨(r1,g2),by dsimp only;omega,⟨by dsimp only;omega,by dsimp only;omega,λq hq=>?_⟩,rfl,?_,?_,by cbv⟩
      ·dsimp only at hq ⊢
       rw[show r1.toNat=j.toNat+1 by omega,pre_s hs] at hq;have h1:=j2 q λy hy=>hq y (List.mem_append_left _ hy);have h2:=hq (s,Int.ofNat c) (by simp);rw[hg2,if_neg (by intro e;exact h2 (by rw[e];exact (Int.toNat_of_nonneg hsb.1).symm))];exact h1
      ·cbv;exact s_qA
      ·cbv;(repeat' (first|exact trivial|exact SubB.rfl|refine And.intro ?_ ?_|refine SubB.c ?_|exact SubL.nil|refine SubL.cons ?_ ?_|exact hsc2 _|exact qau rfl|exact Sub.rfl))
     ·repeat' (first|(refine s_ad hS ?_;intro _ _;try cbv)|fail)
      rename_i r1 e1;refine⟨(r1,Q),by dsimp only;omega,⟨by dsimp only;omega,by dsimp only;omega,λq hq=>?_⟩,rfl,?_,?_,by cbv⟩
      ·dsimp only at hq ⊢
       rw[show r1.toNat=c+1 by omega,<-qum (j:=j.toNat) (by have:ilen (rowU L c)=mc:=(by rw[<-hmc,<-hm]);unfold ilen at this;omega)] at hq;exact j2 q hq
      ·cbv;exact s_qA
      ·cbv;exact s_qA
   ·skip
    all_goals exact .rfl
end Wr
end Cz
namespace Cz
open Go Go.RowKit Go.Proofs
namespace Wr
section
variable {S:Sy}{l:List Blk}{K:SV->List Blk->Prop}
theorem qkv (hS:S0 Tryz.prog=S) {L:List (Int×Int)}{H:Nat->Int}{w:Int}(hR:GoodR L H) (hw:w=wdI L) (h:K .tt l):S.call 80 [.ag (rdyC w H)] l K:=by
 subst hS;exact qai (qae (qzana hR hw) λx _ hx=>⟨.tt,hx,.rfl⟩) rfl rfl h
end
def atR (A:List (Int×Int)) (s:Int):Option Int:=(A.find? λy=>decide (y.1=s)).map (·.2)
def ofK (A:List (Int×Int)) (s:Int):Int:=match atR A s with|some u=>u|none=>0
def ofB (A:List (Int×Int)) (s:Int):Bool:=(atR A s).isSome
theorem qzawp {A P R:List (Int×Int)}{y:Int×Int}{s:Int}(h:A=P++y::R) (hy:y.1=s) (hn:∀ z∈P,z.1≠s):atR A s=some y.2:=by
 subst h;unfold atR;rw[List.find?_append,List.find?_eq_none.2 (λz hz=>by simpa using hn z hz),Option.none_or,List.find?_cons,show decide (y.1=s)=true from decide_eq_true hy];rfl
theorem at_no {A:List (Int×Int)}{s:Int}(hn:∀ z∈A,z.1≠s):atR A s=none:=by
 unfold atR;rw[List.find?_eq_none.2 (λz hz=>by simpa using hn z hz)];rfl
theorem rof_f {L:List (Int×Int)}{H:Nat->Int}{w s k:Int}{t:Bool}(hR:GoodR L H) (hw:w=wdI L) (hk:ofK (allR L H) s=k) (ht:ofB (allR L H) s=t):
  (S0 Tryz.prog).call 83 [rdyV w H,.i .i64 (.y s)] [] (λx _=>Sub x (.tp [.i .i64 (.y k),.b t])):=by
 have hL:=hR.w;obtain⟨F,hF⟩:∃ F:Nat->List SV,(λu=>cellsI (rowU L u))=F:=⟨_,rfl⟩;obtain⟨m,hm⟩:∃ m:Nat->Int,(λu=>ilen (rowU L u))=m:=⟨_,rfl⟩;have hrow:rowsV L=.ag [.v false 1 (F 0) (.y (m 0)),.v false 1 (F 1) (.y (m 1)),.v false 1 (F 2) (.y (m 2)),.v false 1 (F 3) (.y (m 3)),.v false 1 (F 4) (.y (m 4)),.v false 1 (F 5) (.y (m 5)),.v false 1 (F 6) (.y (m 6)),.v false 1 (F 7) (.y (m 7))]:=by subst hF hm;rfl
 have hm0:∀ u,0<=m u/\m u<=8:=λu=>by subst hm;have h1:=qzage L u;have h2:=hL.len;exact⟨qaj _,by dsimp only;omega⟩
 unfold rdyV rdyC;generalize hS:S0 Tryz.prog=S;refine qaa hS I.fn_turn_Of ?_;cbv
 repeat' (first|(refine qaa hS I.qof ?_;cbv)|(refine qkv hS (H:=H) hR hw ?_;cbv)|(refine qaa hS I.qjw ?_;cbv)|(refine qbq hS I.qfm ?_;cbv)|(refine qzalt hS hw hL hrow ?_;cbv)|fail)
 refine qad hS 11 I.qdw (λx:Int=>0<=x/\x<=8/\∀ y∈allT L H x.toNat,y.1≠s) (λx=>[(13,.i .i64 (.y x))]) (λ_=>[]) (λx=>(8-x).toNat) 0 rfl ⟨⟨Int.le_refl _,by decide,λy hy=>by cases hy⟩,rfl,?_,?_,by cbv⟩ ?_
 ·cbv;all_goals exact s_sA
 ·cbv;all_goals exact s_bA
 intro x hx;cbv;obtain⟨k0,k1,k2⟩:=hx;refine s_br hS ?_ ?_<;>intro h'<;>cbv<;>simp only[<-hS,Int.ofNat_eq_natCast,cq,Bool.not_eq_true',Bool.not_eq_false',decide_eq_true_eq,decide_eq_false_iff_not,beq_iff_eq,beq_eq_false_iff_ne,ne_eq] at h'
 ·obtain⟨c,hc⟩:∃ c,x.toNat=c:=⟨_,rfl⟩
  have hcx:x=Int.ofNat c:=by rw[<-hc];exact (Int.toNat_of_nonneg k0).symm
  obtain⟨hh,hhe⟩:∃ v,H c=v:=⟨_,rfl⟩;obtain⟨Fc,hFc⟩:∃ v,F c=v:=⟨_,rfl⟩;obtain⟨mc,hmc⟩:∃ v,m c=v:=⟨_,rfl⟩;have hmb:=hm0 c;rw[hmc] at hmb;rw[hc] at k2
  repeat' (first|(refine s_ck hS ?_;try cbv)|(refine qac hS ?_ ?_<;>intro h<;>(try cbv)<;>try exact s_ab h)|(refine qzadf hS (λk=>.i .i64 (.y (H k))) (v:=.i .i64 (.y hh)) rfl k0 h' hc (by rw[<-hhe]) rfl ?_;cbv)|(refine qfw hS rfl rfl ?_;cbv)|(refine qaa hS I.qqy ?_;cbv)|(refine qzadf hS (λk=>.v false 1 (F k) (.y (m k))) (i:=x) (v:=.v false 1 Fc (.y mc)) rfl k0 h' hc (by rw[<-hFc,<-hmc]) rfl ?_;cbv)|fail)
  ·obtain⟨R,hRR⟩:=pre_h (L:=L) (H:=H) (k:=c) (by omega) (by rw[hhe];assumption)
   have e:=qzawp hRR (by rw[hhe];assumption) k2;have hk':k=x:=by rw[<-hk,hcx];unfold ofK;rw[e]
   have ht':t=true:=by rw[<-ht];unfold ofB;rw[e];rfl
   subst hk' ht'
   all_goals exact s_sA
  ·have hpc:∀ y∈pre L H c 0,y.1≠s:=λy hy=>by
    rw[qzavg,List.mem_append] at hy;rcases hy with hy|hy
    ·exact k2 y hy
    ·unfold hldU at hy
     rw[if_pos (by rw[hhe];assumption)] at hy;simp only[List.mem_cons,List.not_mem_nil,or_false] at hy;subst hy;rw[hhe];assumption
   refine qad hS 11 I.qbm (λx:Int=>0<=x/\x<=mc/\∀ y∈pre L H c x.toNat,y.1≠s) (λx=>[(30,.i .i64 (.y x))]) (λ_=>[]) (λx=>(mc-x).toNat) 0 rfl ⟨⟨Int.le_refl _,hmb.1,hpc⟩,rfl,?_,?_,by cbv⟩ ?_
   ·cbv;all_goals exact s_sA
   ·cbv;all_goals exact s_bA
   clear hpc;intro j hj;cbv;obtain⟨j0,j1,j2⟩:=hj;have hrl:ilen (rowU L c)=mc:=by rw[<-hmc,<-hm]
   have hrc:cellsI (rowU L c)=Fc:=by rw[<-hFc,<-hF]
   refine qac hS ?_ ?_<;>intro hj<;>cbv
   ·obtain⟨v,hv⟩:=qbi (l:=rowU L c) (i:=j) (by omega) j0
    repeat' (first|(refine s_ck hS ?_;try cbv)|(refine qac hS ?_ ?_<;>intro h<;>(try cbv)<;>try exact s_ab h)|(refine s_ad hS ?_;intro _ _;try cbv)|(refine qal hS (enc:=i1) (l:=rowU L c) hrc hv (λ_=>rfl) j0 (by omega) rfl ?_;cbv)|(refine qfw hS rfl rfl ?_;cbv)|(refine qaa hS I.qqy ?_;cbv)|fail)
    ·obtain⟨R,hRR⟩:=pre_r (L:=L) (H:=H) (k:=c) (by omega) hv
     have e:=qzawp hRR h j2;have hk':k=x:=by rw[<-hk,hcx];unfold ofK;rw[e]
     have ht':t=true:=by rw[<-ht];unfold ofB;rw[e];rfl
     subst hk' ht'
     all_goals exact s_sA
    ·rename_i r1 e1
     refine⟨r1,by omega,⟨by omega,by omega,λy hy=>?_⟩,rfl,?_,?_,by cbv⟩
     ·rw[show r1.toNat=j.toNat+1 by omega,pre_s hv,List.mem_append] at hy
      rcases hy with hy|hy
      ·exact j2 y hy
      ·simp only[List.mem_cons,List.not_mem_nil,or_false] at hy
       subst hy;exact h
     ·cbv;all_goals exact s_sA
     ·cbv;all_goals exact s_bA
   ·repeat' (first|(refine s_ad hS ?_;intro _ _;try cbv)|fail)
    rename_i r1 e1;refine⟨r1,by omega,⟨by omega,by omega,λy hy=>?_⟩,rfl,?_,?_,by cbv⟩
    ·rw[show r1.toNat=c+1 by omega,<-qum (j:=j.toNat) (by unfold ilen at hrl;omega)] at hy
     exact j2 y hy
    ·cbv;all_goals exact s_sA
    ·cbv;all_goals exact s_bA
  ·have hpc:∀ y∈pre L H c 0,y.1≠s:=λy hy=>by
    rw[qzavg,List.mem_append] at hy;rcases hy with hy|hy
    ·exact k2 y hy
    ·unfold hldU at hy
     rw[if_neg (by rw[hhe];assumption)] at hy;cases hy
   refine qad hS 11 I.qbm (λx:Int=>0<=x/\x<=mc/\∀ y∈pre L H c x.toNat,y.1≠s) (λx=>[(30,.i .i64 (.y x))]) (λ_=>[]) (λx=>(mc-x).toNat) 0 rfl ⟨⟨Int.le_refl _,hmb.1,hpc⟩,rfl,?_,?_,by cbv⟩ ?_
   ·cbv;all_goals exact s_sA
   ·cbv;all_goals exact s_bA
   clear hpc;intro j hj;cbv;obtain⟨j0,j1,j2⟩:=hj;have hrl:ilen (rowU L c)=mc:=by rw[<-hmc,<-hm]
   have hrc:cellsI (rowU L c)=Fc:=by rw[<-hFc,<-hF]
   refine qac hS ?_ ?_<;>intro hj<;>cbv
   ·obtain⟨v,hv⟩:=qbi (l:=rowU L c) (i:=j) (by omega) j0
    repeat' (first|(refine s_ck hS ?_;try cbv)|(refine qac hS ?_ ?_<;>intro h<;>(try cbv)<;>try exact s_ab h)|(refine s_ad hS ?_;intro _ _;try cbv)|(refine qal hS (enc:=i1) (l:=rowU L c) hrc hv (λ_=>rfl) j0 (by omega) rfl ?_;cbv)|(refine qfw hS rfl rfl ?_;cbv)|(refine qaa hS I.qqy ?_;cbv)|fail)
    ·obtain⟨R,hRR⟩:=pre_r (L:=L) (H:=H) (k:=c) (by omega) hv
     have e:=qzawp hRR h j2;have hk':k=x:=by rw[<-hk,hcx];unfold ofK;rw[e]
     have ht':t=true:=by rw[<-ht];unfold ofB;rw[e];rfl
     subst hk' ht'
     all_goals exact s_sA
    ·rename_i r1 e1
     refine⟨r1,by omega,⟨by omega,by omega,λy hy=>?_⟩,rfl,?_,?_,by cbv⟩
     ·rw[show r1.toNat=j.toNat+1 by omega,pre_s hv,List.mem_append] at hy
      rcases hy with hy|hy
      ·exact j2 y hy
      ·simp only[List.mem_cons,List.not_mem_nil,or_false] at hy
       subst hy;exact h
     ·cbv;all_goals exact s_sA
     ·cbv;all_goals exact s_bA
   ·repeat' (first|(refine s_ad hS ?_;intro _ _;try cbv)|fail)
    rename_i r1 e1;refine⟨r1,by omega,⟨by omega,by omega,λy hy=>?_⟩,rfl,?_,?_,by cbv⟩
    ·rw[show r1.toNat=c+1 by omega,<-qum (j:=j.toNat) (by unfold ilen at hrl;omega)] at hy
     exact j2 y hy
    ·cbv;all_goals exact s_sA
    ·cbv;all_goals exact s_bA
 ·skip
  have e:=at_no (A:=allR L H) (s:=s) λz hz=>k2 z (by rw[show x.toNat=8 by omega];exact hz);have hk':k=0:=by rw[<-hk];unfold ofK;rw[e]
  have ht':t=false:=by rw[<-ht];unfold ofB;rw[e];rfl
  subst hk' ht'
  all_goals exact s_sA
section
variable {S:Sy}{l:List Blk}{K:SV->List Blk->Prop}
theorem qzajf (hS:S0 Tryz.prog=S) {L:List (Int×Int)}{H:Nat->Int}{w s:Int}(hR:GoodR L H) (hw:w=wdI L) (k:Int) (t:Bool) (hk:ofK (allR L H) s=k) (ht:ofB (allR L H) s=t) (h:K (.tp [.i .i64 (.y k),.b t]) l):S.call 83 [.ag (rdyC w H),.i .i64 (.y s)] l K:=by
 subst hS;exact qai (qae (rof_f hR hw hk ht) λx _ hx=>⟨_,hx,.rfl⟩) rfl rfl h
end
end Wr
end Cz
namespace Cz
open Go Go.RowKit Go.Proofs
namespace Wr
theorem rmany_f {L:List (Int×Int)}{H:Nat->Int}{w k:Int}(hR:GoodR L H) (hw:w=wdI L) (hk:k=ilen (allR L H)):
  (S0 Tryz.prog).call 84 [rdyV w H] [] (λx _=>Sub x (.i .i64 (.y k))):=by
 have hL:=hR.w;obtain⟨F,hF⟩:∃ F:Nat->List SV,(λu=>cellsI (rowU L u))=F:=⟨_,rfl⟩;obtain⟨m,hm⟩:∃ m:Nat->Int,(λu=>ilen (rowU L u))=m:=⟨_,rfl⟩;have hrow:rowsV L=.ag [.v false 1 (F 0) (.y (m 0)),.v false 1 (F 1) (.y (m 1)),.v false 1 (F 2) (.y (m 2)),.v false 1 (F 3) (.y (m 3)),.v false 1 (F 4) (.y (m 4)),.v false 1 (F 5) (.y (m 5)),.v false 1 (F 6) (.y (m 6)),.v false 1 (F 7) (.y (m 7))]:=by subst hF hm;rfl
 have hm0:∀ u,0<=m u/\m u<=8:=λu=>by subst hm;have h1:=qzage L u;have h2:=hL.len;exact⟨qaj _,by dsimp only;omega⟩
 unfold rdyV rdyC;generalize hS:S0 Tryz.prog=S;refine qaa hS I.qzasy ?_;cbv
 repeat' (first|(refine qaa hS I.qof ?_;cbv)|(refine qkv hS (H:=H) hR hw ?_;cbv)|(refine qaa hS I.qjw ?_;cbv)|(refine qbq hS I.qfm ?_;cbv)|(refine qzalt hS hw hL hrow ?_;cbv)|fail)
 refine qad hS 11 I.qdw (λx:Int×Int=>0<=x.1/\x.1<=8/\x.2=ilen (allT L H x.1.toNat)/\0<=x.2/\x.2<=9*x.1) (λx=>[(13,.i .i64 (.y x.1))]) (λx=>[(1,.c [.i .i64 (.y x.2)])]) (λx=>(8-x.1).toNat) (0,0) rfl ⟨⟨Int.le_refl _,by decide,rfl,Int.le_refl _,by decide⟩,rfl,?_,?_,by cbv⟩ ?_
 ·cbv;all_goals exact s_sA
 ·cbv;all_goals exact s_bA
 intro x;obtain⟨x,n⟩:=x;intro hx;dsimp only at hx;cbv;obtain⟨k0,k1,k2,k3,k4⟩:=hx;refine s_br hS ?_ ?_<;>intro h'<;>cbv<;>simp only[<-hS,Int.ofNat_eq_natCast,cq,Bool.not_eq_true',Bool.not_eq_false',decide_eq_true_eq,decide_eq_false_iff_not,beq_iff_eq,beq_eq_false_iff_ne,ne_eq] at h'
 ·obtain⟨c,hc⟩:∃ c,x.toNat=c:=⟨_,rfl⟩
  have hcx:x=Int.ofNat c:=by rw[<-hc];exact (Int.toNat_of_nonneg k0).symm
  obtain⟨hh,hhe⟩:∃ v,H c=v:=⟨_,rfl⟩;obtain⟨Fc,hFc⟩:∃ v,F c=v:=⟨_,rfl⟩;obtain⟨mc,hmc⟩:∃ v,m c=v:=⟨_,rfl⟩;have hmb:=hm0 c;rw[hmc] at hmb;rw[hc] at k2
  repeat' (first|(refine s_ck hS ?_;try cbv)|(refine qac hS ?_ ?_<;>intro h<;>(try cbv)<;>try exact s_ab h)|(refine s_ad hS ?_;intro _ _;try cbv)|(refine qzadf hS (λk=>.i .i64 (.y (H k))) (v:=.i .i64 (.y hh)) rfl k0 h' hc (by rw[<-hhe]) rfl ?_;cbv)|(refine qfw hS rfl rfl ?_;cbv)|(refine qaa hS I.qly ?_;cbv)|(refine qzadf hS (λk=>.v false 1 (F k) (.y (m k))) (i:=x) (v:=.v false 1 Fc (.y mc)) rfl k0 h' hc (by rw[<-hFc,<-hmc]) rfl ?_;cbv)|fail)
  ·rename_i r0 e0
   have hpc:r0=ilen (pre L H c 0):=by rw[qzavg,hldU,if_pos (by rw[hhe];exact h),e0,k2];unfold ilen;simp
   refine qad hS 11 I.qbm (λx:Int×Int=>0<=x.1/\x.1<=mc/\x.2=ilen (pre L H c x.1.toNat)/\0<=x.2/\x.2<=9*Int.ofNat c+1+x.1) (λx=>[(30,.i .i64 (.y x.1))]) (λx=>[(1,.c [.i .i64 (.y x.2)])]) (λx=>(mc-x.1).toNat) (0,r0) rfl ⟨⟨Int.le_refl _,hmb.1,hpc,by dsimp only;omega,by dsimp only;omega⟩,rfl,?_,?_,by cbv⟩ ?_
   ·cbv;all_goals exact s_sA
   ·cbv;all_goals exact s_bA
   clear hpc;intro z;obtain⟨j,n2⟩:=z;intro hj;dsimp only at hj;cbv;obtain⟨j0,j1,j2,j3,j4⟩:=hj;have hrl:ilen (rowU L c)=mc:=by rw[<-hmc,<-hm]
   have hrc:cellsI (rowU L c)=Fc:=by rw[<-hFc,<-hF]
   refine qac hS ?_ ?_<;>intro hj<;>cbv
   ·obtain⟨v,hv⟩:=qbi (l:=rowU L c) (i:=j) (by omega) j0
    repeat' (first|(refine s_ck hS ?_;try cbv)|(refine s_ad hS ?_;intro _ _;try cbv)|(refine qal hS (enc:=i1) (l:=rowU L c) hrc hv (λ_=>rfl) j0 (by omega) rfl ?_;cbv)|(refine qfw hS rfl rfl ?_;cbv)|(refine qaa hS I.qly ?_;cbv)|fail)
    rename_i r1 e1 r2 e2;refine⟨(r2,r1),by dsimp only;omega,⟨by dsimp only;omega,by dsimp only;omega,?_,by dsimp only;omega,by dsimp only;omega⟩,rfl,?_,?_,by cbv⟩
    ·dsimp only
     rw[show r2.toNat=j.toNat+1 by omega,pre_s hv,e1,j2];unfold ilen;simp
    ·cbv;all_goals exact s_sA
    ·cbv;all_goals exact s_bA
   ·repeat' (first|(refine s_ad hS ?_;intro _ _;try cbv)|fail)
    rename_i r1 e1;refine⟨(r1,n2),by dsimp only;omega,⟨by dsimp only;omega,by dsimp only;omega,?_,by dsimp only;omega,by dsimp only;omega⟩,rfl,?_,?_,by cbv⟩
    ·dsimp only
     rw[show r1.toNat=c+1 by omega,<-qum (j:=j.toNat) (by unfold ilen at hrl;omega)];exact j2
    ·cbv;all_goals exact s_sA
    ·cbv;all_goals exact s_bA
  ·have hpc:n=ilen (pre L H c 0):=by rw[qzavg,hldU,if_neg (by rw[hhe];exact h),k2];simp
   refine qad hS 11 I.qbm (λx:Int×Int=>0<=x.1/\x.1<=mc/\x.2=ilen (pre L H c x.1.toNat)/\0<=x.2/\x.2<=9*Int.ofNat c+1+x.1) (λx=>[(30,.i .i64 (.y x.1))]) (λx=>[(1,.c [.i .i64 (.y x.2)])]) (λx=>(mc-x.1).toNat) (0,n) rfl ⟨⟨Int.le_refl _,hmb.1,hpc,by dsimp only;omega,by dsimp only;omega⟩,rfl,?_,?_,by cbv⟩ ?_
   ·cbv;all_goals exact s_sA
   ·cbv;all_goals exact s_bA
   clear hpc;intro z;obtain⟨j,n2⟩:=z;intro hj;dsimp only at hj;cbv;obtain⟨j0,j1,j2,j3,j4⟩:=hj;have hrl:ilen (rowU L c)=mc:=by rw[<-hmc,<-hm]
   have hrc:cellsI (rowU L c)=Fc:=by rw[<-hFc,<-hF]
   refine qac hS ?_ ?_<;>intro hj<;>cbv
   ·obtain⟨v,hv⟩:=qbi (l:=rowU L c) (i:=j) (by omega) j0
    repeat' (first|(refine s_ck hS ?_;try cbv)|(refine s_ad hS ?_;intro _ _;try cbv)|(refine qal hS (enc:=i1) (l:=rowU L c) hrc hv (λ_=>rfl) j0 (by omega) rfl ?_;cbv)|(refine qfw hS rfl rfl ?_;cbv)|(refine qaa hS I.qly ?_;cbv)|fail)
    rename_i r1 e1 r2 e2;refine⟨(r2,r1),by dsimp only;omega,⟨by dsimp only;omega,by dsimp only;omega,?_,by dsimp only;omega,by dsimp only;omega⟩,rfl,?_,?_,by cbv⟩
    ·dsimp only
     rw[show r2.toNat=j.toNat+1 by omega,pre_s hv,e1,j2];unfold ilen;simp
    ·cbv;all_goals exact s_sA
    ·cbv;all_goals exact s_bA
   ·repeat' (first|(refine s_ad hS ?_;intro _ _;try cbv)|fail)
    rename_i r1 e1;refine⟨(r1,n2),by dsimp only;omega,⟨by dsimp only;omega,by dsimp only;omega,?_,by dsimp only;omega,by dsimp only;omega⟩,rfl,?_,?_,by cbv⟩
    ·dsimp only
     rw[show r1.toNat=c+1 by omega,<-qum (j:=j.toNat) (by unfold ilen at hrl;omega)];exact j2
    ·cbv;all_goals exact s_sA
    ·cbv;all_goals exact s_bA
 ·skip
  have:k=n:=by rw[hk,k2,show x.toNat=8 by omega];rfl
  subst this
  all_goals exact s_sA
def nxtR:List (Int×Int)->(Int×Int)×Bool
 | []=>((0,0),false)
 | y::_=>(y,true)
theorem rnext_f {L:List (Int×Int)}{H:Nat->Int}{w s k:Int}{t:Bool}(hR:GoodR L H) (hw:w=wdI L) (hk:nxtR (allR L H)=((s,k),t)):
  (S0 Tryz.prog).call 162 [rdyV w H] [] (λx _=>Sub x (.tp [.i .i64 (.y s),.i .i64 (.y k),.b t])):=by
 have hL:=hR.w;obtain⟨F,hF⟩:∃ F:Nat->List SV,(λu=>cellsI (rowU L u))=F:=⟨_,rfl⟩;obtain⟨m,hm⟩:∃ m:Nat->Int,(λu=>ilen (rowU L u))=m:=⟨_,rfl⟩;have hrow:rowsV L=.ag [.v false 1 (F 0) (.y (m 0)),.v false 1 (F 1) (.y (m 1)),.v false 1 (F 2) (.y (m 2)),.v false 1 (F 3) (.y (m 3)),.v false 1 (F 4) (.y (m 4)),.v false 1 (F 5) (.y (m 5)),.v false 1 (F 6) (.y (m 6)),.v false 1 (F 7) (.y (m 7))]:=by subst hF hm;rfl
 have hm0:∀ u,0<=m u/\m u<=8:=λu=>by subst hm;have h1:=qzage L u;have h2:=hL.len;exact⟨qaj _,by dsimp only;omega⟩
 unfold rdyV rdyC;generalize hS:S0 Tryz.prog=S;refine qaa hS I.qzasx ?_;cbv
 repeat' (first|(refine qaa hS I.qof ?_;cbv)|(refine qkv hS (H:=H) hR hw ?_;cbv)|(refine qaa hS I.qjw ?_;cbv)|(refine qbq hS I.qfm ?_;cbv)|(refine qzalt hS hw hL hrow ?_;cbv)|fail)
 refine qad hS 10 I.qdw (λx:Int=>0<=x/\x<=8/\allT L H x.toNat=[]) (λx=>[(13,.i .i64 (.y x))]) (λ_=>[]) (λx=>(8-x).toNat) 0 rfl ⟨⟨Int.le_refl _,by decide,rfl⟩,rfl,?_,?_,by cbv⟩ ?_
 ·cbv;all_goals exact s_sA
 ·cbv;all_goals exact s_bA
 intro x hx;cbv;obtain⟨k0,k1,k2⟩:=hx;refine s_br hS ?_ ?_<;>intro h'<;>cbv<;>simp only[<-hS,Int.ofNat_eq_natCast,cq,Bool.not_eq_true',Bool.not_eq_false',decide_eq_true_eq,decide_eq_false_iff_not,beq_iff_eq,beq_eq_false_iff_ne,ne_eq] at h'
 ·obtain⟨c,hc⟩:∃ c,x.toNat=c:=⟨_,rfl⟩
  have hcx:x=Int.ofNat c:=by rw[<-hc];exact (Int.toNat_of_nonneg k0).symm
  obtain⟨hh,hhe⟩:∃ v,H c=v:=⟨_,rfl⟩;obtain⟨Fc,hFc⟩:∃ v,F c=v:=⟨_,rfl⟩;obtain⟨mc,hmc⟩:∃ v,m c=v:=⟨_,rfl⟩;have hmb:=hm0 c;rw[hmc] at hmb;rw[hc] at k2
  repeat' (first|(refine s_ck hS ?_;try cbv)|(refine qac hS ?_ ?_<;>intro h<;>(try cbv)<;>try exact s_ab h)|(refine qzadf hS (λk=>.i .i64 (.y (H k))) (v:=.i .i64 (.y hh)) rfl k0 h' hc (by rw[<-hhe]) rfl ?_;cbv)|(refine qfw hS rfl rfl ?_;cbv)|(refine qaa hS I.qug ?_;cbv)|(refine qzadf hS (λk=>.v false 1 (F k) (.y (m k))) (i:=x) (v:=.v false 1 Fc (.y mc)) rfl k0 h' hc (by rw[<-hFc,<-hmc]) rfl ?_;cbv)|fail)
  ·obtain⟨R,hRR⟩:=pre_h (L:=L) (H:=H) (k:=c) (by omega) (by rw[hhe];assumption)
   rw[hRR,k2,hhe,<-hcx] at hk;cases hk
   all_goals exact s_sA
  ·refine qad hS 10 I.qbm (λx:Int=>0<=x/\x<=mc/\pre L H c x.toNat=[]) (λx=>[(30,.i .i64 (.y x))]) (λ_=>[]) (λx=>(mc-x).toNat) 0 rfl ⟨⟨Int.le_refl _,hmb.1,by rw[show (0:Int).toNat=0 from rfl,qzavg,hldU,if_neg (by rw[hhe];assumption),k2];rfl⟩,rfl,?_,?_,by cbv⟩ ?_
   ·cbv;all_goals exact s_sA
   ·cbv;all_goals exact s_bA
   intro j hj;cbv;obtain⟨j0,j1,j2⟩:=hj;have hrl:ilen (rowU L c)=mc:=by rw[<-hmc,<-hm]
   have hrc:cellsI (rowU L c)=Fc:=by rw[<-hFc,<-hF]
   refine qac hS ?_ ?_<;>intro hj<;>cbv
   ·obtain⟨v,hv⟩:=qbi (l:=rowU L c) (i:=j) (by omega) j0
    repeat' (first|(refine s_ck hS ?_;try cbv)|(refine qal hS (enc:=i1) (l:=rowU L c) hrc hv (λ_=>rfl) j0 (by omega) rfl ?_;cbv)|(refine qfw hS rfl rfl ?_;cbv)|(refine qaa hS I.qug ?_;cbv)|fail)
    obtain⟨R,hRR⟩:=pre_r (L:=L) (H:=H) (k:=c) (by omega) hv;rw[hRR,j2,<-hcx] at hk;cases hk
    all_goals exact s_sA
   ·repeat' (first|(refine s_ad hS ?_;intro _ _;try cbv)|fail)
    rename_i r1 e1;refine⟨r1,by omega,⟨by omega,by omega,?_⟩,rfl,?_,?_,by cbv⟩
    ·rw[show r1.toNat=c+1 by omega,<-qum (j:=j.toNat) (by unfold ilen at hrl;omega)]
     exact j2
    ·cbv;all_goals exact s_sA
    ·cbv;all_goals exact s_bA
 ·skip
  have e:allR L H=[]:=by rw[<-k2,show x.toNat=8 by omega];rfl
  rw[e] at hk;cases hk
  all_goals exact s_sA
section
variable {S:Sy}{l:List Blk}{K:SV->List Blk->Prop}
theorem rmany_u (hS:S0 Tryz.prog=S) {L:List (Int×Int)}{H:Nat->Int}{w:Int}(hR:GoodR L H) (hw:w=wdI L) (k:Int) (hk:k=ilen (allR L H)) (h:K (.i .i64 (.y k)) l):S.call 84 [.ag (rdyC w H)] l K:=by
 subst hS;exact qai (qae (rmany_f hR hw hk) λx _ hx=>⟨_,hx,.rfl⟩) rfl rfl h
theorem rnext_u (hS:S0 Tryz.prog=S) {L:List (Int×Int)}{H:Nat->Int}{w:Int}(hR:GoodR L H) (hw:w=wdI L) (s k:Int) (t:Bool) (hk:nxtR (allR L H)=((s,k),t)) (h:K (.tp [.i .i64 (.y s),.i .i64 (.y k),.b t]) l):S.call 162 [.ag (rdyC w H)] l K:=by
 subst hS;exact qai (qae (rnext_f hR hw hk) λx _ hx=>⟨_,hx,.rfl⟩) rfl rfl h
end
end Wr
end Cz
namespace Cz
open Go Go.RowKit Go.Proofs
namespace Wr
def grp (L:List (Int×Int)) (H:Nat->Int) (k:Nat):List (Int×Int):=hldU H k++slU k (rowU L k)
def rstT (L:List (Int×Int)) (H:Nat->Int) (k:Nat):Nat->List (Int×Int)
 | 0=>[]
 | m+1=>grp L H k++rstT L H (k+1) m
section
variable {L L':List (Int×Int)}{H H':Nat->Int}
theorem qzard:∀ (m k:Nat),allT L H (k+m)=allT L H k++rstT L H k m
 | 0,k=>by simp [rstT]
 | m+1,k=>by
  have:=qzard m (k+1)
  rw[show k+(m+1)=k+1+m by omega,this,rstT,allT,grp,List.append_assoc]
theorem qzain:∀ {n:Nat},(∀ v,v<n->grp L' H' v=grp L H v)->allT L' H' n=allT L H n
 | 0,_=>rfl
 | n+1,h=>by
  have h1:=qzain (n:=n) λv hv=>h v (by omega);have h2:=h n (by omega);unfold grp at h2;rw[allT,allT,h1,h2]
theorem qzagd:∀ {m k:Nat},(∀ v,k<=v->grp L' H' v=grp L H v)->rstT L' H' k m=rstT L H k m
 | 0,_,_=>rfl
 | m+1,k,h=>by rw[rstT,rstT,h k (by omega),qzagd (m:=m) λv hv=>h v (by omega)]
theorem grp_u {k:Nat}{y:Int×Int}(h:y∈grp L H k):y.2=Int.ofNat k:=by
 unfold grp hldU slU at h;rw[List.mem_append] at h;rcases h with h|h
 ·split at h
  ·simp only[List.mem_cons,List.not_mem_nil,or_false] at h;subst h;rfl
  ·cases h
 ·rw[List.mem_map] at h
  obtain⟨_,_,rfl⟩:=h;rfl
theorem all_u:∀ {n:Nat}{y:Int×Int},y∈allT L H n->0<=y.2/\y.2<Int.ofNat n
 | 0,_,h=>by cases h
 | n+1,y,h=>by
  rw[allT,List.mem_append] at h;rcases h with h|h
  ·have:=all_u h
   exact⟨this.1,by have h2:=this.2;simp only[Int.ofNat_eq_natCast] at h2 ⊢;omega⟩
  ·have:=grp_u (L:=L) (H:=H) h
   rw[this];simp only[Int.ofNat_eq_natCast];omega
theorem rst_u:∀ {m k:Nat}{y:Int×Int},y∈rstT L H k m->Int.ofNat k<=y.2
 | 0,_,_,h=>by cases h
 | m+1,k,y,h=>by
  rw[rstT,List.mem_append] at h;rcases h with h|h
  ·rw[grp_u h];exact Int.le_refl _
  ·have:=rst_u h
   simp only[Int.ofNat_eq_natCast] at this ⊢;omega
theorem qkh {k:Nat}(hk:k<8):allR L H=allT L H k++(grp L H k++rstT L H (k+1) (7-k)):=by
 have h1:=qzard (L:=L) (H:=H) (8-k) k;rw[show k+(8-k)=8 by omega] at h1;unfold allR;rw[h1,show 8-k=(7-k)+1 by omega,rstT]
end
def insF (L:List (Int×Int)) (x:Int×Int):List (Int×Int):=L.takeWhile (λy=>decide (y.2<x.2))++x::L.dropWhile (λy=>decide (y.2<x.2))
theorem tw_app {α:Type}{p:α->Bool}{A B:List α}(hA:∀ y∈A,p y=true) (hB:∀ y∈B,p y=false):(A++B).takeWhile p=A/\(A++B).dropWhile p=B:=by
 induction A with
 | nil=>
  cases B with
  | nil=>exact⟨rfl,rfl⟩
  | cons b B=>
   have:=hB b (by simp)
   simp [this]
 | cons a A ih=>
  have h1:=hA a (by simp);obtain⟨i1,i2⟩:=ih λy hy=>hA y (by simp [hy]);simp only[List.cons_append,List.takeWhile_cons,List.dropWhile_cons,h1,if_true,i1,i2,and_self]
theorem ins_app {A B:List (Int×Int)}{x:Int×Int}(hA:∀ y∈A,y.2<=x.2) (hB:∀ y∈B,x.2<y.2):insL (A++B) x=A++x::B:=by
 obtain⟨h1,h2⟩:=tw_app (p:=λy:Int×Int=>decide (y.2<=x.2)) (A:=A) (B:=B) (λy hy=>by simpa using hA y hy) (λy hy=>by simpa using hB y hy);unfold insL;rw[h1,h2]
theorem insF_app {A B:List (Int×Int)}{x:Int×Int}(hA:∀ y∈A,y.2<x.2) (hB:∀ y∈B,x.2<=y.2):insF (A++B) x=A++x::B:=by
 obtain⟨h1,h2⟩:=tw_app (p:=λy:Int×Int=>decide (y.2<x.2)) (A:=A) (B:=B) (λy hy=>by simpa using hA y hy) (λy hy=>by simpa using hB y hy);unfold insF;rw[h1,h2]
theorem qzavc (A B:List (Int×Int)) (v:Nat):rowU (A++B) v=rowU A v++rowU B v:=by unfold rowU;rw[List.filter_append,List.map_append]
theorem row_none {A:List (Int×Int)}{v:Nat}(h:∀ y∈A,y.2≠Int.ofNat v):rowU A v=[]:=by
 unfold rowU;rw[List.filter_eq_nil_iff.2 λy hy=>by simpa using h y hy];rfl
theorem row_ins {L:List (Int×Int)}(hL:Good L) {s:Int}{u:Nat}(v:Nat):rowU (insL L (s,Int.ofNat u)) v=if v=u then rowU L v++[s] else rowU L v:=by
 have hs:=qjt L (s,Int.ofNat u);have h1:=tw_le (L:=L) (u:=Int.ofNat u);have h2:=dw_gt (L:=L) (u:=Int.ofNat u) hL.srt;unfold insL;dsimp only at hs ⊢;generalize L.takeWhile (λy=>decide (y.2<=Int.ofNat u))=A at *;generalize L.dropWhile (λy=>decide (y.2<=Int.ofNat u))=B at *;subst hs;rw[qzavc,qzavc,show ((s,Int.ofNat u)::B)=[(s,Int.ofNat u)]++B from rfl,qzavc];split
 ·rename_i e;subst e
  have hB:rowU B v=[]:=row_none λy hy e=>by have:=h2 y hy;omega
  have hx:rowU [(s,Int.ofNat v)] v=[s]:=by unfold rowU;simp
  rw[hB,hx];simp
 ·rename_i e
  have hx:rowU [(s,Int.ofNat u)] v=[]:=row_none λy hy h=>by
   simp only[List.mem_cons,List.not_mem_nil,or_false] at hy;subst hy;injection h with h;exact e h.symm
  rw[hx];simp
theorem row_out (L:List (Int×Int)) (s:Int) (v:Nat):rowU (outL L s) v=(rowU L v).filter λx=>decide (x≠s):=by
 unfold rowU outL;rw[List.filter_filter,List.filter_map,List.filter_filter];congr 1;apply List.filter_congr;intro y _;simp [Bool.and_comm]
theorem qzaez {L:List (Int×Int)}{H:Nat->Int}(hL:Good L) {s u:Int}(hu:0<=u/\u<=7):allR (insL L (s,u)) H=insL (allR L H) (s,u):=by
 obtain⟨k,rfl⟩:∃ k:Nat,u=Int.ofNat k:=⟨u.toNat,(Int.toNat_of_nonneg hu.1).symm⟩;have hk:k<8:=by have:=hu.2;simp only[Int.ofNat_eq_natCast] at this;omega
 have hg:∀ v,v≠k->grp (insL L (s,Int.ofNat k)) H v=grp L H v:=λv hv=>by unfold grp;rw[row_ins hL,if_neg hv]
 have hgk:grp (insL L (s,Int.ofNat k)) H k=grp L H k++[(s,Int.ofNat k)]:=by
  unfold grp;rw[row_ins hL,if_pos rfl];unfold slU;rw[List.map_append,List.append_assoc];rfl
 rw[qkh hk,qkh (L:=L) hk,qzain (λv hv=>hg v (by omega)),qzagd (λv hv=>hg v (by omega)),hgk,<-List.append_assoc,<-List.append_assoc,<-List.append_assoc];rw[ins_app (A:=allT L H k++grp L H k)]
 ·simp
 ·intro y hy
  rcases List.mem_append.1 hy with h|h
  ·have:=(all_u h).2;dsimp only;omega
  ·rw[grp_u h];exact Int.le_refl _
 ·intro y hy
  have:=rst_u hy;simp only[Int.ofNat_eq_natCast] at this ⊢;omega
theorem hold_all {L:List (Int×Int)}{H:Nat->Int}{s u:Int}(hu:0<=u/\u<=7) (hs:0<=s) (hH:H u.toNat<0):allR L (up H u.toNat s)=insF (allR L H) (s,u):=by
 obtain⟨k,rfl⟩:∃ k:Nat,u=Int.ofNat k:=⟨u.toNat,(Int.toNat_of_nonneg hu.1).symm⟩;have hk:k<8:=by have:=hu.2;simp only[Int.ofNat_eq_natCast] at this;omega
 rw[show (Int.ofNat k).toNat=k from rfl] at hH ⊢;have hg:∀ v,v≠k->grp L (up H k s) v=grp L H v:=λv hv=>by
  unfold grp hldU up;rw[show Nat.beq v k=false from Bool.eq_false_iff.2 λe=>hv (Nat.eq_of_beq_eq_true e)];rfl
 have hgk:grp L (up H k s) k=(s,Int.ofNat k)::grp L H k:=by
  have e:up H k s k=s:=by unfold up;rw[show Nat.beq k k=true by simp];rfl
  unfold grp hldU;rw[e,if_pos hs,if_neg (show ¬ 0<=H k by omega)];rfl
 rw[qkh hk,qkh (L:=L) (H:=H) hk,qzain (λv hv=>hg v (by omega)),qzagd (λv hv=>hg v (by omega)),hgk];rw[insF_app (A:=allT L H k)]
 ·simp
 ·intro y hy
  exact (all_u hy).2
 ·intro y hy
  rcases List.mem_append.1 hy with h|h
  ·rw[grp_u h];exact Int.le_refl _
  ·have:=rst_u h;simp only[Int.ofNat_eq_natCast] at this ⊢;omega
theorem qzavk (A B:List (Int×Int)) (s:Int):outL (A++B) s=outL A s++outL B s:=by unfold outL;rw[List.filter_append]
theorem sl_out (l:List Int) (k:Nat) (s:Int):slU k (l.filter λx=>decide (x≠s))=outL (slU k l) s:=by
 unfold slU outL;rw[List.filter_map];rfl
theorem out_all {L L':List (Int×Int)}{H H':Nat->Int}{s:Int}(hg:∀ k,k<8->grp L' H' k=outL (grp L H k) s):allR L' H'=outL (allR L H) s:=by
 have:∀ n,n<=8->allT L' H' n=outL (allT L H n) s:=by
  intro n
  induction n with
  | zero=>intro _;rfl
  | succ n ih=>
   intro hn;have h1:=hg n (by omega);unfold grp at h1;rw[allT,allT,ih (by omega),h1,<-qzavk]
 exact this 8 (Nat.le_refl _)
theorem up_at {α:Type}{f:Nat->α}{k:Nat}{v:α}:up f k v k=v:=by unfold up;rw[show Nat.beq k k=true by simp];rfl
theorem up_ne {α:Type}{f:Nat->α}{k j:Nat}{v:α}(h:j≠k):up f k v j=f j:=by unfold up;rw[show Nat.beq j k=false from Bool.eq_false_iff.2 λe=>h (Nat.eq_of_beq_eq_true e)];rfl
theorem qzagn {A:List (Int×Int)}{s:Int}(h:∀ y∈A,y.1≠s):outL A s=A:=by
 unfold outL;rw[List.filter_eq_self];intro y hy;simpa using h y hy
theorem grp_mem {L:List (Int×Int)}{H:Nat->Int}{k:Nat}(hk:k<8) {y:Int×Int}(h:y∈grp L H k):y∈allR L H:=by
 rw[qkh hk];simp [h]
theorem qle {L:List (Int×Int)}{H:Nat->Int}{k:Nat}(hk:k<8) (h:0<=H k):(H k,Int.ofNat k)∈allR L H:=grp_mem hk (by unfold grp hldU;rw[if_pos h];simp)
theorem qzs {L:List (Int×Int)}{k:Nat}{s:Int}:s∈rowU L k↔(s,Int.ofNat k)∈L:=by
 unfold rowU;rw[List.mem_map];constructor
 ·rintro ⟨y,hy,rfl⟩
  have h:=List.mem_filter.1 hy;have h2:y.2=Int.ofNat k:=by simpa using h.2
  rw[<-h2];exact h.1
 ·intro h
  exact⟨_,List.mem_filter.2 ⟨h,by simp⟩,rfl⟩
theorem qzaae {L:List (Int×Int)}{H:Nat->Int}(hL:Good L) {y:Int×Int}:y∈allR L H↔(∃ k,k<8/\0<=H k/\y=(H k,Int.ofNat k))∨y∈L:=by
 have main:∀ n,y∈allT L H n↔(∃ k,k<n/\0<=H k/\y=(H k,Int.ofNat k))∨(y∈L/\∃ k,k<n/\y.2=Int.ofNat k):=by
  intro n
  induction n with
  | zero=>simp [allT]
  | succ n ih=>
   rw[allT,List.mem_append,ih,List.mem_append];have h1:y∈hldU H n↔0<=H n/\y=(H n,Int.ofNat n):=by
    unfold hldU;split
    ·rename_i h;simp [h]
    ·rename_i h;simp [h]
   have h2:y∈slU n (rowU L n)↔y∈L/\y.2=Int.ofNat n:=by
    unfold slU;rw[List.mem_map];constructor
    ·rintro ⟨s,hs,rfl⟩;exact⟨qzs.1 hs,rfl⟩
    ·rintro ⟨a,b⟩;exact⟨y.1,qzs.2 (by rw[<-b];exact a),by rw[<-b]⟩
   rw[h1,h2];constructor
   ·rintro ((⟨k,a,b⟩|⟨a,k,b,c⟩)|(h|⟨a,b⟩))
    ·exact .inl ⟨k,by omega,b⟩
    ·exact .inr ⟨a,k,by omega,c⟩
    ·exact .inl ⟨n,by omega,h⟩
    ·exact .inr ⟨a,n,by omega,b⟩
   ·rintro (⟨k,a,b⟩|⟨a,k,b,c⟩)
    ·by_cases e:k=n
     ·subst e;exact .inr (.inl b)
     ·exact .inl (.inl ⟨k,by omega,b⟩)
    ·by_cases e:k=n
     ·subst e;exact .inr (.inr ⟨a,c⟩)
     ·exact .inl (.inr ⟨a,k,by omega,c⟩)
 unfold allR;rw[main 8];constructor
 ·rintro (h|h)
  ·exact .inl h
  ·exact .inr h.1
 ·rintro (h|h)
  ·exact .inl h
  ·have hb:=(hL.bd y h).2
   exact .inr ⟨h,y.2.toNat,by omega,(Int.toNat_of_nonneg hb.1).symm⟩
theorem qzatl {L:List (Int×Int)}{H:Nat->Int}(hR:GoodR L H) {y:Int×Int}(hy:y∈allR L H):(0<=y.1/\y.1<=7)/\(0<=y.2/\y.2<=7):=by
 rcases (qzaae hR.w).1 hy with ⟨k,a,b,rfl⟩|h
 ·rcases hR.held k a with e|e
  ·omega
  ·exact⟨e,by simp only[Int.ofNat_eq_natCast];omega⟩
 ·exact hR.w.bd y h
theorem qwy {A:List (Int×Int)}{s:Int}:ofB A s=true↔s∈A.map (·.1):=by
 unfold ofB atR;rw[Option.isSome_map,List.find?_isSome]
 simp
theorem qzaac {A:List (Int×Int)}{s k:Int}(hk:ofK A s=k) (h:ofB A s=true):(s,k)∈A:=by
 unfold ofB at h;unfold ofK at hk;cases e:atR A s with
 | none=>rw[e] at h;cases h
 | some u=>
  rw[e] at hk;subst hk;unfold atR at e;obtain⟨y,hy,rfl⟩:=Option.map_eq_some_iff.1 e;have h1:=List.mem_of_find?_eq_some hy;have h2:y.1=s:=by simpa using List.find?_some hy
  rw[<-h2];exact h1
theorem qzank {A:List (Int×Int)}(hnd:(A.map (·.1)).Nodup) {y z:Int×Int}(hy:y∈A) (hz:z∈A) (h:y.1=z.1):y=z:=by
 induction A with
 | nil=>cases hy
 | cons a A ih=>
  rw[List.map_cons,List.nodup_cons] at hnd;rcases List.mem_cons.1 hy with rfl|hy'<;>rcases List.mem_cons.1 hz with rfl|hz'
  ·rfl
  ·exact absurd (List.mem_map.2 ⟨z,hz',h.symm⟩) hnd.1
  ·exact absurd (List.mem_map.2 ⟨y,hy',h⟩) hnd.1
  ·exact ih hnd.2 hy' hz'
theorem qzagu {A:List (Int×Int)}(hnd:(A.map (·.1)).Nodup) {y:Int×Int}(hy:y∈A):ofB A y.1=true/\ofK A y.1=y.2:=by
 have h1:ofB A y.1=true:=qwy.2 (List.mem_map.2 ⟨y,hy,rfl⟩);have h2:=qzaac rfl h1
 have:=qzank hnd h2 hy rfl
 exact⟨h1,congrArg Prod.snd this⟩
end Wr
end Cz
namespace Cz
open Go Go.RowKit Go.Proofs
namespace Wr
theorem ins_perm (A:List (Int×Int)) (x:Int×Int):(insL A x).Perm (x::A):=by
 unfold insL;refine List.perm_middle.trans ?_;rw[qjt]
theorem insF_perm (A:List (Int×Int)) (x:Int×Int):(insF A x).Perm (x::A):=by
 unfold insF;refine List.perm_middle.trans ?_;rw[List.takeWhile_append_dropWhile]
theorem of_no {A:List (Int×Int)}{s:Int}(h:ofB A s=false):s∉A.map (·.1):=λhm=>by rw[qwy.2 hm] at h;cases h
theorem qya {L:List (Int×Int)}{H:Nat->Int}{s u:Int}(hR:GoodR L H) (hs:0<=s/\s<=7) (hu:0<=u/\u<=7) (h:ofB (allR L H) s=false):findB L s=false/\GoodR (insL L (s,u)) H:=by
 have hf:findB L s=false:=by
  cases e:findB L s with
  | false=>rfl
  | true=>
   obtain⟨y,hy,hys⟩:=List.mem_map.1 (qzaff.1 e);exact absurd (List.mem_map.2 ⟨y,(qzaae hR.w).2 (.inr hy),hys⟩) (of_no h)
 refine⟨hf,good_ins hR.w hs hu hf,hR.held,?_⟩;rw[qzaez hR.w hu];have hp:((insL (allR L H) (s,u)).map λx=>x.1).Perm (s::(allR L H).map λx=>x.1):=(ins_perm (allR L H) (s,u)).map _;exact hp.nodup_iff.2 (List.nodup_cons.2 ⟨of_no h,hR.nd⟩)
theorem good_hold {L:List (Int×Int)}{H:Nat->Int}{s u:Int}(hR:GoodR L H) (hs:0<=s/\s<=7) (hu:0<=u/\u<=7) (hH:H u.toNat<0) (h:ofB (allR L H) s=false):GoodR L (up H u.toNat s):=by
 refine⟨hR.w,λk hk=>?_,?_⟩
 ·by_cases e:k=u.toNat
  ·rw[e,up_at];exact .inr hs
  ·rw[up_ne e];exact hR.held k hk
 ·rw[hold_all hu hs.1 hH]
  have hp:((insF (allR L H) (s,u)).map λx=>x.1).Perm (s::(allR L H).map λx=>x.1):=(insF_perm (allR L H) (s,u)).map _;exact hp.nodup_iff.2 (List.nodup_cons.2 ⟨of_no h,hR.nd⟩)
def outR (L:List (Int×Int)) (H:Nat->Int) (s:Int):(List (Int×Int)×(Nat->Int))×Bool:=
 if ofB (allR L H) s=true then (if H (ofK (allR L H) s).toNat=s then ((L,up H (ofK (allR L H) s).toNat (-1)),true) else ((outL L s,H),true)) else ((L,H),false)
theorem outL_hld {H:Nat->Int}{k:Nat}{s:Int}(h:0<=H k->H k≠s):outL (hldU H k) s=hldU H k:=qzagn λy hy=>by
 unfold hldU at hy;split at hy
 ·rename_i h0
  simp only[List.mem_cons,List.not_mem_nil,or_false] at hy;subst hy;exact h h0
 ·cases hy
theorem qzasd {L L':List (Int×Int)}{H H':Nat->Int}{s:Int}(hR:GoodR L H) (hL:Good L') (hH:∀ k,k<8->H' k=-1∨(0<=H' k/\H' k<=7)) (h:allR L' H'=outL (allR L H) s):GoodR L' H':=by
 refine⟨hL,hH,?_⟩;rw[h];have hsub:(outL (allR L H) s).Sublist (allR L H):=List.filter_sublist;exact (hsub.map _).nodup hR.nd
theorem out_r {L L':List (Int×Int)}{H H':Nat->Int}{s:Int}{t:Bool}(hR:GoodR L H) (h:outR L H s=((L',H'),t)):t=ofB (allR L H) s/\GoodR L' H'/\allR L' H'=outL (allR L H) s:=by
 unfold outR at h;cases ht:ofB (allR L H) s with
 | false=>
  rw[if_neg (by rw[ht];exact Bool.false_ne_true)] at h;cases h;exact⟨rfl,hR,(qzagn λy hy e=>of_no ht (List.mem_map.2 ⟨y,hy,e⟩)).symm⟩
 | true=>
  rw[if_pos ht] at h;obtain⟨k,hk⟩:∃ k,ofK (allR L H) s=k:=⟨_,rfl⟩;have hm:=qzaac hk ht;have hb:=qzatl hR hm;dsimp only at hb;rw[hk] at h;obtain⟨c,rfl⟩:∃ c:Nat,k=Int.ofNat c:=⟨k.toNat,(Int.toNat_of_nonneg hb.2.1).symm⟩;have hc:c<8:=by have:=hb.2.2;simp only[Int.ofNat_eq_natCast] at this;omega
  rw[show (Int.ofNat c).toNat=c from rfl] at h;have hsl:∀ v,v<8->(∀ y∈slU v (rowU L v),y∈allR L H):=λv hv y hy=>grp_mem hv (by unfold grp;simp [hy]);split at h
  ·rename_i hcs
   cases h;have hA:allR L (up H c (-1))=outL (allR L H) s:=by
    refine out_all λv hv=>?_;unfold grp;rw[qzavk];by_cases e:v=c
    ·subst e
     have h1:hldU (up H v (-1)) v=[]:=by unfold hldU;rw[up_at];rfl
     have h2:outL (hldU H v) s=[]:=by unfold hldU;rw[if_pos (by omega),hcs];unfold outL;simp
     rw[h1,h2];congr 1;refine (qzagn λy hy=>?_).symm;have hnd:((grp L H v).map (·.1)).Nodup:=by
      have hs:(grp L H v).Sublist (allR L H):=by rw[qkh hv];exact (List.sublist_append_left _ _).trans (List.sublist_append_right _ _)
      exact (hs.map _).nodup hR.nd
     unfold grp hldU at hnd;rw[if_pos (by omega),hcs,List.map_append] at hnd
     have:=(List.nodup_append.1 hnd).2.2 s (by simp) y.1 (List.mem_map.2 ⟨y,hy,rfl⟩)
     exact λe=>this e.symm
    ·have h1:hldU (up H c (-1)) v=hldU H v:=by unfold hldU;rw[up_ne e]
     rw[h1,outL_hld λh0 h2=>?_]
     ·congr 1
      refine (qzagn λy hy h2=>?_).symm;have h3:=qzank hR.nd (hsl v hv y hy) hm h2;have h4:=grp_u (L:=L) (H:=H) (k:=v) (y:=y) (by unfold grp;simp [hy]);rw[h3] at h4;injection h4 with h4;exact e h4.symm
     ·have h3:=qzank hR.nd (qle hv h0) hm h2
      have h4:=congrArg Prod.snd h3;injection h4 with h4;exact e h4
   refine⟨rfl,qzasd hR hR.w (λv hv=>?_) hA,hA⟩;by_cases e:v=c
   ·rw[e,up_at];exact .inl rfl
   ·rw[up_ne e];exact hR.held v hv
  ·rename_i hcs
   cases h;have hA:allR (outL L s) H=outL (allR L H) s:=by
    refine out_all λv hv=>?_;unfold grp;rw[qzavk,row_out,sl_out,outL_hld λh0 h2=>?_];have h3:=qzank hR.nd (qle hv h0) hm h2;have h4:=congrArg Prod.snd h3;injection h4 with h4
    subst h4;exact hcs h2
   exact⟨rfl,qzasd hR (good_out hR.w) hR.held hA,hA⟩
end Wr
end Cz
