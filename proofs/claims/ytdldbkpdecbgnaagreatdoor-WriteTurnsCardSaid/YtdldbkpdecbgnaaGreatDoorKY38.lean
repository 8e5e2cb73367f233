/- What the claims of this group lean on: WgF WgG WtK WgP WfD WfF. No condition. -/
import Derived.Test.YtdldbkpdecbgnaaGreatDoorKY28
import Derived.Test.YtdldbkpdecbgnaaGreatDoorKY30
import Derived.Test.YtdldbkpdecbgnaaGreatDoorKY37
set_option linter.unusedSimpArgs false
set_option linter.unusedVariables false
set_option maxRecDepth 100000
set_option maxHeartbeats 4000000
namespace Cz
open Go Go.RowKit Go.Proofs
namespace Wg
open Fa Wr
theorem prin_of {o:Ot}(ok:OtOk o):PrIn o.ps:=by
 intro i p h
 have:=ok.ps p (List.mem_of_getElem? h)
 omega
theorem dwp_of {o:Ot}(ok:OtOk o):DwP o:=by
 intro D dn Q qn Lf ln hN bl K h;have hpl:=ok.pl;have hlf:=ok.lf;have hq:qn<=2000:=by rw[hN.qn];omega
 have hf:=dwaits_f ok hN rfl (λbl K h=>by
   have e:=rusize_f (l:=o.li) rfl (by omega);rw[hN.l,<-hN.ln] at e;exact qbg rfl e .rfl rfl rfl h) (λbl K h=>set_u rfl hN.q hN.qn hq (prin_of ok) h)
 exact qbg rfl hf .rfl rfl rfl h
end Wg
end Cz
namespace Cz
open Go Go.RowKit Go.Proofs
namespace Wr
open Fa Wg
theorem new_f:(S0 Tryz.prog).call 23 [] [] (λx _=>Sub x (.ag [.v false 7 [] (.l 0),.i .i64 (.l 4096),.v false 2 [] (.l 0),.v false 1 [] (.l 0),.i .i64 (.l 65535),.i .i64 (.l 65535),.i .i64 (.l 0),.v false 11 [] (.l 0),.i .u64 (.l 0),.i .i64 (.l (-1)),.i .i64 (.l (-1)),.i .i64 (.l (-1)),.i .i64 (.l (-1)),.i .i64 (.l (-1)),.i .i64 (.l (-1)),.i .i64 (.l (-1)),.i .i64 (.l (-1)),.ff])):=by
 generalize hS:S0 Tryz.prog=S;refine qaa hS I.qzasr ?_;cbv
 repeat' (first|(refine qax hS ?_;cbv)|(refine qaa hS I.qzasz ?_;cbv)|(refine qaa hS I.qzawd ?_;cbv)|(refine qag hS rfl I.qzagr (by decide +kernel) ?_;cbv)|fail)
 all_goals
  refine qja ?_
  repeat' (first|exact .nil|refine .cons ?_ ?_|exact .rfl|exact qpx (by decide) rfl rfl|fail)
 all_goals trace_state
theorem wwin_f {o:Ot}{D:List SV}{dn:Int}{Q:List SV}{qn:Int}{L:List SV}{ln:Int}{t:Bool}(hk:o.k=3) (hb:Big o.st) (ht:decide (0<=o.st/\o.st<=2147483647)=t):
  (S0 Tryz.prog).call 30 [.ag (otK o D dn Q qn L ln)] [] (λx _=>Sub x (.b t)):=by
 obtain⟨k,st,sz,co,da,ps,li⟩:=o;dsimp only at *;unfold otK;subst hk;have hb':=hb;unfold Big at hb';clear hb;dsimp only;generalize hS:S0 Tryz.prog=S;refine qaa hS I.qlw ?_;cbv
 repeat' (first|(refine s_brc hS ?_;cbv)|(refine qaa hS I.qzaal ?_;cbv)|(refine qbd hS (c:=2147483648) rfl ?_;intro _ _;cbv)|fail)
 all_goals
  rename_i r1 e1;refine qgc ?_;subst hS ht;simp only[cr];rw[decide_eq_decide];omega
theorem wtp_win {o:Ot}(hk:o.k=3) (hb:Big o.st) (h0:0<=o.st/\o.st<=2147483647):WtP o:=λD dn Q qn Lf ln hN bl K h=>by
 have e:=wwin_f (D:=D) (dn:=dn) (Q:=Q) (qn:=qn) (L:=Lf) (ln:=ln) (t:=true) hk hb (decide_eq_true h0);exact qai (qae e λx _ hx=>⟨_,hx.trans (qbt rfl),.rfl⟩) rfl rfl h
theorem dsown_f {s:St}(ok:StOk s) {F:List SV}{n:Int}(hF:cellsB s.o=F) (hn:n=ilen s.o):(S0 Tryz.prog).call 39 [.ag (stK s F n)] [] (Tell (.ag (stK s F n))):=by
 obtain⟨id,st,se,re,ow,an,en,o,ur,ic,sl⟩:=s;have hlen:=ok.len;dsimp only at hlen hF hn;unfold stK;have hpl:plains F=true:=hF▸qbv _;have hfl:ilen F=n:=by rw[<-hF,qsg,hn]
 dsimp only;generalize hS:S0 Tryz.prog=S;refine qaa hS I.qyn ?_;cbv
 repeat' (first|(refine s_ck hS ?_;try cbv)|fail)
 have e1:S.app [] F=F:=by subst hS;rw[qfv];rfl
 intro g;refine .ag ?_
 repeat' (first|exact .nil|refine .cons ?_ ?_|exact val_fz (n:=.y n) rfl e1 hpl rfl hfl g|exact .sub .rfl rfl)
section
variable {os:List Ot}{tr:List Tb.Fd}{zs:List Int}{ss:List St}{Fo:List SV}{no tm:Int}{Fr:List SV}{nr:Int}{Fz:List SV}{nz se re ow:Int}{Fs:List SV}{ns w:Int}{H:Nat->Int}{sh:Bool}
theorem dplc_f {id r:Int}(hF:cellsS ss=Fs) (hn:ns=ilen ss) (hb:ns<=100000000) (hr:plR ss id=r):
  (S0 Tryz.prog).call 38 [.ag (lnK Fo no tm Fr nr Fz nz se re ow Fs ns w H sh),.i .i64 (.y id)] [] (λx _=>Sub x (.i .i64 (.y r))):=by
 have hn0:=qaj ss;rw[<-hn] at hn0;unfold lnK;generalize hS:S0 Tryz.prog=S;refine qaa hS I.qsq ?_;cbv;refine qad hS 1 I.qne (λx:Int=>0<=x/\x<=ns/\∀ (j:Nat) (t:St),j<x.toNat->ss[j]?=some t->t.id≠id) (λx=>[(5,.i .i64 (.y x))]) (λ_=>[]) (λx=>(ns-x).toNat) 0 rfl ⟨⟨Int.le_refl _,hn0,λj t hj=>by omega⟩,rfl,?_,?_,by cbv⟩ ?_
 ·cbv;exact s_qA
 ·cbv;exact s_qA
 intro x hx;cbv;obtain⟨g0,g1,g2⟩:=hx;refine s_br hS ?_ ?_<;>intro h'<;>cbv<;>simp only[<-hS,Int.ofNat_eq_natCast,cq,Bool.not_eq_true',Bool.not_eq_false',decide_eq_true_eq,decide_eq_false_iff_not,beq_iff_eq,beq_eq_false_iff_ne,ne_eq] at h'
 ·obtain⟨⟨sid,st,se,re,ow,an,en,o,ur,ic,sv⟩,hy⟩:=qbi (l:=ss) (i:=x) (by omega) g0
  repeat' (first|(refine s_ck hS ?_;try cbv)|(refine qac hS ?_ ?_<;>intro h<;>(try cbv)<;>try exact s_ab h)|(refine s_ad hS ?_;intro _ _;try cbv)|(refine qal hS (enc:=stC) (l:=ss) hF hy (λ_=>rfl) g0 (by omega) rfl ?_;cbv)|fail)
  ·have h3:=qzang hy h (λj t hj ht=>g2 j t (by omega) ht)
   unfold plR at hr;rw[h3] at hr;refine qau ?_;simp only[Z.v];rw[<-hr];simp only[Int.ofNat_eq_natCast];omega
  ·rename_i r1 e1
   refine⟨r1,by omega,⟨by omega,by omega,λj t hj ht=>?_⟩,rfl,by cbv;exact s_qA,by cbv;exact s_qA,by cbv⟩;by_cases e:j=x.toNat
   ·subst e
    rw[hy] at ht;cases ht;exact h
   ·exact g2 j t (by omega) ht
 ·skip
  have h3:plI ss id=none:=pl_none λj t ht=>g2 j t (by have:=(List.getElem?_eq_some_iff.1 ht).1;unfold ilen at hn;omega) ht;unfold plR at hr;rw[h3] at hr;exact qau hr
end
end Wr
end Cz
namespace Cz
open Go Go.RowKit Go.Proofs
namespace Wr
section
variable {Fo:List SV}{no tm:Int}{Fr:List SV}{nr:Int}{Fz:List SV}{nz se re ow:Int}{Fs:List SV}{ns w:Int}{H:Nat->Int}{sh:Bool}{ss:List St}{S:Sy}{l:List Blk}{K:SV->List Blk->Prop}
theorem best_u (hS:S0 Tryz.prog=S) {id:Int}(t:Bool) (hg:GdS ss) (hF:cellsS ss=Fs) (hn:ns=ilen ss) (ht:bestB ss se id=t) (h:K (.b t) l):
  S.call 34 [.ag (lnK Fo no tm Fr nr Fz nz se re ow Fs ns w H sh),.i .i64 (.y id)] l K:=by
 subst hS;exact qai (qae (best_f hg hF hn ht) λx _ hx=>⟨_,hx,.rfl⟩) rfl rfl h
def shrL (ss:List St) (se:Int) (n:Nat):List St:=(ss.take n).filter λs=>sendB s se&&bestB ss se s.id
theorem shrL_next {x:Int}{s:St}(h0:0<=x) (hy:ss[x.toNat]?=some s):shrL ss se (x+1).toNat=shrL ss se x.toNat++if (sendB s se&&bestB ss se s.id)=true then [s] else []:=by
 unfold shrL;rw[show (x+1).toNat=x.toNat+1 by omega,List.take_add_one,hy,List.filter_append];congr 1;simp only[Option.toList_some,List.filter_cons,List.filter_nil]
theorem qzaqw {Fi:List SV}{ni:Int}{t:Bool}(hg:GdS ss) (hF:cellsS ss=Fs) (hn:ns=ilen ss) (hFi:cellsI ((shrL ss se ss.length).map λs=>s.id)=Fi) (hni:ni=ilen (shrL ss se ss.length)) (ht:((shrL ss se ss.length).all λs=>s.ic)=t):
  (S0 Tryz.prog).call 8 [.ag (lnK Fo no tm Fr nr Fz nz se re ow Fs ns w H sh)] [] (Tell (.tp [.v false 1 Fi (.y ni),.b t])):=by
 have hn0:=qaj ss;rw[<-hn] at hn0;have h8:ns<=8:=by rw[hn];exact hg.len
 have hbst:∀ (S:Sy),S0 Tryz.prog=S->∀ (id:Int) (b:Bool),bestB ss se id=b->∀ (bl:List Blk) (K:SV->List Blk->Prop),K (.b b) bl->S.call 34 [.ag (lnK Fo no tm Fr nr Fz nz se re ow Fs ns w H sh),.i .i64 (.y id)] bl K:=λS hS id b hb bl K h=>best_u hS b hg hF hn hb h;unfold lnK at *;generalize hS:S0 Tryz.prog=S;refine qaa hS I.qpp ?_;cbv;refine qmi hS 4 1 (by omega) rfl ?_;cbv;refine qad hS 2 I.qks (λx:Int×Int×Int×List SV×Bool=>0<=x.1/\x.1<=ns/\cellsI ((shrL ss se x.1.toNat).map λs=>s.id)=x.2.2.2.1/\x.2.1=ilen (shrL ss se x.1.toNat)/\((shrL ss se x.1.toNat).all λs=>s.ic)=x.2.2.2.2) (λx=>[(6,.i .i64 (.y x.1)),(4,.sl 1 1 (.l 0) (.y x.2.1) none),(5,.b x.2.2.2.2)])
  (λx=>[(1,.r false false (.y x.2.2.1) 1 x.2.2.2.1)]) (λx=>(ns-x.1).toNat) (0,0,0,[],true) rfl ⟨⟨Int.le_refl _,hn0,rfl,rfl,rfl⟩,rfl,?_,?_,by cbv⟩ ?_
 ·cbv;exact s_qA
 ·cbv;exact s_qA
 intro x;obtain⟨x,k,st,F,a⟩:=x;intro hx;dsimp only at hx;cbv;obtain⟨g0,g1,g2,g3,g4⟩:=hx;have hFp:plains F=true:=g2▸qll _;have hFl:ilen F=k:=by rw[<-g2,qsf,g3];unfold ilen;rw[List.length_map]
 have hk0:0<=k:=by rw[g3];exact qaj _
 have hkx:k<=x:=by
  rw[g3];unfold shrL ilen
  have:=List.length_filter_le (λs=>sendB s se&&bestB ss se s.id) (ss.take x.toNat)
  rw[List.length_take] at this;omega
 refine s_br hS ?_ ?_<;>intro h'<;>cbv<;>simp only[<-hS,Int.ofNat_eq_natCast,cq,Bool.not_eq_true',Bool.not_eq_false',decide_eq_true_eq,decide_eq_false_iff_not,beq_iff_eq,beq_eq_false_iff_ne,ne_eq] at h'
 ·obtain⟨p,hy⟩:=qbi (l:=ss) (i:=x) (by omega) g0
  obtain⟨D,hD⟩:∃ F,cellsB p.o=F:=⟨_,rfl⟩;obtain⟨dn,hdn⟩:∃ m,m=ilen p.o:=⟨_,rfl⟩;have hmk:=qdg p hD hdn;have hnx:=shrL_next (se:=se) g0 hy;obtain⟨b1,hb1⟩:∃ b,sendB p se=b:=⟨_,rfl⟩;obtain⟨b2,hb2⟩:∃ b,bestB ss se p.id=b:=⟨_,rfl⟩;rw[hb1,hb2] at hnx;have hbc:=hbst S hS _ _ hb2;have happ:S.app F [.i .i64 (.y p.id)]=F++[.i .i64 (.y p.id)]:=by subst hS;exact qfv
  have hpl:S.pl k 1=k+1:=by subst hS;rfl
  by_cases hb:b1=true/\b2=true
  ·obtain⟨rfl,rfl⟩:=hb
   rw[show (true&&true)=true from rfl,if_pos rfl] at hnx;have h2:∀ r,r=x+1->cellsI ((shrL ss se r.toNat).map λs=>s.id)=S.app F [.i .i64 (.y p.id)]:=λr hr=>by rw[hr,hnx,List.map_append,qzalq,g2,happ];rfl
   have h3:∀ r,r=x+1->S.pl k 1=ilen (shrL ss se r.toNat):=λr hr=>by rw[hr,hnx,hpl,g3];unfold ilen;rw[List.length_append];simp
   have h4:∀ r,r=x+1->((shrL ss se r.toNat).all λs=>s.ic)=(a&&p.ic):=λr hr=>by rw[hr,hnx,List.all_append,g4];simp
   obtain⟨pid,sst,pse,pre,pow,an,en,o,ur,ic,sv⟩:=p;dsimp only at hD hdn hbc h2 h4 happ;cases a with
   | true=>
    repeat' (first|(refine s_ck hS ?_;try cbv)|(refine qac hS ?_ ?_<;>intro h<;>(try cbv)<;>try exact s_ab h)|(refine s_ad hS ?_;intro _ _;try cbv)|(refine qal hS (enc:=stC) (l:=ss) hF hy (λ_=>rfl) g0 (by omega) hmk ?_;cbv)|(refine qkd hS ⟨pid,sst,pse,pre,pow,an,en,o,ur,ic,sv⟩ true hD hdn hb1 ?_;cbv)|(refine hbc _ _ ?_;cbv)|fail)
    all_goals first
     | (exfalso;omega)
     | (rename_i r e;exact⟨(r,S.pl k 1,S.flen F,S.app F [.i .i64 (.y pid)],ic),by dsimp only;omega,⟨by dsimp only;omega,by dsimp only;omega,h2 r e,h3 r e,h4 r e⟩,rfl,by cbv;exact s_qA,by cbv;exact s_qA,by cbv⟩)
   | false=>
    repeat' (first|(refine s_ck hS ?_;try cbv)|(refine qac hS ?_ ?_<;>intro h<;>(try cbv)<;>try exact s_ab h)|(refine s_ad hS ?_;intro _ _;try cbv)|(refine qal hS (enc:=stC) (l:=ss) hF hy (λ_=>rfl) g0 (by omega) hmk ?_;cbv)|(refine qkd hS ⟨pid,sst,pse,pre,pow,an,en,o,ur,ic,sv⟩ true hD hdn hb1 ?_;cbv)|(refine hbc _ _ ?_;cbv)|fail)
    all_goals first
     | (exfalso;omega)
     | (rename_i r e;exact⟨(r,S.pl k 1,S.flen F,S.app F [.i .i64 (.y pid)],false),by dsimp only;omega,⟨by dsimp only;omega,by dsimp only;omega,h2 r e,h3 r e,h4 r e⟩,rfl,by cbv;exact s_qA,by cbv;exact s_qA,by cbv⟩)
  ·rw[if_neg (by rintro h;rw[Bool.and_eq_true] at h;exact hb h),List.append_nil] at hnx
   obtain⟨pid,sst,pse,pre,pow,an,en,o,ur,ic,sv⟩:=p;dsimp only at hD hdn hbc;cases b1 with
   | true=>
    obtain rfl:b2=false:=by cases b2 with
     | true=>exact absurd ⟨rfl,rfl⟩ hb
     | false=>rfl
    repeat' (first|(refine s_ck hS ?_;try cbv)|(refine qac hS ?_ ?_<;>intro h<;>(try cbv)<;>try exact s_ab h)|(refine s_ad hS ?_;intro _ _;try cbv)|(refine qal hS (enc:=stC) (l:=ss) hF hy (λ_=>rfl) g0 (by omega) hmk ?_;cbv)|(refine qkd hS ⟨pid,sst,pse,pre,pow,an,en,o,ur,ic,sv⟩ true hD hdn hb1 ?_;cbv)|(refine hbc _ _ ?_;cbv)|fail)
    all_goals first
     | (exfalso;omega)
     | (rename_i r e;exact⟨(r,k,st,F,a),by dsimp only;omega,⟨by dsimp only;omega,by dsimp only;omega,by dsimp only;rw[e,hnx];exact g2,by dsimp only;rw[e,hnx];exact g3,by dsimp only;rw[e,hnx];exact g4⟩,rfl,by cbv;exact s_qA,by cbv;exact s_qA,by cbv⟩)
   | false=>
    repeat' (first|(refine s_ck hS ?_;try cbv)|(refine qac hS ?_ ?_<;>intro h<;>(try cbv)<;>try exact s_ab h)|(refine s_ad hS ?_;intro _ _;try cbv)|(refine qal hS (enc:=stC) (l:=ss) hF hy (λ_=>rfl) g0 (by omega) hmk ?_;cbv)|(refine qkd hS ⟨pid,sst,pse,pre,pow,an,en,o,ur,ic,sv⟩ false hD hdn hb1 ?_;cbv)|fail)
    all_goals first
     | (exfalso;omega)
     | (rename_i r e;exact⟨(r,k,st,F,a),by dsimp only;omega,⟨by dsimp only;omega,by dsimp only;omega,by dsimp only;rw[e,hnx];exact g2,by dsimp only;rw[e,hnx];exact g3,by dsimp only;rw[e,hnx];exact g4⟩,rfl,by cbv;exact s_qA,by cbv;exact s_qA,by cbv⟩)
 ·have hxl:shrL ss se x.toNat=shrL ss se ss.length:=by
   unfold shrL;rw[List.take_of_length_le (by unfold ilen at hn;omega),List.take_of_length_le (Nat.le_refl _)]
  rw[hxl] at g2 g3 g4;obtain rfl:Fi=F:=hFi.symm.trans g2;obtain rfl:ni=k:=hni.trans g3.symm;obtain rfl:t=a:=ht.symm.trans g4
  skip
  all_goals first
   | (intro g;exact .tp (.cons (qdc (n:=.y ni) rfl rfl hFp rfl (by show ilen Fi=ni*((1:Nat):Int);omega) g) (.cons (.sub .rfl rfl) .nil)))
end
end Wr
end Cz
namespace Cz
open Go Go.RowKit Go.Proofs
namespace Wr
theorem dtp:DtP:=⟨λ{fl id b D dn B bn} hfl h1 h2 hb hl hD hn hB hbn=>by
 rcases hfl with rfl|rfl
 ·refine qgp (args':=[Wf.FQ 0 0 (.y id) (.v false 1 D (.y dn)) (.l 0) (.l 0) (.l 0) Wf.n2]) ?_ (Wf.put_00 hb hD hn (by omega) ⟨h1,h2⟩ hB hbn)
  unfold dtF Wf.FQ Wf.n2
  repeat' (first|exact .nil|refine .cons ?_ ?_|refine qja ?_|exact .rfl|exact qau rfl|exact qao rfl|exact qpx (by decide) rfl rfl|fail)
 ·refine qgp (args':=[Wf.FQ 0 1 (.y id) (.v false 1 D (.y dn)) (.l 0) (.l 0) (.l 0) Wf.n2]) ?_ (Wf.put_01 hb hD hn (by omega) ⟨h1,h2⟩ hB hbn)
  unfold dtF Wf.FQ Wf.n2
  repeat' (first|exact .nil|refine .cons ?_ ?_|refine qja ?_|exact .rfl|exact qau rfl|exact qao rfl|exact qpx (by decide) rfl rfl|fail)
 ⟩
end Wr
end Cz
namespace Cz
open Go Go.RowKit Go.Proofs
namespace Wf
open Fa
theorem s_bst0 {S:Sy}(hS:S0 Tryz.prog=S) {K:List UInt8->Prop}(h:K []):S.bs [] 0 0 K:=s_bsB hS (l:=[]) (λ_ h=>by cases h) rfl rfl rfl h
theorem known_8:(S0 Tryz.prog).call 107 [.i .u8 (.l 8)] [] (λx _=>Sub x (.ag [.i .i64 (.l 0),.any,.fn (.func 222) [] [],.fn (.func 223) [] []])):=by
 generalize hS:S0 Tryz.prog=S;refine qaa hS I.qef ?_;cbv
 repeat' (first|(refine qaa hS I.qeg ?_;cbv)|(refine qaa hS I.qed ?_;cbv)|(refine qaa hS I.qee ?_;cbv)|(refine qaa hS I.qfo ?_;cbv)|(refine s_lk hS ?_;try cbv)|(refine s_mu hS ?_;try cbv)|fail)
 all_goals first
  | exact qja (.cons .rfl (.cons qlm (.cons .rfl (.cons .rfl .nil))))
theorem known_8u {S:Sy}{bl:List Blk}{K:SV->List Blk->Prop}(hS:S0 Tryz.prog=S) (hK:K (.ag [.i .i64 (.l 0),.any,.fn (.func 222) [] [],.fn (.func 223) [] []]) bl):S.call 107 [.i .u8 (.l 8)] bl K:=qbg hS known_8 .rfl rfl rfl hK
theorem puts_8 {st w b0 b1 b2 b3:Int}(h0:1<=w) (h1:w<=2147483647) (e0:b0=w%256) (e1:b1=w/256%256) (e2:b2=w/65536%256) (e3:b3=w/16777216):(S0 Tryz.prog).call 223 [FQ 8 0 (.y st) n1 (.l 0) (.y w) (.l 0) n2] [] (Tell (.v true 1 [.i .u8 (.y b3),.i .u8 (.y b2),.i .u8 (.y b1),.i .u8 (.y b0)] (.l 4))):=by
 generalize hS:S0 Tryz.prog=S;refine qaa hS I.qzaao ?_;cbv
 repeat' (first|(refine qac hS ?_ ?_<;>intro h<;>(try cbv)<;>try exact s_ab h)|(refine qdd hS ?_;try cbv)|(refine qax hS ?_;cbv)|(refine qaa hS I.qym ?_;cbv)|(refine qaa hS I.qzacx ?_;cbv)|(refine qaa hS I.qgl ?_;cbv)|(refine qbd hS (c:=4294967296) rfl ?_;intro _ _;cbv)|(refine qbd hS (c:=16777216) rfl ?_;intro _ _;cbv)|(refine qbd hS (c:=65536) rfl ?_;intro _ _;cbv)|(refine qbd hS (c:=256) rfl ?_;intro _ _;cbv)|(refine qbd hS (c:=1) rfl ?_;intro _ _;cbv)|(refine s_c8 hS ?_;intro _ _;cbv)|fail)
 all_goals first
  | (exfalso;omega)
  | skip
 all_goals
  intro g;refine .row rfl rfl ?_ rfl rfl
  repeat' (first|exact .nil|refine .cons ?_ ?_|exact .sub (qau rfl) rfl|(refine .sub (qau ?_) rfl;(focus (simp only[Z.v];omega)))|fail)
theorem same_8 {st w:Int}:(S0 Tryz.prog).call 151 [FQ 8 0 (.y st) n1 (.l 0) (.y w) (.l 0) n2,FQ 8 0 (.y st) n1 (.l 0) (.y w) (.l 0) n2] [] (λx _=>Sub x (.b true)):=by
 generalize hS:S0 Tryz.prog=S;refine qaa hS I.qoh ?_;cbv
 repeat' (first|(refine qwn hS rfl ?_;try cbv)|(refine qac hS ?_ ?_<;>intro h<;>(try cbv)<;>try exact s_ab h)|(refine qax hS ?_;cbv)|(refine s_bst0 hS ?_;cbv)|(refine qaa hS I.qgo ?_;cbv)|(refine qaa hS I.qch ?_;cbv)|fail)
 all_goals first
  | exact qay rfl
theorem take_8 {st w b0 b1 b2 b3:Int}(hs:0<=st/\st<=2147483647) (h0:0<=b0/\b0<256) (h1:0<=b1/\b1<256) (h2:0<=b2/\b2<256) (h3:0<=b3/\b3<128) (hw:w=b3*16777216+b2*65536+b1*256+b0) (hp:1<=w):(S0 Tryz.prog).call 150 [.ag [.i .i64 (.l 0),.i .u8 (.l 8),.i .u8 (.l 0),.i .i64 (.y st)],.v true 1 [.i .u8 (.y b3),.i .u8 (.y b2),.i .u8 (.y b1),.i .u8 (.y b0)] (.l 4)] [] (Tell (.tp [FQ 8 0 (.y st) n1 (.l 0) (.y w) (.l 0) n2,.ag [.ff,.i .i64 (.l 0),.i .u32 (.l 0)]])):=by
 generalize hS:S0 Tryz.prog=S;refine qaa hS I.qgn ?_;cbv
 repeat' (first|(refine qac hS ?_ ?_<;>intro h<;>(try cbv)<;>try exact s_ab h)|(refine qdd hS ?_;try cbv)|(refine qax hS ?_;cbv)|(refine qaa hS I.qef ?_;cbv)|(refine qaa hS I.qeg ?_;cbv)|(refine qaa hS I.qed ?_;cbv)|(refine qaa hS I.qee ?_;cbv)|(refine qaa hS I.qcw ?_;cbv)|(refine qaa hS I.qgm ?_;cbv)|(refine qaa hS I.qfn ?_;cbv)|(refine qaa hS I.qfo ?_;cbv)|(refine qaa hS I.qrd ?_;cbv)|(refine qaa hS I.qzacy ?_;cbv)|(refine qaa hS I.qzaap ?_;cbv)|(refine qaa hS I.qfp ?_;cbv)|(refine qaa hS I.qzaht ?_;cbv)|(refine qaa hS I.qyl ?_;cbv)|(refine qbq hS I.qdv ?_;cbv)|(refine qaa hS I.qgl ?_;cbv)|(refine qag hS rfl I.qdt (by decide +kernel) ?_;cbv)|(refine qbd hS (c:=2147483648) rfl ?_;intro _ _;cbv)|(refine qgu hS (c:=256) rfl ?_ (by simp only[lo];omega) (by simp only[Cz.hi];omega);intro _ _;cbv)|(refine qgu hS (c:=2) rfl ?_ (by simp only[lo];omega) (by simp only[Cz.hi];omega);intro _ _;cbv)|(refine qwm hS (c:=256) (m:=8) rfl (by omega) (by omega) (by omega) (by omega) (by simp only[Cz.hi];omega) ?_;intro _ _;cbv)|(refine qbd hS (c:=2) rfl ?_;intro _ _;cbv)|(refine s_lk hS ?_;try cbv)|(refine s_mu hS ?_;try cbv)|fail)
 all_goals first
  | (exfalso;omega)
  | (exfalso;revert h;decide)
  | skip
 all_goals
  intro g
  repeat' (first|exact .nil|refine .cons ?_ ?_|(refine .tp ?_)|(refine .ag ?_)|exact .sub .rfl rfl|exact .sub (qau rfl) rfl|exact .nil (by decide) rfl|exact qzasg rfl rfl rfl rfl rfl|(refine .sub (qau ?_) rfl;(focus (simp only[Z.v];omega)))|(refine .row rfl rfl ?_ rfl rfl)|fail)
theorem ok_8 {st w:Int}(hs:0<=st/\st<=2147483647) (h0:1<=w) (h1:w<=2147483647):(S0 Tryz.prog).call 81 [FQ 8 0 (.y st) n1 (.l 0) (.y w) (.l 0) n2] [] (λx _=>Sub x (.b true)):=
 qzanc rfl (λbl K h=>known_8u rfl h) (λbl K h=>qaq rfl (puts_8 h0 h1 rfl rfl rfl rfl) .rfl rfl h) (λbl K h=>qaq rfl (take_8 hs (by omega) (by omega) (by omega) (by omega) (by omega) h0) .rfl rfl h) (λbl K h=>qbg rfl same_8 .rfl rfl rfl h)
end Wf
end Cz
namespace Cz
open Go Go.RowKit Go.Proofs
namespace Wf
open Fa
theorem known_7:(S0 Tryz.prog).call 107 [.i .u8 (.l 7)] [] (λx _=>Sub x (.ag [.i .i64 (.l 2),.any,.fn (.func 218) [] [],.fn (.func 220) [] []])):=by
 generalize hS:S0 Tryz.prog=S;refine qaa hS I.qef ?_;cbv
 repeat' (first|(refine qaa hS I.qeg ?_;cbv)|(refine qaa hS I.qed ?_;cbv)|(refine qaa hS I.qee ?_;cbv)|(refine qaa hS I.qfo ?_;cbv)|(refine s_lk hS ?_;try cbv)|(refine s_mu hS ?_;try cbv)|fail)
 all_goals first
  | exact qja (.cons .rfl (.cons qlm (.cons .rfl (.cons .rfl .nil))))
theorem known_7u {S:Sy}{bl:List Blk}{K:SV->List Blk->Prop}(hS:S0 Tryz.prog=S) (hK:K (.ag [.i .i64 (.l 2),.any,.fn (.func 218) [] [],.fn (.func 220) [] []]) bl):S.call 107 [.i .u8 (.l 7)] bl K:=qbg hS known_7 .rfl rfl rfl hK
theorem puts_7 {la co b0 b1 b2 b3 c0 c1 c2 c3:Int}(hl:0<=la/\la<=2147483647) (hc:0<=co/\co<=4294967295) (e0:b0=la%256) (e1:b1=la/256%256) (e2:b2=la/65536%256) (e3:b3=la/16777216) (f0:c0=co%256) (f1:c1=co/256%256) (f2:c2=co/65536%256) (f3:c3=co/16777216):
  (S0 Tryz.prog).call 220 [FQ 7 0 (.l 0) n1 (.y la) (.l 0) (.y co) n2] [] (Tell (.v true 1 [.i .u8 (.y b3),.i .u8 (.y b2),.i .u8 (.y b1),.i .u8 (.y b0),.i .u8 (.y c3),.i .u8 (.y c2),.i .u8 (.y c1),.i .u8 (.y c0)] (.l 8))):=by
 generalize hS:S0 Tryz.prog=S;refine qaa hS I.qzaaq ?_;cbv
 repeat' (first|(refine s_ck hS ?_;try cbv)|(refine qac hS ?_ ?_<;>intro h<;>(try cbv)<;>try exact s_ab h)|(refine qdd hS ?_;try cbv)|(refine qax hS ?_;cbv)|(refine qaa hS I.qhf ?_;cbv)|(refine qaa hS I.qjx ?_;cbv)|(refine s_mk hS rfl (by decide) (by decide) rfl ?_;cbv)|(refine qaa hS I.qym ?_;cbv)|(refine qaa hS I.qzacx ?_;cbv)|(refine qaa hS I.qgl ?_;cbv)|(refine qag hS rfl I.qsj (by decide +kernel) ?_;cbv)|(refine qbd hS (c:=4294967296) rfl ?_;intro _ _;cbv)|(refine qbd hS (c:=16777216) rfl ?_;intro _ _;cbv)|(refine qbd hS (c:=65536) rfl ?_;intro _ _;cbv)|(refine qbd hS (c:=256) rfl ?_;intro _ _;cbv)|(refine qbd hS (c:=1) rfl ?_;intro _ _;cbv)|(refine s_c8 hS ?_;intro _ _;cbv)|fail)
 all_goals first
  | (exfalso;omega)
  | skip
 all_goals
  intro g;refine .row rfl rfl ?_ rfl rfl
  repeat' (first|exact .nil|refine .cons ?_ ?_|exact .sub (qau rfl) rfl|(refine .sub (qau ?_) rfl;(focus (simp only[Z.v];omega)))|fail)
theorem same_7 {la co:Int}:(S0 Tryz.prog).call 151 [FQ 7 0 (.l 0) n1 (.y la) (.l 0) (.y co) n2,FQ 7 0 (.l 0) n1 (.y la) (.l 0) (.y co) n2] [] (λx _=>Sub x (.b true)):=by
 generalize hS:S0 Tryz.prog=S;refine qaa hS I.qoh ?_;cbv
 repeat' (first|(refine qwn hS rfl ?_;try cbv)|(refine qac hS ?_ ?_<;>intro h<;>(try cbv)<;>try exact s_ab h)|(refine qax hS ?_;cbv)|(refine s_bst0 hS ?_;cbv)|(refine qaa hS I.qgo ?_;cbv)|(refine qaa hS I.qch ?_;cbv)|fail)
 all_goals first
  | exact qay rfl
end Wf
end Cz
