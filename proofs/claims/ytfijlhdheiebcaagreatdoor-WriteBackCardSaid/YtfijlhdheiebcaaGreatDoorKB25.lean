/- What the claims of this group lean on: WsL. No condition. -/
import Derived.Test.YtfijlhdheiebcaaGreatDoorKB23
import Derived.Test.YtfijlhdheiebcaaGreatDoorKB24
set_option linter.unusedSimpArgs false
set_option linter.unusedVariables false
set_option maxRecDepth 100000
set_option maxHeartbeats 4000000
namespace Cz
open Go Go.RowKit Go.Proofs
namespace Wr
def cellsS (ss:List St):List SV:=ss.flatMap stC
theorem qak (ss:List St):plains (cellsS ss)=true:=qge (λ_=>rfl) ss
theorem qcq (ss:List St):(cellsS ss).length=ss.length*11:=qsb (enc:=stC) (λ_=>rfl) ss
def lnK (Fo:List SV) (no tm:Int) (Fr:List SV) (nr:Int) (Fz:List SV) (nz se re ow:Int) (Fs:List SV) (ns w:Int) (H:Nat->Int) (sh:Bool):List SV:=
 [.v false 7 Fo (.y no),.i .i64 (.y tm),.v false 2 Fr (.y nr),.v false 1 Fz (.y nz),.i .i64 (.y se),.i .i64 (.y re),.i .i64 (.y ow),.v false 11 Fs (.y ns),.i .u64 (.y w),.i .i64 (.y (H 0)),.i .i64 (.y (H 1)),.i .i64 (.y (H 2)),.i .i64 (.y (H 3)),.i .i64 (.y (H 4)),.i .i64 (.y (H 5)),.i .i64 (.y (H 6)),.i .i64 (.y (H 7)),.b sh]
theorem qdg (s:St) {F:List SV}{n:Int}(hF:cellsB s.o=F) (hn:n=ilen s.o):mkv true (((stC s).drop 0).take 11)=some (.ag (stK s F n)):=by
 subst hF hn;rfl
section
variable {P:Program}{S:Sy}{l:List Blk}{K:SV->List Blk->Prop}
theorem qfx {α:Type}(hS:S0 P=S) {enc:α->List SV}{l:List α}{F:List SV}(hF:l.flatMap enc=F) {i q:Int}{a:α}(ha:l[q.toNat]?=some a) (hq:i=q) {sz j n:Nat}{agg:Bool}{K:SV->Prop}{v:SV}
  (henc:∀ a,(enc a).length=sz) (h0:0<=i) (h2:j+n<=sz) (hv:mkv agg (((enc a).drop j).take n)=some v) (h:K v):S.rd F i sz j n agg K:=by
 subst hq;exact qal hS hF ha henc h0 h2 hv h
end
section
variable {Fo:List SV}{no tm:Int}{Fr:List SV}{nr:Int}{Fz:List SV}{nz se re ow:Int}{Fs:List SV}{ns w:Int}{H:Nat->Int}{sh:Bool}{ss:List St}
theorem dslot_f {sl r:Int}(hF:cellsS ss=Fs) (hn:ns=ilen ss) (hb:ns<=100000000) (hr:slR ss sl=r):
  (S0 Tryz.prog).call 62 [.ag (lnK Fo no tm Fr nr Fz nz se re ow Fs ns w H sh),.i .i64 (.y sl)] [] (λx _=>Sub x (.i .i64 (.y r))):=by
 have hn0:=qaj ss;rw[<-hn] at hn0;unfold lnK;generalize hS:S0 Tryz.prog=S;refine qaa hS I.quz ?_;cbv;refine qad hS 1 I.qol (λx:Int=>0<=x/\x<=ns/\∀ (j:Nat) (t:St),j<x.toNat->ss[j]?=some t->t.sl≠sl) (λx=>[(5,.i .i64 (.y x))]) (λ_=>[]) (λx=>(ns-x).toNat) 0 rfl ⟨⟨Int.le_refl _,hn0,λj t hj=>by omega⟩,rfl,?_,?_,by cbv⟩ ?_
 ·cbv;exact s_qA
 ·cbv;exact s_qA
 intro x hx;cbv;obtain⟨g0,g1,g2⟩:=hx;refine s_br hS ?_ ?_<;>intro h'<;>cbv<;>simp only[<-hS,Int.ofNat_eq_natCast,cq,Bool.not_eq_true',Bool.not_eq_false',decide_eq_true_eq,decide_eq_false_iff_not,beq_iff_eq,beq_eq_false_iff_ne,ne_eq] at h'
 ·obtain⟨⟨id,st,se,re,ow,an,en,o,ur,ic,sv⟩,hy⟩:=qbi (l:=ss) (i:=x) (by omega) g0
  repeat' (first|(refine s_ck hS ?_;try cbv)|(refine qac hS ?_ ?_<;>intro h<;>(try cbv)<;>try exact s_ab h)|(refine s_ad hS ?_;intro _ _;try cbv)|(refine qal hS (enc:=stC) (l:=ss) hF hy (λ_=>rfl) g0 (by omega) rfl ?_;cbv)|fail)
  ·have h3:=sl_first hy h (λj t hj ht=>g2 j t (by omega) ht)
   unfold slR at hr;rw[h3] at hr;refine qau ?_;simp only[Z.v];rw[<-hr];simp only[Int.ofNat_eq_natCast];omega
  ·rename_i r1 e1
   refine⟨r1,by omega,⟨by omega,by omega,λj t hj ht=>?_⟩,rfl,by cbv;exact s_qA,by cbv;exact s_qA,by cbv⟩;by_cases e:j=x.toNat
   ·subst e
    rw[hy] at ht;cases ht;exact h
   ·exact g2 j t (by omega) ht
 ·skip
  have h3:slI ss sl=none:=sl_none λj t ht=>g2 j t (by have:=(List.getElem?_eq_some_iff.1 ht).1;unfold ilen at hn;omega) ht;unfold slR at hr;rw[h3] at hr;exact qau hr
section
variable {S:Sy}{l:List Blk}{K:SV->List Blk->Prop}
theorem qzaou (hS:S0 Tryz.prog=S) {sl:Int}(r:Int) (hF:cellsS ss=Fs) (hn:ns=ilen ss) (hb:ns<=100000000) (hr:slR ss sl=r) (h:K (.i .i64 (.y r)) l):
  S.call 62 [.ag (lnK Fo no tm Fr nr Fz nz se re ow Fs ns w H sh),.i .i64 (.y sl)] l K:=by
 subst hS;exact qai (qae (dslot_f hF hn hb hr) λx _ hx=>⟨_,hx,.rfl⟩) rfl rfl h
theorem dlive_u (hS:S0 Tryz.prog=S) {x:Int}(t:Bool) (ht:livB x=t) (h:K (.b t) l):S.call 60 [.i .u8 (.y x)] l K:=by
 subst hS;refine qai (qae (?_:(S0 Tryz.prog).call 60 [.i .u8 (.y x)] [] (λy _=>Sub y (.b t))) λx _ hx=>⟨_,hx,.rfl⟩) rfl rfl h;unfold livB at ht;generalize hS:S0 Tryz.prog=S;refine qaa hS I.qvc ?_;cbv
 repeat' (first|(refine qac hS ?_ ?_<;>intro h<;>(try cbv)<;>try exact s_ab h)|fail)
 all_goals
  subst ht
  first
   | (refine qay (decide_eq_true ?_);omega)
   | (refine qao (decide_eq_false ?_);omega)
   | (refine qgc ?_;subst hS;simp only[cr];rw[decide_eq_decide];omega)
end
theorem dstreams_f {t:Bool}(hok:∀ s∈ss,StOk s) (hF:cellsS ss=Fs) (hn:ns=ilen ss) (hb:ns<=100000000) (ht:t=true↔GdS ss):
  (S0 Tryz.prog).call 28 [.ag (lnK Fo no tm Fr nr Fz nz se re ow Fs ns w H sh)] [] (λx _=>Sub x (.b t)):=by
 have hn0:=qaj ss;rw[gds_iff hok] at ht;rw[<-hn] at hn0 ht;have hf1:8<ns->t=false:=λh=>Bool.eq_false_iff.2 λe=>by have:=(ht.1 e).1;omega
 have hf2:∀ k,k<ss.length->¬ SkOk ss k->t=false:=λk hk h=>Bool.eq_false_iff.2 λe=>h ((ht.1 e).2 k hk);unfold lnK;generalize hS:S0 Tryz.prog=S;refine qaa hS I.qpm ?_;cbv
 repeat' (first|(refine qac hS ?_ ?_<;>intro h<;>(try cbv)<;>try exact s_ab h)|fail)
 ·exact qao (hf1 (by omega))
 refine qad hS 1 I.qkr (λx:Int=>0<=x/\x<=ns/\∀ j:Nat,j<x.toNat->SkOk ss j) (λx=>[(3,.i .i64 (.y x))]) (λ_=>[]) (λx=>(ns-x).toNat) 0 rfl ⟨⟨Int.le_refl _,hn0,λj hj=>by omega⟩,rfl,?_,?_,by cbv⟩ ?_
 ·cbv;exact s_qA
 ·cbv;exact s_qA
 intro x hx;cbv;obtain⟨g0,g1,g2⟩:=hx;refine s_br hS ?_ ?_<;>intro h'<;>cbv<;>simp only[<-hS,Int.ofNat_eq_natCast,cq,Bool.not_eq_true',Bool.not_eq_false',decide_eq_true_eq,decide_eq_false_iff_not,beq_iff_eq,beq_eq_false_iff_ne,ne_eq] at h'
 ·obtain⟨s,hy⟩:=qbi (l:=ss) (i:=x) (by omega) g0
  obtain⟨p,hp⟩:∃ p:St,0<x->ss[(x-1).toNat]?=some p:=by
   by_cases h0:0<x
   ·obtain⟨p,hp⟩:=qbi (l:=ss) (i:=x-1) (by omega) (by omega)
    exact⟨p,λ_=>hp⟩
   ·exact⟨s,λh1=>absurd h1 h0⟩
  have hlt:=(List.getElem?_eq_some_iff.1 hy).1;have ok:=hok s (List.mem_of_getElem? hy);obtain⟨F,hF'⟩:∃ F,cellsB s.o=F:=⟨_,rfl⟩;obtain⟨m,hm⟩:∃ m,m=ilen s.o:=⟨_,rfl⟩;obtain⟨b1,hb1⟩:∃ b,stB s=b:=⟨_,rfl⟩;obtain⟨b2,hb2⟩:∃ b,livB s.st=b:=⟨_,rfl⟩;obtain⟨b3,hb3⟩:∃ b,ansB s.st=b:=⟨_,rfl⟩;obtain⟨q,hq⟩:∃ q,slR ss s.sl=q:=⟨_,rfl⟩;have hmk:=qdg s hF' hm;have hsk:SkOk ss x.toNat↔b1=true/\b2=true/\(0<x->p.id<s.id)/\(if b3=true then (0<=s.sl/\s.sl<=7)/\q=x else s.sl=-1):=by
   have hqx:q=x↔slI ss s.sl=some x.toNat:=by
    rw[<-hq];unfold slR;constructor
    ·intro e
     split at e
     ·rename_i i hi
      rw[hi];congr 1;simp only[Int.ofNat_eq_natCast] at e;omega
     ·omega
    ·intro e
     rw[e];simp only[Int.ofNat_eq_natCast];omega
   unfold SkOk;constructor
   ·intro h
    obtain⟨k1,k2,k3,k4⟩:=h s hy;rw[hb1] at k1;rw[hb2] at k2;rw[hb3] at k4;refine⟨k1,k2,λh0=>k3 (by omega) p (by rw[show x.toNat-1=(x-1).toNat by omega];exact hp h0),?_⟩;split at k4
    ·rename_i e;rw[if_pos e];exact⟨k4.1,hqx.2 k4.2⟩
    ·rename_i e;rw[if_neg e];exact k4
   ·rintro ⟨k1,k2,k3,k4⟩ s' hs'
    rw[hy] at hs';cases hs';rw[hb1,hb2,hb3];refine⟨k1,k2,λh0 p' hp'=>?_,?_⟩
    ·rw[show x.toNat-1=(x-1).toNat by omega,hp (by omega)] at hp'
     cases hp';exact k3 (by omega)
    ·split at k4
     ·rename_i e;rw[if_pos e];exact⟨k4.1,hqx.1 k4.2⟩
     ·rename_i e;rw[if_neg e];exact k4
  have hno:=hf2 x.toNat hlt;rw[hsk] at hno;have hyes:∀ r,r=x+1->SkOk ss x.toNat->∀ j:Nat,j<r.toNat->SkOk ss j:=λr hr h j hj=>by
   by_cases e:j=x.toNat
   ·rw[e];exact h
   ·exact g2 j (by omega)
  rw[hsk] at hyes;clear hsk g2 hf2 hf1 ht;obtain⟨id,st,se,re,ow,an,en,o,ur,ic,sv⟩:=s;obtain⟨pid,pst,pse,pre,pow,pan,pen,po,pur,pic,psv⟩:=p;dsimp only at hno hyes hF' hm hb2 hb3 hq;have hsl:=ok.sl;have hst:=ok.st;dsimp only at hsl hst
  repeat' (first|(refine s_ck hS ?_;try cbv)|(refine qac hS ?_ ?_<;>intro h<;>(try cbv)<;>try exact s_ab h)|(refine s_ad hS ?_;intro _ _;try cbv)|(refine s_sb hS ?_;intro _ _;try cbv)|(refine qal hS (enc:=stC) (l:=ss) hF hy (λ_=>rfl) g0 (by omega) hmk ?_;cbv)|(refine qag hS rfl I.qlt (by decide +kernel) ?_;cbv)|(refine dright_w hS ⟨id,st,se,re,ow,an,en,o,ur,ic,sv⟩ b1 ok hF' hm hb1 ?_;cbv)|(refine dlive_u hS b2 hb2 ?_;cbv)|(refine dans_u hS b3 hb3 ?_;cbv)|(refine qfx hS (enc:=stC) (l:=ss) hF (hp (by omega)) (by assumption) (λ_=>rfl) (by omega) (by omega) rfl ?_;cbv)|(refine qzaou hS (H:=H) q hF hn hb hq ?_;cbv)|fail)
  all_goals first
   | (refine qao (hno ?_);rintro ⟨e1,e2,e3,e4⟩;first|(simp_all;done)|(subst e1 e2;first|(cases b3<;>simp_all<;>omega)|omega))
   | (rename_i r e;refine⟨r,by omega,⟨by omega,by omega,hyes r (by omega) ⟨?_,?_,?_,?_⟩⟩,rfl,by cbv;exact s_qA,by cbv;exact s_qA,by cbv⟩<;>first|assumption|(intro _;omega)|(cases b3<;>simp_all<;>omega)|(cases b3<;>simp_all;done))
 ·skip
  refine qay (ht.2 ⟨?_,λk hk=>g2 k ?_⟩)
  ·omega
  ·unfold ilen at hn;omega
end
end Wr
end Cz
