/- What the claims of this group lean on: WsM WsN WsO. No condition. -/
import Derived.Test.YtfijlhdheiebcaaGreatDoorKB25
set_option linter.unusedSimpArgs false
set_option linter.unusedVariables false
set_option maxRecDepth 100000
set_option maxHeartbeats 4000000
namespace Cz
open Go Go.RowKit Go.Proofs
namespace Wr
theorem wd_inj {L L':List (Int×Int)}(h:Good L) (h':Good L') (e:wdI L=wdI L'):L=L':=by
 have e1:=qzaaw h.bd h.len;have e2:=qzaaw h'.bd h'.len;have l1:=(qds h.bd h.len).1;have l2:=(qds h'.bd h'.len).1;rw[<-e] at e2 l2
 have:L'.length=L.length:=by unfold ilen at l1 l2;omega
 rw[this] at e2;rw[<-e1,e2]
section
variable {S:Sy}{l:List Blk}{K:SV->List Blk->Prop}{F:List SV}{n:Int}
theorem qkd (hS:S0 Tryz.prog=S) (s:St) {all:Int}(t:Bool) (hF:cellsB s.o=F) (hn:n=ilen s.o) (ht:sendB s all=t) (h:K (.b t) l):S.call 17 [.ag (stK s F n),.i .i64 (.y all)] l K:=by
 subst hF hn hS;exact qai (qae (dsend_f ht) λx _ hx=>⟨_,hx,.rfl⟩) rfl rfl h
end
section
variable {Fo:List SV}{no tm:Int}{Fr:List SV}{nr:Int}{Fz:List SV}{nz se re ow:Int}{Fs:List SV}{ns w:Int}{H:Nat->Int}{sh:Bool}{ss:List St}
theorem dready_f {t:Bool}(hg:GdS ss) (hF:cellsS ss=Fs) (hn:ns=ilen ss) (h0:0<=w) (h1:w<18446744073709551616) (ht:t=true↔∃ L,GdR ss se (L,H)/\w=wdI L):
  (S0 Tryz.prog).call 29 [.ag (lnK Fo no tm Fr nr Fz nz se re ow Fs ns w H sh)] [] (λx _=>Sub x (.b t)):=by
 have hb:ns<=100000000:=by rw[hn];have:=hg.len;omega
 by_cases hG:∃ L,GoodR L H/\w=wdI L
 ·obtain⟨L,hR,hw⟩:=hG
  have ht2:t=true↔∀ c,c<8->RkOk ss se (allR L H) c:=by
   rw[ht,rk_iff hg hR];constructor
   ·rintro ⟨L',h2,h3⟩
    have:L'=L:=wd_inj h2.r.w hR.w (h3.symm.trans hw)
    subst this;exact h2.mem
   ·intro h
    exact⟨L,⟨hR,h⟩,hw⟩
  clear ht;have hff:∀ c,c<8->¬ RkOk ss se (allR L H) c->t=false:=λc hc h=>Bool.eq_false_iff.2 λe=>h (ht2.1 e c hc);unfold lnK;generalize hS:S0 Tryz.prog=S;refine qaa hS I.qic ?_;cbv
  repeat' (first|(refine drr_u hS (H:=H) hR hw ?_;cbv)|fail)
  refine qad hS 1 I.qnd (λx:Int=>0<=x/\x<=8/\∀ c:Nat,c<x.toNat->RkOk ss se (allR L H) c) (λx=>[(3,.i .i64 (.y x))]) (λ_=>[]) (λx=>(8-x).toNat) 0 rfl ⟨⟨Int.le_refl _,by decide,λj hj=>by omega⟩,rfl,?_,?_,by cbv⟩ ?_
  ·cbv;exact s_qA
  ·cbv;exact s_qA
  intro x hx;cbv;obtain⟨g0,g1,g2⟩:=hx;refine s_br hS ?_ ?_<;>intro h'<;>cbv<;>simp only[<-hS,Int.ofNat_eq_natCast,cq,Bool.not_eq_true',Bool.not_eq_false',decide_eq_true_eq,decide_eq_false_iff_not,beq_iff_eq,beq_eq_false_iff_ne,ne_eq] at h'
  ·obtain⟨k,hk⟩:∃ k,ofK (allR L H) x=k:=⟨_,rfl⟩
   obtain⟨b,hb'⟩:∃ b,ofB (allR L H) x=b:=⟨_,rfl⟩;have ex:Int.ofNat x.toNat=x:=Int.toNat_of_nonneg g0;have hno:=hff x.toNat (by omega);have hyes:∀ r,r=x+1->RkOk ss se (allR L H) x.toNat->∀ c:Nat,c<r.toNat->RkOk ss se (allR L H) c:=λr hr h j hj=>by
    by_cases e:j=x.toNat
    ·rw[e];exact h
    ·exact g2 j (by omega)
   unfold RkOk at hno hyes;rw[ex,hk,hb'] at hno hyes;clear g2 hff ht2;cases hi:slI ss x with
   | none=>
    have hq:slR ss x=-1:=by unfold slR;rw[hi]
    rw[hi] at hno hyes;dsimp only at hno hyes;cases b with
    | true=>
     repeat' (first|(refine qac hS ?_ ?_<;>intro h<;>(try cbv)<;>try exact s_ab h)|(refine dof_u hS (H:=H) k true hR hw ⟨g0,by omega⟩ hk hb' ?_;cbv)|(refine qzaou hS (H:=H) (-1) hF hn hb hq ?_;cbv)|(refine qag hS rfl I.qcv (by decide +kernel) ?_;cbv)|(refine qzaqz hS ?_;try cbv)|fail)
     all_goals first
      | exact qao (hno λe=>by cases e.1)
      | (exfalso;omega)
    | false=>
     repeat' (first|(refine qac hS ?_ ?_<;>intro h<;>(try cbv)<;>try exact s_ab h)|(refine s_ad hS ?_;intro _ _;try cbv)|(refine dof_u hS (H:=H) k false hR hw ⟨g0,by omega⟩ hk hb' ?_;cbv)|(refine qzaou hS (H:=H) (-1) hF hn hb hq ?_;cbv)|(refine qag hS rfl I.qcv (by decide +kernel) ?_;cbv)|(refine qzaqz hS ?_;try cbv)|fail)
     all_goals first
      | (rename_i r e;exact⟨r,by omega,⟨by omega,by omega,hyes r (by omega) ⟨rfl,λe=>by cases e⟩⟩,rfl,by cbv;exact s_qA,by cbv;exact s_qA,by cbv⟩)
      | (exfalso;omega)
   | some i=>
    obtain⟨s,hy,_⟩:=sl_at hi;have hq:slR ss x=Int.ofNat i:=by unfold slR;rw[hi]
    obtain⟨q,hqe⟩:∃ q,q=Int.ofNat i:=⟨_,rfl⟩;have hq0:0<=q:=by rw[hqe];simp
    have hqn:q<ns:=by rw[hqe,hn];have:=(List.getElem?_eq_some_iff.1 hy).1;unfold ilen;simp only[Int.ofNat_eq_natCast];omega
    rw[<-hqe] at hq;rw[hi] at hno hyes;dsimp only at hno hyes;rw[hy] at hno hyes;dsimp only at hno hyes;have hy':ss[q.toNat]?=some s:=by rw[hqe];exact hy
    obtain⟨sb,hsb⟩:∃ b,sendB s se=b:=⟨_,rfl⟩;rw[hsb] at hno hyes;have ok:=(hg.ok s (List.mem_of_getElem? hy)).1;obtain⟨F,hF'⟩:∃ F,cellsB s.o=F:=⟨_,rfl⟩;obtain⟨m,hm⟩:∃ m,m=ilen s.o:=⟨_,rfl⟩;have hmk:=qdg s hF' hm;have hur:=ok.ur;have hno2:¬ (b=sb/\(b=true->k=s.ur))->t=false:=λh=>hno λe=>h ⟨e.1,λe2=>e.2 e2 i s rfl hy⟩;have hyes2:∀ r,r=x+1->(b=sb/\(b=true->k=s.ur))->∀ c:Nat,c<r.toNat->RkOk ss se (allR L H) c:=λr hr h=>hyes r hr ⟨h.1,λe2 j s' e3 e4=>by cases e3;rw[hy] at e4;cases e4;exact h.2 e2⟩;clear hno hyes;obtain⟨id,st,se',re,ow,an,en,o,ur,ic,sv⟩:=s;dsimp only at hno2 hyes2 hF' hm hur;cases b<;>cases sb
    all_goals
     repeat' (first|(refine qwn hS rfl ?_;try cbv)|(refine s_ck hS ?_;try cbv)|(refine qac hS ?_ ?_<;>intro h<;>(try cbv)<;>try exact s_ab h)|(refine s_ad hS ?_;intro _ _;try cbv)|(refine qdd hS ?_;try cbv)|(refine dof_u hS (H:=H) k _ hR hw ⟨g0,by omega⟩ hk hb' ?_;cbv)|(refine qzaou hS (H:=H) q hF hn hb hq ?_;cbv)|(refine qag hS rfl I.qcv (by decide +kernel) ?_;cbv)|(refine qal hS (enc:=stC) (l:=ss) hF hy' (λ_=>rfl) hq0 (by omega) hmk ?_;cbv)|(refine qkd hS ⟨id,st,se',re,ow,an,en,o,ur,ic,sv⟩ _ hF' hm hsb ?_;cbv)|(refine qal hS (enc:=stC) (l:=ss) hF hy' (λ_=>rfl) hq0 (by omega) rfl ?_;cbv)|(refine qzaqz hS ?_;try cbv)|fail)
     all_goals first
      | (refine qao (hno2 ?_);rintro ⟨e1,e2⟩;first|(cases e1;done)|(have:=e2 rfl;omega))
      | (rename_i r e;exact⟨r,by omega,⟨by omega,by omega,hyes2 r (by omega) ⟨rfl,λe=>by first|(cases e;done)|omega⟩⟩,rfl,by cbv;exact s_qA,by cbv;exact s_qA,by cbv⟩)
      | (exfalso;omega)
  ·skip
   refine qay (ht2.2 λc hc=>g2 c ?_);omega
 ·have hf:t=false:=Bool.eq_false_iff.2 λe=>by
   obtain⟨L,h2,h3⟩:=ht.1 e;exact hG ⟨L,h2.r,h3⟩
  subst hf;unfold lnK;generalize hS:S0 Tryz.prog=S;refine qaa hS I.qic ?_;cbv
  repeat' (first|(refine qac hS ?_ ?_<;>intro h<;>(try cbv)<;>try exact s_ab h)|(refine drr_w hS (H:=H) false h0 h1 ⟨λe=>(by cases e),λe=>absurd e hG⟩ ?_;cbv)|fail)
  all_goals exact s_qA
end
end Wr
end Cz
namespace Cz
open Go Go.RowKit Go.Proofs
namespace Wr
def pr1 (p:Int×Int):List SV:=[.i .u16 (.y p.1),.i .u32 (.y p.2)]
def cellsP (ps:List (Int×Int)):List SV:=ps.flatMap pr1
theorem qzadb (ps:List (Int×Int)):plains (cellsP ps)=true:=qge (λ_=>rfl) ps
theorem cellsP_len (ps:List (Int×Int)):(cellsP ps).length=ps.length*2:=qsb (enc:=pr1) (λ_=>rfl) ps
def otK (o:Ot) (D:List SV) (dn:Int) (Q:List SV) (qn:Int) (L:List SV) (ln:Int):List SV:=[.i .u8 (.y o.k),.i .i64 (.y o.st),.i .i64 (.y o.sz),.i .u32 (.y o.co),.v false 1 D (.y dn),.v false 2 Q (.y qn),.v false 2 L (.y ln)]
def otC (o:Ot):List SV:=otK o (cellsB o.da) (ilen o.da) (cellsP o.ps) (ilen o.ps) (Tb.cellsF o.li) (ilen o.li)
def cellsO (os:List Ot):List SV:=os.flatMap otC
theorem qdr (os:List Ot):plains (cellsO os)=true:=qge (λ_=>rfl) os
theorem qzabd (os:List Ot):(cellsO os).length=os.length*7:=qsb (enc:=otC) (λ_=>rfl) os
structure OtN (o:Ot) (D:List SV) (dn:Int) (Q:List SV) (qn:Int) (L:List SV) (ln:Int):Prop where
 d:cellsB o.da=D
 dn:dn=ilen o.da
 q:cellsP o.ps=Q
 qn:qn=ilen o.ps
 l:Tb.cellsF o.li=L
 ln:ln=ilen o.li
theorem qzago (o:Ot) {D:List SV}{dn:Int}{Q:List SV}{qn:Int}{L:List SV}{ln:Int}(h:OtN o D dn Q qn L ln):mkv true (((otC o).drop 0).take 7)=some (.ag (otK o D dn Q qn L ln)):=by
 obtain⟨h1,h2,h3,h4,h5,h6⟩:=h;subst h1 h2 h3 h4 h5 h6;rfl
theorem ot_n (o:Ot):∃ D dn Q qn L ln,OtN o D dn Q qn L ln:=⟨_,_,_,_,_,_,rfl,rfl,rfl,rfl,rfl,rfl⟩
def stF (Q:List SV) (qn:Int):SV:=.ag [.i .u8 (.l 4),.i .u8 (.l 0),.i .i64 (.l 0),.re (.slice none 0 0),.i .i64 (.l 0),.i .i64 (.l 0),.i .i64 (.l 0),.i .u32 (.l 0),.v false 2 Q (.y qn),.ff,.ff,.i .i64 (.l 0),.i .u8 (.l 0)]
theorem dwaits_f {o:Ot}{D:List SV}{dn:Int}{Q:List SV}{qn:Int}{L:List SV}{ln:Int}{t:Bool}(ok:OtOk o) (hn:OtN o D dn Q qn L ln) (ht:waitB o=t)
  (hsz:∀ (bl:List Blk) (K:SV->List Blk->Prop),K (.i .i64 (.y (Tb.fullL o.li))) bl->(S0 Tryz.prog).call 58 [.v false 2 L (.y ln)] bl K)
  (hset:∀ (bl:List Blk) (K:SV->List Blk->Prop),K (.b (o.ps.all prB)) bl->(S0 Tryz.prog).call 57 [stF Q qn] bl K):
  (S0 Tryz.prog).call 26 [.ag (otK o D dn Q qn L ln)] [] (λx _=>Sub x (.b t)):=by
 obtain⟨f,hf⟩:∃ f,Tb.fullL o.li=f:=⟨_,rfl⟩;obtain⟨p,hp⟩:∃ p,o.ps.all prB=p:=⟨_,rfl⟩;have hfb:=ok.lf;have hdn:=hn.dn;unfold waitB at ht;rw[hp,hf,<-hdn] at ht;rw[hp] at hset;rw[hf] at hsz;rw[hf] at hfb;obtain⟨k,st,sz,co,da,ps,li⟩:=o;dsimp only at *;unfold otK;unfold stF at hset;generalize hS:S0 Tryz.prog=S at *;refine qaa hS I.qsr ?_;cbv
 repeat' (first|(refine qac hS ?_ ?_<;>intro h<;>(try cbv)<;>try exact s_ab h)|(refine hset _ _ ?_;cbv)|(refine hsz _ _ ?_;cbv)|fail)
 all_goals subst ht
 all_goals first
  | (refine qgc ?_;simp [*];done)
  | (refine qao ?_;simp [*];omega)
  | (refine qao ?_;simp [*];done)
  | (refine qgc ?_;subst hS;simp only[cr];simp [*];done)
  | (refine qgc ?_;subst hS;simp only[cr];simp [*];omega)
end Wr
end Cz
namespace Cz
open Go Go.RowKit Go.Proofs
namespace Wr
theorem qdc {l':List Blk}{k sz:Nat}{lit:Bool}{st z n:Z}{F G:List SV}(hB:l'[k]?=some (.r false lit st sz G)) (hG:G=F) (hp:plains F=true) (hz:z.v=n.v) (hl:ilen F=n.v*sz) (g:Nat->Nat):Fz l' g [] (.sl k sz (.l 0) z none) (.v false sz F n):=by
 subst hG;refine .row hB rfl (.fsub ?_ hp) hp hz;rw[show (Z.l 0).v.toNat*sz=0 by simp [Z.v],List.drop_zero,List.take_of_length_le]
 ·exact .rfl
 ·unfold ilen at hl
  rw[hz]
  have:(G.length:Int)<=(n.v.toNat*sz:Nat):=by
   rw[hl]
   push_cast
   exact Int.mul_le_mul_of_nonneg_right (Int.self_le_toNat _) (by omega)
  omega
theorem clp_f {F:List SV}{n:Int}(hpl:plains F=true) (hlen:ilen F=n*2) (h0:0<=n) (hb:n<=100000000):(S0 Tryz.prog).call 116 [.v false 2 F (.y n)] [] (Tell (.v false 2 F (.y n))):=by
 generalize hS:S0 Tryz.prog=S;refine qaa hS I.qmb ?_;cbv;refine s_nil hS (λh=>?_) ?_
 ·cbv
  have:F=[]:=List.eq_nil_of_length_eq_zero (by unfold ilen at hlen;omega)
  subst this;exact λg=>.nil (by decide) h
 ·cbv
  repeat' (first|(refine s_ck hS ?_;try cbv)|fail)
  have e1:S.app [] F=F:=by subst hS;rw[qfv];rfl
  exact λg=>qdc (n:=.y n) rfl e1 hpl rfl hlen g
theorem clf_f {F:List SV}{n:Int}(hpl:plains F=true) (hlen:ilen F=n*2) (h0:0<=n) (hb:n<=100000000):(S0 Tryz.prog).call 98 [.v false 2 F (.y n)] [] (Tell (.v false 2 F (.y n))):=by
 generalize hS:S0 Tryz.prog=S;refine qaa hS I.qkp ?_;cbv;refine s_nil hS (λh=>?_) ?_
 ·cbv
  have:F=[]:=List.eq_nil_of_length_eq_zero (by unfold ilen at hlen;omega)
  subst this;exact λg=>.nil (by decide) h
 ·cbv
  repeat' (first|(refine s_ck hS ?_;try cbv)|fail)
  have e1:S.app [] F=F:=by subst hS;rw[qfv];rfl
  exact λg=>qdc (n:=.y n) rfl e1 hpl rfl hlen g
theorem cli_f {F:List SV}{n:Int}(hpl:plains F=true) (hlen:ilen F=n*1) (h0:0<=n) (hb:n<=100000000):(S0 Tryz.prog).call 99 [.v false 1 F (.y n)] [] (Tell (.v false 1 F (.y n))):=by
 generalize hS:S0 Tryz.prog=S;refine qaa hS I.qkq ?_;cbv;refine s_nil hS (λh=>?_) ?_
 ·cbv
  have:F=[]:=List.eq_nil_of_length_eq_zero (by unfold ilen at hlen;omega)
  subst this;exact λg=>.nil (by decide) h
 ·cbv
  repeat' (first|(refine s_ck hS ?_;try cbv)|fail)
  have e1:S.app [] F=F:=by subst hS;rw[qfv];rfl
  exact λg=>qdc (n:=.y n) rfl e1 hpl rfl hlen g
section
variable {S:Sy}{l:List Blk}{K:SV->List Blk->Prop}{F:List SV}{n:Int}
theorem clp_u (hS:S0 Tryz.prog=S) (hpl:plains F=true) (hlen:ilen F=n*2) (h0:0<=n) (hb:n<=100000000) (hK:K (.v false 2 F (.y n)) l):S.call 116 [.v false 2 F (.y n)] l K:=
 qaq hS (clp_f hpl hlen h0 hb) (.cons .rfl .nil) rfl hK
theorem clf_u (hS:S0 Tryz.prog=S) (hpl:plains F=true) (hlen:ilen F=n*2) (h0:0<=n) (hb:n<=100000000) (hK:K (.v false 2 F (.y n)) l):S.call 98 [.v false 2 F (.y n)] l K:=
 qaq hS (clf_f hpl hlen h0 hb) (.cons .rfl .nil) rfl hK
theorem cli_u (hS:S0 Tryz.prog=S) (hpl:plains F=true) (hlen:ilen F=n*1) (h0:0<=n) (hb:n<=100000000) (hK:K (.v false 1 F (.y n)) l):S.call 99 [.v false 1 F (.y n)] l K:=
 qaq hS (cli_f hpl hlen h0 hb) (.cons .rfl .nil) rfl hK
end
theorem qzaui {α:Type}{e:α->List SV}(he:∀ a,(e a).length=2) (l:List α):ilen (l.flatMap e)=ilen l*2:=by
 have:=qsb (enc:=e) he l
 unfold ilen;omega
theorem ours_f {o:Ot}{D:List SV}{dn:Int}{Q:List SV}{qn:Int}{L:List SV}{ln:Int}(ok:OtOk o) (hn:OtN o D dn Q qn L ln):
  (S0 Tryz.prog).call 52 [.ag (otK o D dn Q qn L ln)] [] (Tell (.ag (otK o D dn Q qn L ln))):=by
 have q1:plains Q=true:=hn.q▸qzadb _;have q2:ilen Q=qn*2:=by rw[<-hn.q,hn.qn];exact qzaui (λ_=>rfl) _
 have q3:0<=qn/\qn<=100000000:=by rw[hn.qn];exact⟨qaj _,by have:=ok.pl;omega⟩
 have l1:plains L=true:=hn.l▸Tb.qri _;have l2:ilen L=ln*2:=by rw[<-hn.l,hn.ln];exact qzaui (λ_=>rfl) _
 have l3:0<=ln/\ln<=100000000:=by rw[hn.ln];exact⟨qaj _,by have:=ok.ll;omega⟩
 have d3:dn<=100000000:=by rw[hn.dn];have:=ok.dl;omega
 obtain⟨k,st,sz,co,da,ps,li⟩:=o;unfold otK;generalize hS:S0 Tryz.prog=S;refine qaa hS I.qzaok ?_;cbv
 repeat' (first|(refine qag hS rfl I.qzadg (by decide +kernel) ?_;cbv)|(refine qzapa hS hn.d hn.dn d3 ?_;cbv)|(refine clp_u hS q1 q2 q3.1 q3.2 ?_;cbv)|(refine clf_u hS l1 l2 l3.1 l3.2 ?_;cbv)|fail)
 exact λg=>.sub .rfl rfl
section
variable {S:Sy}{l:List Blk}{K:SV->List Blk->Prop}
theorem ours_u (hS:S0 Tryz.prog=S) {o:Ot}{D:List SV}{dn:Int}{Q:List SV}{qn:Int}{L:List SV}{ln:Int}(ok:OtOk o) (hn:OtN o D dn Q qn L ln) (hK:K (.ag (otK o D dn Q qn L ln)) l):S.call 52 [.ag (otK o D dn Q qn L ln)] l K:=
 qaq hS (ours_f ok hn) (.cons .rfl .nil) rfl hK
theorem app_O (hS:S0 Tryz.prog=S) {os:List Ot}{x:Int}{o:Ot}{F G:List SV}(h0:0<=x) (hy:os[x.toNat]?=some o) (hF:cellsO (os.take x.toNat)=F) (hG:G=otC o):cellsO (os.take (x+1).toNat)=S.app F G:=by
 subst hS hF hG;rw[qfv,show (x+1).toNat=x.toNat+1 by omega,List.take_add_one,hy];unfold cellsO;rw[List.flatMap_append]
 simp
theorem app_S (hS:S0 Tryz.prog=S) {ss:List St}{x:Int}{s:St}{F G:List SV}(h0:0<=x) (hy:ss[x.toNat]?=some s) (hF:cellsS (ss.take x.toNat)=F) (hG:G=stC s):cellsS (ss.take (x+1).toNat)=S.app F G:=by
 subst hS hF hG;rw[qfv,show (x+1).toNat=x.toNat+1 by omega,List.take_add_one,hy];unfold cellsS;rw[List.flatMap_append]
 simp
end
structure LnN (os:List Ot) (tr:List Tb.Fd) (zs:List Int) (ss:List St) (Fo:List SV) (no:Int) (Fr:List SV) (nr:Int) (Fz:List SV) (nz:Int) (Fs:List SV) (ns:Int):Prop where
 o:cellsO os=Fo
 on:no=ilen os
 ob:no<=1000
 oo:∀ o∈os,OtOk o
 r:Tb.cellsF tr=Fr
 rn:nr=ilen tr
 rb:nr<=100000
 rf:Tb.fullL tr<=10000000
 z:cellsI zs=Fz
 zn:nz=ilen zs
 zb:nz<=1000
 s:cellsS ss=Fs
 sn:ns=ilen ss
 sb:ns<=1000
 so:∀ s∈ss,StOk s
section
variable {os:List Ot}{tr:List Tb.Fd}{zs:List Int}{ss:List St}{Fo:List SV}{no tm:Int}{Fr:List SV}{nr:Int}{Fz:List SV}{nz se re ow:Int}{Fs:List SV}{ns w:Int}{H:Nat->Int}{sh:Bool}
theorem own_f (hn:LnN os tr zs ss Fo no Fr nr Fz nz Fs ns):
  (S0 Tryz.prog).call 39 [.ag (lnK Fo no tm Fr nr Fz nz se re ow Fs ns w H sh)] [] (KeptZ (λsts=>sts 1=0) [(7,Fo),(11,Fs)] (λm=>.ag [.sl m 7 (.l 0) (.y no) none,.i .i64 (.y tm),.v false 2 Fr (.y nr),.v false 1 Fz (.y nz),.i .i64 (.y se),.i .i64 (.y re),.i .i64 (.y ow),.sl (m+1) 11 (.l 0) (.y ns) none,.i .u64 (.y w),.i .i64 (.y (H 0)),.i .i64 (.y (H 1)),.i .i64 (.y (H 2)),.i .i64 (.y (H 3)),.i .i64 (.y (H 4)),.i .i64 (.y (H 5)),.i .i64 (.y (H 6)),.i .i64 (.y (H 7)),.b sh])):=by
 have o0:0<=no:=by rw[hn.on];exact qaj _
 have o1:=hn.ob;have o2:=hn.on;have s0:0<=ns:=by rw[hn.sn];exact qaj _
 have s1:=hn.sb;have s2:=hn.sn;have r1:plains Fr=true:=hn.r▸Tb.qri _;have r2:ilen Fr=nr*2:=by rw[<-hn.r,hn.rn];exact qzaui (λ_=>rfl) _
 have r3:0<=nr/\nr<=100000000:=by rw[hn.rn];exact⟨qaj _,by have:=hn.rb;have:=hn.rn;omega⟩
 have z1:plains Fz=true:=hn.z▸qll _;have z2:ilen Fz=nz*1:=by rw[<-hn.z,hn.zn,qsf];omega
 have z3:0<=nz/\nz<=100000000:=by rw[hn.zn];exact⟨qaj _,by have:=hn.zb;have:=hn.zn;omega⟩
 refine call_fresh ?_;unfold lnK;generalize hS:S0 Tryz.prog=S;refine qaa hS I.qzasq ?_;cbv
 repeat' (first|(refine qaa hS I.qgk ?_;cbv)|(refine qbq hS I.qel ?_;cbv)|fail)
 refine qcf hS 2 0 7 (by decide) rfl rfl ?_;cbv;refine qad hS 7 I.qcj (λx:Int×Int×List SV=>0<=x.1/\x.1<=no/\cellsO (os.take x.1.toNat)=x.2.2) (λx=>[(7,.i .i64 (.y x.1))])
  (λx=>[(2,.c [.sl 6 7 (.l 0) (.y x.1) none]),(6,.r false false (.y x.2.1) 7 x.2.2)]) (λx=>(no-x.1).toNat) (0,0,[]) rfl ⟨⟨Int.le_refl _,o0,rfl⟩,rfl,?_,?_,by cbv⟩ ?_
 ·cbv;exact s_qA
 ·cbv;exact s_qA
 intro x;obtain⟨x,st,F⟩:=x;intro hx;dsimp only at hx;cbv;obtain⟨g0,g1,g2⟩:=hx;have hFp:plains F=true:=g2▸qdr _;have hFl:ilen F=x*7:=by rw[<-g2];have:=qzabd (os.take x.toNat);rw[List.length_take] at this;unfold ilen at *;omega
 refine s_br hS ?_ ?_<;>intro h'<;>cbv<;>simp only[<-hS,Int.ofNat_eq_natCast,cq,Bool.not_eq_true',Bool.not_eq_false',decide_eq_true_eq,decide_eq_false_iff_not,beq_iff_eq,beq_eq_false_iff_ne,ne_eq] at h'
 ·obtain⟨o,hy⟩:=qbi (l:=os) (i:=x) (by omega) g0
  obtain⟨D,dn,Q,qn,L,ln,hN⟩:=ot_n o;have ok:=hn.oo o (List.mem_of_getElem? hy);have hmk:=qzago o hN;have hap:=app_O hS (G:=otK o D dn Q qn L ln) g0 hy g2 (by obtain⟨e1,e2,e3,e4,e5,e6⟩:=hN;subst e1 e2 e3 e4 e5 e6;rfl);obtain⟨k,ost,sz,co,da,ps,li⟩:=o
  repeat' (first|(refine s_ck hS ?_;try cbv)|(refine s_ad hS ?_;intro _ _;try cbv)|(refine qal hS (enc:=otC) (l:=os) hn.o hy (λ_=>rfl) g0 (by omega) hmk ?_;cbv)|(refine qfw hS rfl rfl ?_;cbv)|(refine qag hS rfl I.qzagq (by decide +kernel) ?_;cbv)|(refine ours_u hS (o:=⟨k,ost,sz,co,da,ps,li⟩) ok hN ?_;cbv)|fail)
  rename_i r e;have e8:r=S.pl x (Int.ofNat 1):=by subst hS;exact e
  have e9:S.pl x (Int.ofNat 1)=x+1:=by subst hS;rfl
  subst e8;refine⟨(S.pl x (Int.ofNat 1),S.flen F,S.app F (otK ⟨k,ost,sz,co,da,ps,li⟩ D dn Q qn L ln)),by dsimp only;rw[e9];omega,⟨by dsimp only;rw[e9];omega,by dsimp only;rw[e9];omega,by dsimp only;rw[e9];exact hap⟩,rfl,?_,?_,by cbv⟩
  ·cbv;exact s_qA
  ·cbv;exact s_qA
 ·have hxn:x=no:=by omega
  subst hxn;have hFo:F=Fo:=by rw[<-g2,<-hn.o,qcs (by omega)]
  subst hFo;clear g2 h' g0 g1;refine qmi hS 6 11 (by omega) rfl ?_;cbv;refine qad hS 8 I.qzadz (λx:Int×Int×List SV=>0<=x.1/\x.1<=ns/\cellsS (ss.take x.1.toNat)=x.2.2) (λx=>[(22,.i .i64 (.y x.1)),(6,.sl 7 11 (.l 0) (.y x.1) none)])
   (λx=>[(7,.r false false (.y x.2.1) 11 x.2.2)]) (λx=>(ns-x.1).toNat) (0,0,[]) rfl ⟨⟨Int.le_refl _,s0,rfl⟩,rfl,?_,?_,by cbv⟩ ?_
  ·cbv;exact s_qA
  ·cbv;exact s_qA
  intro y;obtain⟨y,st2,G⟩:=y;intro hx;dsimp only at hx;cbv;obtain⟨g0,g1,g2⟩:=hx;have hGp:plains G=true:=g2▸qak _;have hGl:ilen G=y*11:=by rw[<-g2];have:=qcq (ss.take y.toNat);rw[List.length_take] at this;unfold ilen at *;omega
  refine s_br hS ?_ ?_<;>intro h'<;>cbv<;>simp only[<-hS,Int.ofNat_eq_natCast,cq,Bool.not_eq_true',Bool.not_eq_false',decide_eq_true_eq,decide_eq_false_iff_not,beq_iff_eq,beq_eq_false_iff_ne,ne_eq] at h'
  ·obtain⟨s,hy⟩:=qbi (l:=ss) (i:=y) (by omega) g0
   obtain⟨D,hD⟩:∃ F,cellsB s.o=F:=⟨_,rfl⟩;obtain⟨dn,hdn⟩:∃ m,m=ilen s.o:=⟨_,rfl⟩;have ok:=hn.so s (List.mem_of_getElem? hy);have hmk:=qdg s hD hdn;have hap:=app_S hS (G:=stK s D dn) g0 hy g2 (by subst hD hdn;rfl);obtain⟨id,sst,sse,sre,sow,an,en,o,ur,ic,sl⟩:=s;dsimp only at hD hdn
   repeat' (first|(refine s_ck hS ?_;try cbv)|(refine s_ad hS ?_;intro _ _;try cbv)|(refine qal hS (enc:=stC) (l:=ss) hn.s hy (λ_=>rfl) g0 (by omega) hmk ?_;cbv)|(refine qeq hS ⟨id,sst,sse,sre,sow,an,en,o,ur,ic,sl⟩ ok hD hdn ?_;cbv)|fail)
   rename_i r e;have e8:r=S.pl y (Int.ofNat 1):=by subst hS;exact e
   have e9:S.pl y (Int.ofNat 1)=y+1:=by subst hS;rfl
   subst e8;refine⟨(S.pl y (Int.ofNat 1),S.flen G,S.app G (stK ⟨id,sst,sse,sre,sow,an,en,o,ur,ic,sl⟩ D dn)),by dsimp only;rw[e9];omega,⟨by dsimp only;rw[e9];omega,by dsimp only;rw[e9];omega,by dsimp only;rw[e9];exact hap⟩,rfl,?_,?_,by cbv⟩
   ·cbv;exact s_qA
   ·cbv;exact s_qA
  ·have hyn:y=ns:=by omega
   subst hyn;have hGs:G=Fs:=by rw[<-g2,<-hn.s,qcs (by omega)]
   subst hGs
   repeat' (first|(refine qag hS rfl I.qzagp (by decide +kernel) ?_;cbv)|(refine clf_u hS r1 r2 r3.1 r3.2 ?_;cbv)|(refine cli_u hS z1 z2 z3.1 z3.2 ?_;cbv)|fail)
   refine⟨7,11,.y y,false,.y st2,G,[.sl 6 7 (.l 0) (.y x) none,.i .i64 (.y tm),.v false 2 Fr (.y nr),.v false 1 Fz (.y nz),.i .i64 (.y se),.i .i64 (.y re),.i .i64 (.y ow)],[.i .u64 (.y w),.i .i64 (.y (H 0)),.i .i64 (.y (H 1)),.i .i64 (.y (H 2)),.i .i64 (.y (H 3)),.i .i64 (.y (H 4)),.i .i64 (.y (H 5)),.i .i64 (.y (H 6)),.i .i64 (.y (H 7)),.b sh],rfl,rfl,rfl,rfl,hGp,?_,[some 6,some 7],⟨⟨_,_,_,rfl,.rfl⟩,rfl,⟨_,_,_,rfl,.rfl⟩,rfl,trivial⟩,λm=>.ag ?_,rfl⟩
   ·simp only[Z.v]
    unfold ilen at hGl;omega
   ·repeat' (first|exact .nil|refine .cons ?_ ?_|exact .keep (i:=0) rfl rfl rfl|exact .keep (i:=1) rfl rfl rfl|exact .sub .rfl rfl)
end
section
variable {S:Sy}{l:List Blk}{K:SV->List Blk->Prop}{os:List Ot}{tr:List Tb.Fd}{zs:List Int}{ss:List St}{Fo:List SV}{no tm:Int}{Fr:List SV}{nr:Int}{Fz:List SV}{nz se re ow:Int}{Fs:List SV}{ns w:Int}{H:Nat->Int}{sh:Bool}
theorem qkk (hS:S0 Tryz.prog=S) (hn:LnN os tr zs ss Fo no Fr nr Fz nz Fs ns)
  (hK:∀ st,K (.ag [.sl (len l) 7 (.l 0) (.y no) none,.i .i64 (.y tm),.v false 2 Fr (.y nr),.v false 1 Fz (.y nz),.i .i64 (.y se),.i .i64 (.y re),.i .i64 (.y ow),.sl (len l+1) 11 (.l 0) (.y ns) none,.i .u64 (.y w),.i .i64 (.y (H 0)),.i .i64 (.y (H 1)),.i .i64 (.y (H 2)),.i .i64 (.y (H 3)),.i .i64 (.y (H 4)),.i .i64 (.y (H 5)),.i .i64 (.y (H 6)),.i .i64 (.y (H 7)),.b sh])
   (snoc (snoc l (.r false false (.y st) 7 Fo)) (.r false false (.y 0) 11 Fs))):S.call 39 [.ag (lnK Fo no tm Fr nr Fz nz se re ow Fs ns w H sh)] l K:=by
 refine use_keptZ hS (own_f (tm:=tm) (se:=se) (re:=re) (ow:=ow) (w:=w) (H:=H) (sh:=sh) hn) .rfl rfl ⟨⟨by decide,hn.o▸qdr _⟩,⟨by decide,hn.s▸qak _⟩,trivial⟩ λsts hz=>?_;have h1:sts 1=0:=hz
 have:rowBs sts [(7,Fo),(11,Fs)] 0=[.r false false (.y (sts 0)) 7 Fo,.r false false (.y 0) 11 Fs]:=by simp only[rowBs];rw[show sts (0+1)=0 from h1]
 rw[this];exact hK (sts 0)
end
end Wr
end Cz
