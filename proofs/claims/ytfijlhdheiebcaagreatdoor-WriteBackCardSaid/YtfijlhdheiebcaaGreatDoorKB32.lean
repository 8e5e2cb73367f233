/- What the claims of this group lean on: WsR. No condition. -/
import Derived.Test.YtfijlhdheiebcaaGreatDoorKB31
set_option linter.unusedSimpArgs false
set_option linter.unusedVariables false
set_option maxRecDepth 100000
set_option maxHeartbeats 4000000
namespace Cz
open Go Go.RowKit Go.Proofs
namespace Wr
def mpE (ms:List (Int×Int)):List (SV×SV):=ms.map λp=>(.i .i64 (.y p.1),.i .i64 (.y p.2))
theorem qqd (m:Nat):∀ {ms:List (Int×Int)}{E:List (SV×SV)},mpE ms=E->gcM m E=true
 | [],_,h=>by subst h;rfl
 | p::r,_,h=>by
  subst h
  have:=qqd m (ms:=r) rfl
  simp only[mpE,List.map_cons,gcM,refsB,Bool.true_and];exact this
section
variable {P:Program}{S:Sy}
theorem veq_i (hS:S0 P=S) {a b:Int}{k1 k2:Unit->Prop}(h1:a=b->k1 ()) (h2:a≠b->k2 ()):veq S ⟨false,[.ki]⟩ (.i .i64 (.y a)) (.i .i64 (.y b)) k1 k2:=by
 show S.br (S.cmp .eq a b) (λ_=>k1 ()) k2;subst hS;exact⟨λe=>h1 (of_decide_eq_true e),λe=>h2 (of_decide_eq_false e)⟩
theorem lk_w (hS:S0 P=S) {a:Int}{zero:SV}{K:SV->Bool->Prop}{ms:List (Int×Int)}{E:List (SV×SV)}(hE:mpE ms=E) (h1:∀ v,(a,v)∈ms->K (.i .i64 (.y v)) true) (h2:findB ms a=false->K zero false):S.lk ⟨false,[.ki]⟩ (.i .i64 (.y a)) K zero E:=by
 refine s_lk hS ?_;subst hE;rw[qzawe] at h2
 induction ms with
 | nil=>exact h2 (by simp)
 | cons p r ih=>
  obtain⟨k,v⟩:=p;simp only[mpE,List.map_cons,vlook];refine veq_i hS (λe=>?_) (λe=>?_)
  ·exact h1 v (by rw[e];simp)
  ·exact ih (λv hv=>h1 v (by simp [hv])) (λhn=>h2 (by simp only[List.map_cons,List.mem_cons,not_or];exact⟨e,hn⟩))
theorem lk_y (hS:S0 P=S) {a:Int}{zero:SV}{K:SV->Bool->Prop}{ms:List (Int×Int)}{E:List (SV×SV)}(hE:mpE ms=E) (hb:findB ms a=true) (h:∀ v,K (.i .i64 (.y v)) true):S.lk ⟨false,[.ki]⟩ (.i .i64 (.y a)) K zero E:=
 lk_w hS hE (λv _=>h v) λe=>by rw[hb] at e;cases e
theorem lk_n (hS:S0 P=S) {a:Int}{zero:SV}{K:SV->Bool->Prop}{ms:List (Int×Int)}{E:List (SV×SV)}(hE:mpE ms=E) (hb:findB ms a=false) (h:K zero false):S.lk ⟨false,[.ki]⟩ (.i .i64 (.y a)) K zero E:=
 lk_w hS hE (λv hv=>by have:=qzafg.2 (List.mem_map.2 ⟨_,hv,rfl⟩);rw[hb] at this;cases this) λ_=>h
theorem mu_w (hS:S0 P=S) {a v:Int}{K:List (SV×SV)->Prop}{ms:List (Int×Int)}{E:List (SV×SV)}(hE:mpE ms=E) (h0:findB ms a=false) (h:∀ E',mpE (ms++[(a,v)])=E'->K E'):S.mu ⟨false,[.ki]⟩ (.i .i64 (.y a)) (.i .i64 (.y v)) K [] E:=by
 refine s_mu hS ?_;rw[qzawe] at h0;have main:∀ (r:List (Int×Int)) (acc:List (SV×SV)),a∉r.map (·.1)->acc++mpE r=E->vmupd S ⟨false,[.ki]⟩ (.i .i64 (.y a)) (.i .i64 (.y v)) K acc (mpE r):=by
  intro r
  induction r with
  | nil=>
   intro acc _ he;simp only[mpE,List.map_nil,List.append_nil,vmupd] at he ⊢;refine h _ ?_;rw[he,<-hE];simp [mpE]
  | cons p r ih=>
   intro acc hn he;obtain⟨k,w⟩:=p;simp only[List.map_cons,List.mem_cons,not_or] at hn;simp only[mpE,List.map_cons,vmupd];exact veq_i hS (λe=>absurd e hn.1) λ_=>ih _ hn.2 (by rw[<-he];simp [mpE])
 have:=main ms [] h0 (by simpa using hE)
 rwa[hE] at this
end
section
variable {S:Sy}{l:List Blk}{K:SV->List Blk->Prop}
theorem rturn_u (hS:S0 Tryz.prog=S) {L L':List (Int×Int)}{H H':Nat->Int}{w s u k:Int}(hR:GoodR L H) (hw:w=wdI L) (hs:0<=s/\s<=7) (hu:0<=u/\u<=7) (hk:ofK (allR L H) s=k) (hb:ofB (allR L H) s=true) (hne:k≠u) (ho:(outR L H s).1=(L',H')) (w':Int) (hw':w'=wdI (insL L' (s,u)))
  (h:K (.tp [.ag (rdyC w' H'),.tt]) l):S.call 136 [.ag (rdyC w H),.i .i64 (.y s),.i .i64 (.y u)] l K:=by
 have ho2:outR L H s=((L',H'),true):=by
  obtain⟨h1,_⟩:=out_r (L':=(outR L H s).1.1) (H':=(outR L H s).1.2) (t:=(outR L H s).2) hR rfl;rw[hb] at h1;exact Prod.ext ho h1
 subst hS;exact qai (qae (rturn_f hR hw hs hu hk hb hne ho2 hw') λx _ hx=>⟨_,hx,.rfl⟩) rfl rfl h
end
def bxK (k1 k2:Nat) (off no tm:Int) (Fr:List SV) (nr:Int) (Fz:List SV) (nz se re ow ns w:Int) (H:Nat->Int) (sh:Bool):List SV:=
 [.sl k1 7 (.y off) (.y no) none,.i .i64 (.y tm),.v false 2 Fr (.y nr),.v false 1 Fz (.y nz),.i .i64 (.y se),.i .i64 (.y re),.i .i64 (.y ow),.sl k2 11 (.l 0) (.y ns) none,.i .u64 (.y w),.i .i64 (.y (H 0)),.i .i64 (.y (H 1)),.i .i64 (.y (H 2)),.i .i64 (.y (H 3)),.i .i64 (.y (H 4)),.i .i64 (.y (H 5)),.i .i64 (.y (H 6)),.i .i64 (.y (H 7)),.b sh]
theorem first3:∀ i,i<3->([some 0,some 1,some 2]:List (Option Nat))[i]?=some (some i)
 | 0,_=>rfl
 | 1,_=>rfl
 | 2,_=>rfl
section
variable {ss sx:List St}{off no tm:Int}{Fr:List SV}{nr:Int}{Fz:List SV}{nz se re ow:Int}{Fs:List SV}{ns w w':Int}{H H':Nat->Int}{sh:Bool}{L L':List (Int×Int)}{st1 st2:Int}{Fo:List SV}
theorem on_last {R:Rd}{W:List (Int×Int)}{y:Int×Int}:onL R (W++[y])=onS (onL R W) y:=by unfold onL;rw[List.foldl_append];rfl
theorem want_bdt {ss:List St}(hg:GdS ss) (a:Int) (n:Nat):Bd8 (want (ss.take n) a)/\((want (ss.take n) a).map (·.1)).Nodup:=by
 have h:=gds_sub hg (List.take_sublist n ss);exact⟨qzamj h a,qzami h a⟩
theorem want_new {ss:List St}(hg:GdS ss) {a:Int}{k:Nat}{s:St}(hy:ss[k]?=some s) (hs:sendB s a=true):findB (want (ss.take k) a) s.sl=false:=by
 rw[qzawe];intro h
 have:=(want_sub (ss:=ss.take k) a).subset h
 exact qzaqv hg hy (qdh hs) this
theorem settle_f (hg:GdS ss) (hF:cellsS sx=Fs) (hpre:∃ ex,sx=ss++ex) (hn:ns=ilen ss) (hbw:Big se) (hR:GoodR L H) (hw:w=wdI L) (hset:settleR (L,H) (want ss se)=(L',H')) (hw':w'=wdI L') (hfo:plains Fo=true):
  (S0 Tryz.prog).call 69 [.p 0 0] [.c (bxK 1 2 off no tm Fr nr Fz nz se re ow ns w H sh),.r false false (.y st1) 7 Fo,.r false false (.y st2) 11 Fs]
   (PostB 3 (λ_ g=>[.c (bxK (g 1) (g 2) off no tm Fr nr Fz nz se re ow ns w' H' sh),.r false false (.y st1) 7 Fo,.r false false (.y st2) 11 Fs]) (λ_=>.any)):=by
 have s0:0<=ns:=by rw[hn];exact qaj _
 have s8:ns<=8:=by rw[hn];exact hg.len
 have hfs:plains Fs=true:=hF▸qak _;have hat:∀ (j:Nat) (s:St),ss[j]?=some s->sx[j]?=some s:=λj s h=>by
  obtain⟨ex,rfl⟩:=hpre;rw[List.getElem?_append_left (List.getElem?_eq_some_iff.1 h).1];exact h
 have hsx:(ilen ss:Int)<=ilen sx:=by obtain⟨ex,rfl⟩:=hpre;unfold ilen;rw[List.length_append];omega
 have hWb:=qzamj hg se;unfold bxK;generalize hS:S0 Tryz.prog=S;refine qaa hS I.qzahn ?_;cbv
 repeat' (first|(refine qaa hS I.qhd ?_;cbv)|(refine qbq hS I.qfk ?_;cbv)|fail)
 refine qad hS 9 I.qde (λx:Int×List (SV×SV)=>0<=x.1/\x.1<=ns/\mpE (want (ss.take x.1.toNat) se)=x.2) (λx=>[(8,.i .i64 (.y x.1))]) (λx=>[(4,.m x.2)]) (λx=>(ns-x.1).toNat) (0,[]) rfl ⟨⟨Int.le_refl _,s0,rfl⟩,rfl,?_,?_,by cbv⟩ ?_
 ·cbv;exact s_qA
 ·cbv;exact s_qA
 intro z;obtain⟨z,E⟩:=z;intro hx;dsimp only at hx;cbv;obtain⟨j0,j1,j2⟩:=hx;refine qac hS ?_ ?_<;>intro h3<;>cbv
 ·obtain⟨s,hy⟩:=qbi (l:=ss) (i:=z) (by omega) j0
  obtain⟨D,hD⟩:∃ F,cellsB s.o=F:=⟨_,rfl⟩;obtain⟨dn,hdn⟩:∃ m,m=ilen s.o:=⟨_,rfl⟩;have hm:=List.mem_of_getElem? hy;obtain⟨ok,q1,q2,q3⟩:=hg.ok s hm;have hmk:=qdg s hD hdn;have hur:=(qpy ok q1).2;have htk:=qzafr (a:=se) j0 hy;have hyx:=hat _ _ hy;cases hsd:sendB s se with
  | true=>
   rw[hsd,if_pos rfl] at htk;have hnew:=want_new hg hy hsd;obtain⟨id,sst,sse,sre,sow,an,en,o,ur,ic,sl⟩:=s;dsimp only at hD hdn hur hnew htk
   repeat' (first|(refine s_ck hS ?_;try cbv)|(refine qac hS ?_ ?_<;>intro h<;>(try cbv)<;>try exact s_ab h)|(refine s_ad hS ?_;intro _ _;try cbv)|(refine qdd hS ?_;try cbv)|(refine qal hS (enc:=stC) (l:=sx) hF hyx (λ_=>rfl) j0 (by omega) hmk ?_;cbv)|(refine qcl hS ⟨id,sst,sse,sre,sow,an,en,o,ur,ic,sl⟩ true ok hbw hD hdn hsd ?_;cbv)|(refine qfw hS rfl rfl ?_;cbv)|(refine mu_w hS j2 hnew ?_;intro E' hE';cbv)|fail)
   all_goals first
    | (exfalso;omega)
    | (rename_i r2 e2;exact⟨(r2,E'),by dsimp only;omega,⟨by dsimp only;omega,by dsimp only;omega,by dsimp only;rw[e2,htk];exact hE'⟩,rfl,by cbv;exact s_qA,by cbv;exact s_qA,by cbv;(have ga:=qqd 9 hE';cbv at ga;rw[ga])⟩)
  | false=>
   rw[hsd,if_neg (by decide)] at htk;obtain⟨id,sst,sse,sre,sow,an,en,o,ur,ic,sl⟩:=s;dsimp only at hD hdn hur
   repeat' (first|(refine s_ck hS ?_;try cbv)|(refine qac hS ?_ ?_<;>intro h<;>(try cbv)<;>try exact s_ab h)|(refine s_ad hS ?_;intro _ _;try cbv)|(refine qal hS (enc:=stC) (l:=sx) hF hyx (λ_=>rfl) j0 (by omega) hmk ?_;cbv)|(refine qcl hS ⟨id,sst,sse,sre,sow,an,en,o,ur,ic,sl⟩ false ok hbw hD hdn hsd ?_;cbv)|fail)
   all_goals first
    | (exfalso;omega)
    | (rename_i r2 e2;exact⟨(r2,E),by dsimp only;omega,⟨by dsimp only;omega,by dsimp only;omega,by dsimp only;rw[e2,htk];exact j2⟩,rfl,by cbv;exact s_qA,by cbv;exact s_qA,by cbv;(have ga:=qqd 9 j2;cbv at ga;rw[ga])⟩)
 ·have hzn:z=ns:=by omega
  have hE:mpE (want ss se)=E:=by rw[<-j2,qcs (by omega)]
  clear j2 h3 j0 j1;subst hzn;refine qad hS 9 I.qvn (λx:Int×List (Int×Int)×(Nat->Int)×Int=>0<=x.1/\x.1<=8/\offN (want ss se) (L,H) x.1.toNat=(x.2.1,x.2.2.1)/\x.2.2.2=wdI x.2.1) (λx=>[(22,.i .i64 (.y x.1))])
   (λx=>[(0,.c [.sl 1 7 (.y off) (.y no) none,.i .i64 (.y tm),.v false 2 Fr (.y nr),.v false 1 Fz (.y nz),.i .i64 (.y se),.i .i64 (.y re),.i .i64 (.y ow),.sl 2 11 (.l 0) (.y z) none,.i .u64 (.y x.2.2.2),.i .i64 (.y (x.2.2.1 0)),.i .i64 (.y (x.2.2.1 1)),.i .i64 (.y (x.2.2.1 2)),.i .i64 (.y (x.2.2.1 3)),.i .i64 (.y (x.2.2.1 4)),.i .i64 (.y (x.2.2.1 5)),.i .i64 (.y (x.2.2.1 6)),.i .i64 (.y (x.2.2.1 7)),.b sh])]) (λx=>(8-x.1).toNat) (0,L,H,w) rfl ⟨⟨Int.le_refl _,show (0:Int)<=8 by decide,rfl,hw⟩,rfl,?_,?_,by cbv;(have ga:=qqd 9 hE;cbv at ga;rw[ga])⟩ ?_
  ·cbv;exact s_qA
  ·cbv;exact s_qA
  intro y;obtain⟨y,M,G,v⟩:=y;intro hx;dsimp only at hx;cbv;obtain⟨j0,j1,j2,j3⟩:=hx;have hGR:=(off_n (W:=want ss se) (R:=(L,H)) hR y.toNat).1;rw[j2] at hGR;dsimp only at hGR;refine qac hS ?_ ?_<;>intro h3<;>cbv
  ·obtain⟨⟨⟨M',G'⟩,t⟩,hout⟩:∃ r,outR M G y=r:=⟨_,rfl⟩
   obtain⟨v',hv'⟩:∃ v,v=wdI M':=⟨_,rfl⟩;have ey:Int.ofNat y.toNat=y:=Int.toNat_of_nonneg j0;have hstep:∀ r,r=y+1->offN (want ss se) (L,H) r.toNat=if findB (want ss se) y=true then (M,G) else (M',G'):=λr hr=>by
    rw[show r.toNat=y.toNat+1 by omega,offN,j2,ey];unfold offS;rw[hout]
   cases hfb:findB (want ss se) y with
   | true=>
    have hst2:∀ r,r=y+1->offN (want ss se) (L,H) r.toNat=(M,G):=λr hr=>by rw[hstep r hr,hfb,if_pos rfl]
    repeat' (first|(refine s_ad hS ?_;intro _ _;try cbv)|(refine lk_y hS hE hfb ?_;intro u;cbv)|fail)
    all_goals first
     | (rename_i r e;exact⟨(r,M,G,v),by dsimp only;omega,⟨by dsimp only;omega,by dsimp only;omega,hst2 r (by omega),j3⟩,rfl,by cbv;exact s_qA,by cbv;exact s_qA,by cbv;(have ga:=qqd 9 hE;cbv at ga;rw[ga])⟩)
   | false=>
    have hst2:∀ r,r=y+1->offN (want ss se) (L,H) r.toNat=(M',G'):=λr hr=>by rw[hstep r hr,hfb,if_neg (by decide)]
    repeat' (first|(refine s_ad hS ?_;intro _ _;try cbv)|(refine lk_n hS hE hfb ?_;cbv)|(refine qag hS rfl I.qww (by decide +kernel) ?_;cbv)|(refine rout_u hS (H:=G) (H':=G') hGR j3 hout hv' ?_;cbv)|fail)
    all_goals first
     | (rename_i r e;exact⟨(r,M',G',v'),by dsimp only;omega,⟨by dsimp only;omega,by dsimp only;omega,hst2 r (by omega),hv'⟩,rfl,by cbv;exact s_qA,by cbv;exact s_qA,by cbv;(have ga:=qqd 9 hE;cbv at ga;rw[ga])⟩)
  ·have hy8:y.toNat=8:=by omega
   rw[hy8] at j2;have hgrr:(M,G)=offN (want ss se) (L,H) 8:=j2.symm;clear h3 j0 j1 hy8
   repeat' (first|(refine qaa hS I.qhd ?_;cbv)|(refine qbq hS I.qfk ?_;cbv)|fail)
   refine qad hS 12 I.qde (λx:Int×List (Int×Int)×(Nat->Int)×Int=>0<=x.1/\x.1<=z/\onL (M,G) (want (ss.take x.1.toNat) se)=(x.2.1,x.2.2.1)/\x.2.2.2=wdI x.2.1) (λx=>[(8,.i .i64 (.y x.1))])
    (λx=>[(0,.c [.sl 1 7 (.y off) (.y no) none,.i .i64 (.y tm),.v false 2 Fr (.y nr),.v false 1 Fz (.y nz),.i .i64 (.y se),.i .i64 (.y re),.i .i64 (.y ow),.sl 2 11 (.l 0) (.y z) none,.i .u64 (.y x.2.2.2),.i .i64 (.y (x.2.2.1 0)),.i .i64 (.y (x.2.2.1 1)),.i .i64 (.y (x.2.2.1 2)),.i .i64 (.y (x.2.2.1 3)),.i .i64 (.y (x.2.2.1 4)),.i .i64 (.y (x.2.2.1 5)),.i .i64 (.y (x.2.2.1 6)),.i .i64 (.y (x.2.2.1 7)),.b sh])]) (λx=>(z-x.1).toNat) (0,M,G,v) rfl ⟨⟨Int.le_refl _,s0,rfl,j3⟩,rfl,?_,?_,by cbv;(have ga:=qqd 12 hE;cbv at ga;rw[ga])⟩ ?_
   ·cbv;exact s_qA
   ·cbv;exact s_qA
   intro x;obtain⟨x,N,J,u⟩:=x;intro hx;dsimp only at hx;cbv;obtain⟨k0,k1,k2,k3⟩:=hx;have hNJ:GoodR N J:=by
    have hb:=want_bdt hg se x.toNat
    have:=(on_l (R:=(M,G)) hGR hb.1 hb.2).1
    rw[k2] at this;exact this
   refine qac hS ?_ ?_<;>intro h3<;>cbv
   ·obtain⟨s,hy⟩:=qbi (l:=ss) (i:=x) (by omega) k0
    obtain⟨D,hD⟩:∃ F,cellsB s.o=F:=⟨_,rfl⟩;obtain⟨dn,hdn⟩:∃ m,m=ilen s.o:=⟨_,rfl⟩;have hm:=List.mem_of_getElem? hy;obtain⟨ok,q1,q2,q3⟩:=hg.ok s hm;have hmk:=qdg s hD hdn;have hur:=(qpy ok q1).2;have htk:=qzafr (a:=se) k0 hy;have hyx:=hat _ _ hy;cases hsd:sendB s se with
    | true=>
     rw[hsd,if_pos rfl] at htk;have hsl:=qen hg hm (qdh hsd);obtain⟨k,hk⟩:∃ k,ofK (allR N J) s.sl=k:=⟨_,rfl⟩;obtain⟨⟨N2,J2⟩,ho⟩:∃ r,(outR N J s.sl).1=r:=⟨_,rfl⟩;have hon:∀ r,r=x+1->onL (M,G) (want (ss.take r.toNat) se)=onS (N,J) (s.sl,s.ur):=λr hr=>by rw[hr,htk,on_last,k2]
     cases hb:ofB (allR N J) s.sl with
     | false=>
      obtain⟨u',hu'⟩:∃ u,u=wdI (insL N (s.sl,s.ur)):=⟨_,rfl⟩;obtain⟨N',hN'⟩:∃ N',insL N (s.sl,s.ur)=N':=⟨_,rfl⟩;have hon2:∀ r,r=x+1->onL (M,G) (want (ss.take r.toNat) se)=(N',J):=λr hr=>by
       rw[hon r hr];unfold onS;dsimp only;rw[hb,if_neg (by decide),hN']
      have hu2:u'=wdI N':=by rw[hu',hN']
      obtain⟨id,sst,sse,sre,sow,an,en,o,ur,ic,sl⟩:=s;dsimp only at hD hdn hur hsl hk hb hu';clear hon htk hN'
      repeat' (first|(refine s_ck hS ?_;try cbv)|(refine qac hS ?_ ?_<;>intro h<;>(try cbv)<;>try exact s_ab h)|(refine s_ad hS ?_;intro _ _;try cbv)|(refine qdd hS ?_;try cbv)|(refine qal hS (enc:=stC) (l:=sx) hF hyx (λ_=>rfl) k0 (by omega) hmk ?_;cbv)|(refine qcl hS ⟨id,sst,sse,sre,sow,an,en,o,ur,ic,sl⟩ true ok hbw hD hdn hsd ?_;cbv)|(refine qfw hS rfl rfl ?_;cbv)|(refine qzajf hS (H:=J) hNJ k3 k false hk hb ?_;cbv)|(refine qag hS rfl I.qwv (by decide +kernel) ?_;cbv)|(refine qzavb hS (H:=J) hNJ k3 hsl hur hb u' hu' ?_;cbv)|fail)
      all_goals first
       | (rename_i r e;exact⟨(r,N',J,u'),by dsimp only;omega,⟨by dsimp only;omega,by dsimp only;omega,hon2 r (by omega),hu2⟩,rfl,by cbv;exact s_qA,by cbv;exact s_qA,by cbv;(have ga:=qqd 12 hE;cbv at ga;rw[ga])⟩)
     | true=>
      by_cases hku:k=s.ur
      ·have hon2:∀ r,r=x+1->onL (M,G) (want (ss.take r.toNat) se)=(N,J):=λr hr=>by
        rw[hon r hr];unfold onS;dsimp only;rw[hb,if_pos rfl,hk,if_pos hku]
       obtain⟨id,sst,sse,sre,sow,an,en,o,ur,ic,sl⟩:=s;dsimp only at hD hdn hur hsl hk hb hku;clear hon htk
       repeat' (first|(refine s_ck hS ?_;try cbv)|(refine qac hS ?_ ?_<;>intro h<;>(try cbv)<;>try exact s_ab h)|(refine s_ad hS ?_;intro _ _;try cbv)|(refine qdd hS ?_;try cbv)|(refine qal hS (enc:=stC) (l:=sx) hF hyx (λ_=>rfl) k0 (by omega) hmk ?_;cbv)|(refine qcl hS ⟨id,sst,sse,sre,sow,an,en,o,ur,ic,sl⟩ true ok hbw hD hdn hsd ?_;cbv)|(refine qfw hS rfl rfl ?_;cbv)|(refine qzajf hS (H:=J) hNJ k3 k true hk hb ?_;cbv)|fail)
       all_goals first
        | (exfalso;omega)
        | (rename_i r e;exact⟨(r,N,J,u),by dsimp only;omega,⟨by dsimp only;omega,by dsimp only;omega,hon2 r (by omega),k3⟩,rfl,by cbv;exact s_qA,by cbv;exact s_qA,by cbv;(have ga:=qqd 12 hE;cbv at ga;rw[ga])⟩)
      ·obtain⟨u',hu'⟩:∃ u,u=wdI (insL N2 (s.sl,s.ur)):=⟨_,rfl⟩
       obtain⟨N',hN'⟩:∃ N',insL N2 (s.sl,s.ur)=N':=⟨_,rfl⟩;have hon2:∀ r,r=x+1->onL (M,G) (want (ss.take r.toNat) se)=(N',J2):=λr hr=>by
        rw[hon r hr];unfold onS;dsimp only;rw[hb,if_pos rfl,hk,if_neg hku,ho,hN']
       have hu2:u'=wdI N':=by rw[hu',hN']
       obtain⟨id,sst,sse,sre,sow,an,en,o,ur,ic,sl⟩:=s;dsimp only at hD hdn hur hsl hk hb hu' hku ho;clear hon htk hN'
       repeat' (first|(refine s_ck hS ?_;try cbv)|(refine qac hS ?_ ?_<;>intro h<;>(try cbv)<;>try exact s_ab h)|(refine s_ad hS ?_;intro _ _;try cbv)|(refine qdd hS ?_;try cbv)|(refine qal hS (enc:=stC) (l:=sx) hF hyx (λ_=>rfl) k0 (by omega) hmk ?_;cbv)|(refine qcl hS ⟨id,sst,sse,sre,sow,an,en,o,ur,ic,sl⟩ true ok hbw hD hdn hsd ?_;cbv)|(refine qfw hS rfl rfl ?_;cbv)|(refine qzajf hS (H:=J) hNJ k3 k true hk hb ?_;cbv)|(refine qag hS rfl I.qwu (by decide +kernel) ?_;cbv)|(refine rturn_u hS (H:=J) (H':=J2) hNJ k3 hsl hur hk hb hku ho u' hu' ?_;cbv)|fail)
       all_goals first
        | (exfalso;omega)
        | (rename_i r e;exact⟨(r,N',J2,u'),by dsimp only;omega,⟨by dsimp only;omega,by dsimp only;omega,hon2 r (by omega),hu2⟩,rfl,by cbv;exact s_qA,by cbv;exact s_qA,by cbv;(have ga:=qqd 12 hE;cbv at ga;rw[ga])⟩)
    | false=>
     rw[hsd,if_neg (by decide)] at htk;have hon2:∀ r,r=x+1->onL (M,G) (want (ss.take r.toNat) se)=(N,J):=λr hr=>by rw[hr,htk,k2]
     obtain⟨id,sst,sse,sre,sow,an,en,o,ur,ic,sl⟩:=s;dsimp only at hD hdn hur;clear htk
     repeat' (first|(refine s_ck hS ?_;try cbv)|(refine qac hS ?_ ?_<;>intro h<;>(try cbv)<;>try exact s_ab h)|(refine s_ad hS ?_;intro _ _;try cbv)|(refine qal hS (enc:=stC) (l:=sx) hF hyx (λ_=>rfl) k0 (by omega) hmk ?_;cbv)|(refine qcl hS ⟨id,sst,sse,sre,sow,an,en,o,ur,ic,sl⟩ false ok hbw hD hdn hsd ?_;cbv)|fail)
     all_goals first
      | (exfalso;omega)
      | (rename_i r e;exact⟨(r,N,J,u),by dsimp only;omega,⟨by dsimp only;omega,by dsimp only;omega,hon2 r (by omega),k3⟩,rfl,by cbv;exact s_qA,by cbv;exact s_qA,by cbv;(have ga:=qqd 12 hE;cbv at ga;rw[ga])⟩)
   ·have hxz:ss.take x.toNat=ss:=qcs (by omega)
    rw[hxz,hgrr] at k2;have hfin:(N,J)=(L',H'):=by rw[<-hset,<-k2];rfl
    have e1:N=L':=congrArg Prod.fst hfin;have e2:J=H':=congrArg Prod.snd hfin;have e3:u=w':=by rw[k3,hw',e1]
    subst e1 e2 e3;refine⟨[some 0,some 1,some 2],λ_=>0,first3,λg=>⟨⟨⟨_,rfl,rfl,.c ?_⟩,rfl,⟨_,rfl,rfl,.r .rfl hfo rfl⟩,rfl,⟨_,rfl,rfl,.r .rfl hfs rfl⟩,rfl,trivial⟩,.sub qlm rfl⟩⟩
    repeat' (first|exact .nil|refine .cons ?_ ?_|exact .keep (i:=1) rfl rfl rfl|exact .keep (i:=2) rfl rfl rfl|exact .sub .rfl rfl)
end
end Wr
end Cz
