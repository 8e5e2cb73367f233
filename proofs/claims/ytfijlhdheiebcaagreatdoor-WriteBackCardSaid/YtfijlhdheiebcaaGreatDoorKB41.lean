/- What the claims of this group lean on: WtB3. No condition. -/
import Derived.Test.YtfijlhdheiebcaaGreatDoorKB35
set_option linter.unusedSimpArgs false
set_option linter.unusedVariables false
set_option maxRecDepth 100000
set_option maxHeartbeats 4000000
namespace Cz
open Go Go.RowKit Go.Proofs
namespace Wr
section
variable {off no:Int}{Fr:List SV}{nr:Int}{Fz:List SV}{nz:Int}{Fs:List SV}{ns ns' w w':Int}{st1:Int}{Fo D:List SV}{dn:Int}
theorem data_fC {X Y:Ln}{f:Fm}{most cut:Int}(hg:GdL X) (hF:cellsS X.ss=Fs) (hn:ns=ilen X.ss) (hw:w=wdI X.L) (hm:Big most) (hc:Big cut) (hd:dataL X most cut=some (Y,f)) (hw':w'=wdI Y.L) (hfo:plains Fo=true) (hD:cellsB f.da=D) (hdn:dn=ilen f.da) (hns':ns'=ilen Y.ss) (hcase:f.fl=0) (henv:∀ s∈X.ss,s.id=f.st->s.en=false):
  ∃ ex,(S0 Tryz.prog).call 43 [.p 0 0,.i .i64 (.y most),.i .i64 (.y cut)] [.c (bxK 1 2 off no X.tm Fr nr Fz nz X.se X.re X.ow ns w X.H X.sh),.r false false (.y st1) 7 Fo,.r false false (.y 0) 11 Fs]
   (PostB 3 (λ_ g=>[.c (bxK (g 1) (g 2) off no X.tm Fr nr Fz nz Y.se X.re X.ow ns' w' Y.H X.sh),.r false false (.y st1) 7 Fo,.r false false (.y 0) 11 (cellsS (Y.ss++ex))]) (λ_=>.tp [dtF f.fl f.st D dn,.tt])):=by
 have hgd:=(qzabc hg hd).1.ss;unfold dataL at hd;have hss:=hg.ss;have hR:=hg.rd.r;have hse:=hg.se;cases ha:allR X.L X.H with
 | nil=>rw[ha] at hd;cases hd
 | cons y r=>
  obtain⟨sl,u⟩:=y;rw[ha] at hd;obtain⟨i,s,h1,h2,h3,h4,h5,h6⟩:=qlk hg ha;dsimp only at hd;rw[h1] at hd;dsimp only at hd;rw[h2] at hd;dsimp only at hd;clear hg;obtain⟨os,tm,tr,zs,se,re,ow,ss,L,H,sh⟩:=X;dsimp only at *;obtain⟨n,hcut⟩:∃ n,cutI s.se se (min most 16384) cut (ilen s.o)=n:=⟨_,rfl⟩;rw[hcut] at hd;split at hd
  ·cases hd
  ·rename_i hnz
   have hl:=qaj s.o;have hsm:=List.mem_of_getElem? h2;obtain⟨g1,g2,g3,g4⟩:=hss.ok s hsm;have hb:=qzaic hcut hl;have hws:wB s.se=true:=(of_decide_eq_true g2).2.2.2.2.2.1;obtain⟨w1,w2⟩:=qzatg hcut hl hws hse;obtain⟨k1,k2,k3⟩:=qzafw g1 g2 hb.1 hb.2.1 w1;obtain⟨j1,j2,j3,j4,j5,j6⟩:=qzari k1 k2 h6;obtain⟨o1,o2,o3⟩:=qzarj (s:=sl) hR;have hsl:=qen hss hsm h6;rw[h3] at hsl;have hu:=(qpy g1 g2).2;rw[h4] at hu;have hsen:(sentS s n).en=s.en:=rfl;have hov:=sent_o (s:=s) hb.1 hb.2.1;obtain⟨s1,hs1⟩:∃ s1,sentS s n=s1:=⟨_,rfl⟩;rw[hs1] at hd k1 k2 k3 j1 j2 j3 j4 j5 j6 hsen hov;obtain⟨s2,e2⟩:∃ s2,overD s1=s2:=⟨_,rfl⟩;rw[e2] at hd j1 j2 j3 j4 j5 j6;obtain⟨rd,e3⟩:∃ rd,sendB s2 (se-n)=rd:=⟨_,rfl⟩;rw[e3] at hd;obtain⟨⟨⟨L1,H1⟩,t1⟩,e4⟩:∃ R,outR L H sl=R:=⟨_,rfl⟩
   try dsimp only at o1
   try dsimp only at o2
   try dsimp only at o3
   rw[e4] at hd o1 o2 o3
   try dsimp only at hd
   try dsimp only at o1
   try dsimp only at o2
   try dsimp only at o3
   obtain⟨⟨L2,H2⟩,e5⟩:∃ R2,overR L1 H1 sl u s2.ic rd=R2:=⟨_,rfl⟩;have hg2:=qqc (inc:=s2.ic) (rd:=rd) o1 hsl hu o3;rw[e5] at hd hg2
   try dsimp only at hd
   try dsimp only at hg2
   simp only[Option.some.injEq,Prod.mk.injEq] at hd;obtain⟨hY,hf⟩:=hd;obtain⟨⟨L3,H3⟩,e6⟩:∃ R3,settleR (L2,H2) (want (laidI ss i s s2) (se-n))=R3:=⟨_,rfl⟩;unfold setL at hY;dsimp only at hY;rw[e6] at hY;subst hY hf;dsimp only at *;obtain⟨ii,hi0,hii⟩:∃ ii:Int,0<=ii/\ii.toNat=i:=⟨i,by omega,by simp⟩;subst hii;obtain⟨ex,hex⟩:=laid_x ss ii.toNat s s2;refine⟨ex,?_⟩;obtain⟨Fx,hFx⟩:∃ F,cellsS (laidX ss ii.toNat s s2)=F:=⟨_,rfl⟩;rw[<-hex,hFx];have hfx:plains Fx=true:=hFx▸qak _;have hin:ii<ns:=by have:=(List.getElem?_eq_some_iff.1 h2).1;unfold ilen at hn;omega
   have hns8:ns<=8:=by rw[hn];exact hss.len
   have hbef:∀ (x:Int) (t:St),0<=x->x<ii->ss[x.toNat]?=some t->t.sl≠sl:=λx t g0 g1 ht=>qwl h1 (by omega) ht;have e_nx:nxtR (allR L H)=((sl,u),true):=by rw[ha];rfl
   obtain⟨v1,hv1⟩:∃ w,w=wdI L1:=⟨_,rfl⟩;obtain⟨v2,hv2⟩:∃ w,w=wdI L2:=⟨_,rfl⟩;obtain⟨D0,hD0⟩:∃ F,cellsB s.o=F:=⟨_,rfl⟩;obtain⟨dn0,hdn0⟩:∃ m,m=ilen s.o:=⟨_,rfl⟩;have hmk:=qdg s hD0 hdn0;obtain⟨mm,hmm⟩:∃ mm,MinI most mm:=⟨_,rfl⟩;have hbs:=qgi hws;have hbe:=qgi hse;obtain⟨a1,ha1⟩:∃ r,arS .sub .i64 s.se n=r:=⟨_,rfl⟩;obtain⟨a2,ha2⟩:∃ r,arS .sub .i64 se n=r:=⟨_,rfl⟩;have ha1':a1=s.se-n:=by rw[<-ha1];exact qzalr (qgi w1)
   have ha2':a2=se-n:=by rw[<-ha2];exact qzalr (qgi w2)
   have hba:Big a2:=by rw[ha2'];exact qgi w2
   have hDt:D=(D0.drop ((0:Int).toNat*1)).take (n.toNat*1):=by rw[qrr hD0];exact hD.symm
   have hdt:dn=n:=by rw[hdn];unfold ilen at hb ⊢;rw[List.length_take];omega
   rw[<-ha2'] at e3 e6 w2;rw[<-ha2'];have hok2:=j1;have hokx:=g1;have hwh:=hs1;unfold sentS at hwh;rw[<-ha1'] at hwh;have hlay:=h2;have hlen2:(ilen s1.o:Int)=dn0-n:=by rw[k3,hdn0]
   have hcut':cutI s.se se mm cut dn0=n:=by rw[hdn0];unfold MinI at hmm;rw[<-hmm];exact hcut
   rw[<-hdn0] at hb hnz hl hov;have ho2:cellsB s1.o=(D0.drop (n.toNat*1)).take ((dn0-n).toNat*1):=by rw[qzamn hD0 hb.1 (by rw[hdn0]),<-hwh]
   have hb0:=hb.1;have hb1:=hb.2.1;have hb2:n<=16384:=by omega
   clear hcut hws hD g2 g3 g4 j2 j3 j4 j6;obtain⟨id,sst,sse,sre,sow,an,en,o,ur,ic,sl0⟩:=s;dsimp only at *;have hsa:true=ansB sst:=h6.symm;clear h6 w1 w2;subst h3 h4;have hst:=hokx.st;dsimp only at hst;have hnz':¬(n=0/\0<dn0):=hnz;have hend:0<=endS sst/\endS sst<=255:=by unfold endS;split<;>omega
   obtain⟨y,hy⟩:∃ y,endS sst=y:=⟨_,rfl⟩;obtain⟨fl,hfl⟩:∃ fl:Int,(if s1.en=true/\s1.o=[] then 1 else 0)=fl:=⟨_,rfl⟩;rw[hfl] at hcase ⊢;unfold overD at e2;subst hwh;dsimp only at *;subst hdt;have hovr:¬(en=true/\dn=dn0):=λhh=>by
    rw[if_pos ⟨hh.1,hov.2 hh.2⟩] at hfl;exact absurd (hfl.trans hcase) (by decide)
   obtain rfl:en=false:=henv _ hsm rfl;have hfl0:fl=0:=by rw[<-hfl,if_neg (λh=>hovr ⟨h.1,hov.1 h.2⟩)]
   rw[if_neg (λh=>hovr ⟨h.1,hov.1 h.2⟩)] at e2;have hflz:(Z.l 0).v=(Z.y fl).v:=hfl0.symm;subst e2;clear hb hov hnz g1 hsen hlay h5 hsm hs1 hfl j1 k2;dsimp only at *;clear hovr;unfold bxK;generalize hS:S0 Tryz.prog=S;have q0:S.mi dn0 dn=dn0-dn:=by subst hS;rfl
   have q1:S.sub D0 0 dn 1=D:=by rw[hDt];subst hS;rfl
   have q2:cellsB (o.drop dn.toNat)=S.sub D0 dn (S.mi dn0 dn) 1:=by rw[q0,ho2];subst hS;rfl
   have q3:S.mi dn0 dn=ilen (o.drop dn.toNat):=by rw[q0];exact hlen2.symm
   have q4:cellsB (o.take dn.toNat)=S.sub D0 0 dn 1:=by rw[q1,hDt];exact (qrr hD0).symm
   refine qaa hS I.qfl ?_;cbv
   repeat' (first|(refine qac hS ?_ ?_<;>intro h<;>(try cbv)<;>try exact s_ab h)|(refine qwr hS hR hw true e_nx e4 v1 hv1 ?_;cbv)|(refine qaa hS I.qaz ?_;cbv)|fail)
   refine qad hS 6 I.qaw (λx:Int=>0<=x/\x<=ii) (λx=>[(8,.i .i64 (.y x))]) (λ_=>[]) (λx=>(ii-x).toNat) 0 rfl ⟨⟨Int.le_refl _,hi0⟩,rfl,?_,?_,by cbv⟩ ?_
   ·cbv;exact s_qA
   ·cbv;exact s_qA
   intro x hx;cbv;obtain⟨g0x,g1x⟩:=hx;by_cases hxi:x=ii
   ·subst hxi
    repeat' (first|(refine s_ck hS ?_;try cbv)|(refine qac hS ?_ ?_<;>intro h<;>(try cbv)<;>try exact s_ab h)|(refine qal hS (enc:=stC) (l:=ss) hF h2 (λ_=>rfl) hi0 (by omega) hmk ?_;cbv)|(refine qaa hS I.qbo ?_;cbv)|(refine qeq hS ⟨id,sst,sse,sre,sow,an,false,o,ur,ic,sl0⟩ hokx hD0 hdn0 ?_;cbv)|(refine qag hS rfl I.qek (by decide +kernel) ?_;cbv)|(refine qag hS rfl I.qhc (by decide +kernel) ?_;cbv)|(refine qag hS rfl I.qhb (by decide +kernel) ?_;cbv)|(refine s_mne hS hmm ?_;cbv)|(refine cut_u hS dn hbs hbe hcut' ?_;cbv)|(refine qzapa hS q4 hdn (by omega) ?_;cbv)|(refine qcg hS _ ha1 ?_;cbv)|(refine qcg hS _ ha2 ?_;cbv)|fail)
    all_goals (try (exfalso;omega))
    all_goals (refine lay_u hS 0 1 2 (s:=⟨id,sst,a1,sre,sow,an,false,o.drop dn.toNat,ur,ic,sl0⟩) (off:=off) (H:=H) rfl rfl rfl rfl rfl s_qA hF hn (by omega) hi0 hin h2 hok2 hokx q2 q3 hFx hns' hfo ?_;cbv)
    all_goals
     repeat' (first|(refine qag hS rfl I.qha (by decide +kernel) ?_;cbv)|(refine qcl hS ⟨id,sst,a1,sre,sow,an,false,o.drop dn.toNat,ur,ic,sl0⟩ rd hok2 hba q2 q3 e3 ?_;cbv)|(refine qzavd hS o1 hv1 hsl hu o3 e5 v2 hv2 ?_;cbv)|fail)
    all_goals (refine qio hS 0 1 2 (off:=off) (H:=H2) (H':=H3) (ss:=laidI ss x.toNat ⟨id,sst,sse,sre,sow,an,false,o,ur,ic,sl0⟩ ⟨id,sst,a1,sre,sow,an,false,o.drop dn.toNat,ur,ic,sl0⟩) (sx:=laidX ss x.toNat ⟨id,sst,sse,sre,sow,an,false,o,ur,ic,sl0⟩ ⟨id,sst,a1,sre,sow,an,false,o.drop dn.toNat,ur,ic,sl0⟩) rfl rfl rfl rfl s_qA hgd hFx ⟨ex,hex⟩ hns' hba hg2 hv2 e6 hw' hfo ?_;cbv)
    all_goals first
     | (exfalso;omega)
     | (refine⟨[some 0,some 1,some 2],λ_=>0,first3,λg=>⟨⟨⟨_,rfl,rfl,.c ?_⟩,rfl,⟨_,rfl,rfl,.r .rfl hfo rfl⟩,rfl,⟨_,rfl,rfl,.r .rfl hfx rfl⟩,rfl,trivial⟩,.tp (.cons (.ag ?_) (.cons (.sub .rfl rfl) .nil))⟩⟩<;>repeat' (first|exact .nil|refine .cons ?_ ?_|exact .keep (i:=1) rfl rfl rfl|exact .keep (i:=2) rfl rfl rfl|exact .sub .rfl rfl|exact .sub (qau hflz) rfl|exact .sub (qzamm q1 rfl) rfl|exact .nil (by decide) rfl))
   ·obtain⟨t,ht⟩:=qbi (l:=ss) (i:=x) (by omega) g0x
    have hne:=hbef x t g0x (by omega) ht;obtain⟨tid,tst,tse,tre,tow,tan,ten,to,tur,tic,tsl⟩:=t;dsimp only at hne
    repeat' (first|(refine s_ck hS ?_;try cbv)|(refine qac hS ?_ ?_<;>intro h<;>(try cbv)<;>try exact s_ab h)|(refine s_ad hS ?_;intro _ _;try cbv)|(refine qal hS (enc:=stC) (l:=ss) hF ht (λ_=>rfl) g0x (by omega) rfl ?_;cbv)|(refine qaa hS I.qbo ?_;cbv)|fail)
    all_goals first
     | (exfalso;omega)
     | (rename_i r e;exact⟨r,by omega,⟨by omega,by omega⟩,rfl,by cbv;exact s_qA,by cbv;exact s_qA,by cbv⟩)
end
end Wr
end Cz
