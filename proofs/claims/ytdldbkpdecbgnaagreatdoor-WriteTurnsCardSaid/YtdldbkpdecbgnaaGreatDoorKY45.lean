/- What the claims of this group lean on: WhB. No condition. -/
import Derived.Test.YtdldbkpdecbgnaaGreatDoorKY44
set_option linter.unusedSimpArgs false
set_option linter.unusedVariables false
set_option maxRecDepth 100000
set_option maxHeartbeats 4000000
namespace Cz
open Go Go.RowKit Go.Proofs
namespace Wr
theorem s_mkg {S:Sy}{zero:List SV}{n c:Int}{K:List SV->Prop}(hS:S0 Tryz.prog=S) (hc:n=c) (h0:0<=n) (h1:n<=65536) (hz:plains zero=true) (h:∀ F,F=repS n.toNat zero->plains F=true->K F):S.mkr zero n c K:=by
 have hp:plains (repS n.toNat zero)=true:=by
  generalize n.toNat=m
  induction m with
  | zero=>rfl
  | succ m ih=>unfold repS;rw[qhj];exact qfa hz ih
 exact s_mk hS hc h0 h1 hp (h _ rfl hp)
section
variable {Fo:List SV}{no tm:Int}{Fr:List SV}{nr:Int}{Fz:List SV}{nz se re ow:Int}{Fs:List SV}{ns w:Int}{H:Nat->Int}{sh:Bool}{cut steps:Int}
theorem qzabe (l:List Int):cellsI l=l.map λn=>.i .i64 (.y n):=by
 unfold cellsI
 induction l with
 | nil=>rfl
 | cons x l ih=>rw[List.flatMap_cons,ih];rfl
theorem s_seti {S:Sy}(hS:S0 Tryz.prog=S) {ts ts2:List Int}{T:List SV}{i x v:Int}{K:List SV->Prop}(hT:cellsI ts=T) (h0:0<=i) (hi:i<ilen ts) (hx:x=v) (h2:ts.set i.toNat v=ts2) (h:∀ T',cellsI ts2=T'->K T'):S.wr T i 1 0 [.i .i64 (.y x)] K:=by
 have hl:T.length=ts.length:=by rw[<-hT,qzabe,List.length_map]
 refine s_wr hS h0 (by rw[hl];unfold ilen at hi;omega) (Nat.le_refl 1) rfl (h _ ?_);subst hx h2;rw[<-hT,qzabe,qzabe,List.map_set,Nat.mul_one,Nat.add_zero];simp only[repl,qes]
theorem turns_d {tr:List Tb.Fd}{zs:List Int}{ss:List St}{L:List (Int×Int)}{KS:List Key}{u:Int}{Fi:List SV}{ni:Int}{t:Bool}
  (hwk:∀ (bl:List Blk) (K:SV->List Blk->Prop),K .tt bl->(S0 Tryz.prog).call 7 [] bl K)
  (hgr:∀ (bl:List Blk) (K:SV->List Blk->Prop),K .ff bl->(S0 Tryz.prog).call 5 [.ag (lnK Fo no tm Fr nr Fz nz se re ow Fs ns w H false)] bl K)
  (hn:LnN [] tr zs ss Fo no Fr nr Fz nz Fs ns) (hw:w=wdI L) (hg:GdL ⟨[],tm,tr,zs,se,re,ow,ss,L,H,false⟩)
  (hti:KS≠[]->TI KS u ⟨[],tm,tr,zs,se,re,ow,ss,L,H,false⟩ (List.replicate KS.length 0) 0)
  (hdr:∀ (bl:List Blk) (K:SV->List Blk->Prop),K .tt bl->(S0 Tryz.prog).call 6 [.ag (lnK Fo no tm Fr nr Fz nz se re ow Fs ns w H false)] bl K)
  (hsh:(S0 Tryz.prog).call 8 [.ag (lnK Fo no tm Fr nr Fz nz se re ow Fs ns w H false)] [] (Tell (.tp [.v false 1 Fi (.y ni),.b t])))
  (hFi:cellsI (KS.map (·.1))=Fi) (hni:ni=ilen KS) (hn8:ni<=8) (ht:t=true->∀ k∈KS,k.2.2.1=true)
  (hc:1<=cut) (hcb:Big cut) (hst:0<=steps/\steps<=40):
  (S0 Tryz.prog).call 3 [.ag (lnK Fo no tm Fr nr Fz nz se re ow Fs ns w H false),.i .i64 (.y cut),.i .i64 (.y steps)] [] (λx _=>Sub x .tt):=by
 have hno:no=0:=hn.on;have hni0:=qaj KS;rw[<-hni] at hni0;obtain⟨T0,hT0⟩:∃ T,cellsI (List.replicate ni.toNat 0)=T:=⟨_,rfl⟩;have hT0p:plains T0=true:=hT0▸qge (λ_=>rfl) _;have hrs:=rep_sub ni.toNat;rw[hT0] at hrs;unfold lnK at hgr hdr hsh ⊢;generalize hS:S0 Tryz.prog=S at hwk hgr hdr ⊢;refine qaa hS I.qbh ?_;cbv
 repeat' (first|(refine qac hS ?_ ?_<;>intro h<;>(try cbv)<;>try exact s_ab h)|(refine hgr _ _ ?_;cbv)|(refine hdr _ _ ?_;cbv)|(refine qaq hS hsh .rfl rfl ?_;cbv)|fail)
 refine s_mkg hS rfl hni0 (by omega) rfl ?_;intro R hRl hRp;cbv;refine qad hS 2 I.qhi
  (λx:Ln×(List SV×Int×List SV×Int×List SV×Int×List SV×Int×Int)×List Int×List SV×Int×Int=>
   LnN x.1.os x.1.tr x.1.zs x.1.ss x.2.1.1 x.2.1.2.1 x.2.1.2.2.1 x.2.1.2.2.2.1 x.2.1.2.2.2.2.1 x.2.1.2.2.2.2.2.1 x.2.1.2.2.2.2.2.2.1 x.2.1.2.2.2.2.2.2.2.1/\x.2.1.2.2.2.2.2.2.2.2=wdI x.1.L/\(KS≠[]->TI KS u x.1 x.2.2.1 x.2.2.2.2.1)/\(∀ y∈x.2.2.1,0<=y/\y<=x.2.2.2.2.2)/\cellsI x.2.2.1=x.2.2.2.1/\0<=x.2.2.2.2.2/\x.2.2.2.2.2<=steps)
  (λx=>[(11,.i .i64 (.y x.2.2.2.2.2)),(10,.i .i64 (.y x.2.2.2.2.1))])
  (λx=>[(0,.c [.v false 7 x.2.1.1 (.y x.2.1.2.1),.i .i64 (.y x.1.tm),.v false 2 x.2.1.2.2.1 (.y x.2.1.2.2.2.1),.v false 1 x.2.1.2.2.2.2.1 (.y x.2.1.2.2.2.2.2.1),.i .i64 (.y x.1.se),.i .i64 (.y x.1.re),.i .i64 (.y x.1.ow),.v false 11 x.2.1.2.2.2.2.2.2.1 (.y x.2.1.2.2.2.2.2.2.2.1),.i .u64 (.y x.2.1.2.2.2.2.2.2.2.2),.i .i64 (.y (x.1.H 0)),.i .i64 (.y (x.1.H 1)),.i .i64 (.y (x.1.H 2)),.i .i64 (.y (x.1.H 3)),.i .i64 (.y (x.1.H 4)),.i .i64 (.y (x.1.H 5)),.i .i64 (.y (x.1.H 6)),.i .i64 (.y (x.1.H 7)),.b x.1.sh]),(1,.r false false (.l 0) 1 x.2.2.2.1)])
  (λx=>(steps-x.2.2.2.2.2).toNat) (⟨[],tm,tr,zs,se,re,ow,ss,L,H,false⟩,(Fo,no,Fr,nr,Fz,nz,Fs,ns,w),List.replicate ni.toNat 0,T0,0,0) rfl
  ⟨⟨hn,hw,λh=>by have:=hti h;rw[show ni.toNat=KS.length by rw[hni];unfold ilen;omega];exact this,λy hy=>by rw[(List.mem_replicate.1 hy).2];exact⟨Int.le_refl _,Int.le_refl _⟩,hT0,Int.le_refl _,hst.1⟩,rfl,?_,?_,by cbv⟩ ?_
 ·cbv;exact s_qA
 ·cbv
  exact⟨.rfl,.r (hRl▸hrs) rfl hT0p,trivial⟩
 intro x;obtain⟨⟨os',tm',tr',zs',se',re',ow',ss',L',H',sh'⟩,⟨Fo',no',Fr',nr',Fz',nz',Fs',ns',w'⟩,ts,T,al,i⟩:=x;intro hx;dsimp only at hx;cbv;obtain⟨g1,g2,g3,g4,g5,g6,g7⟩:=hx;by_cases h1:i<steps
 ·by_cases h2:0<ni
  ·have hKS:KS≠[]:=by intro e;rw[e] at hni;unfold ilen at hni;simp at hni;omega
   have hT:=g3 hKS;obtain⟨j,⟨kid,ksl,kic,kur⟩,tj,⟨osY,tmY,trY,zsY,seY,reY,owY,ssY,LY,HY,shY⟩,b,fl,m,e1,e2,e3,e4,e5,e6,e7,e8⟩:=ti_step hT hKS hc;obtain⟨Fo2,no2,Fr2,nr2,Fz2,nz2,Fs2,ns2,hnY⟩:=gdl_n e5;obtain⟨B,hB⟩:∃ B,cellsB b=B:=⟨_,rfl⟩;obtain⟨bn,hbn⟩:∃ bn,bn=ilen b:=⟨_,rfl⟩;obtain⟨w2,hw2⟩:∃ w2,w2=wdI LY:=⟨_,rfl⟩;have hos:os'=[]:=hT.os;have c1:=step_f (X:=⟨os',tm',tr',zs',se',re',ow',ss',L',H',sh'⟩) g1 hT.gd g2 (λo ho=>by rw[show os'=[] from hos] at ho;cases ho) (λo ho=>by rw[show os'=[] from hos] at ho;cases ho) dtp (most:=16384) ⟨by decide,by decide⟩ hcb e3 hnY hw2 hB hbn;unfold lnK at c1;dsimp only at c1;have hjl:(j:Int)<ni:=by rw[hni];have:=(List.getElem?_eq_some_iff.1 e1).1;unfold ilen;omega
   obtain⟨J,hJ⟩:∃ J:Int,J=j:=⟨_,rfl⟩;rw[<-hJ] at hjl;have hJ0:0<=J:=by omega
   have hdist:∀ (q:Int),0<=q->q<J->∃ y,(KS.map (·.1))[q.toNat]?=some y/\y≠kid:=by
    intro q h0 h1;rw[hJ] at h1;exact share_ids hT.gd.ss hT.ks e1 h0 h1
   have hat:(KS.map (·.1))[J.toNat]?=some kid:=by
    rw[hJ,Int.toNat_natCast,List.getElem?_map,e1];rfl
   obtain⟨IDS,hIDS⟩:∃ l,KS.map (·.1)=l:=⟨_,rfl⟩;rw[hIDS] at hFi hat;simp only[hIDS] at hdist;have hts:ts[J.toNat]?=some tj:=by rw[hJ,Int.toNat_natCast];exact e2
   have htl:ilen ts=ni:=by rw[hni];unfold ilen;rw[hT.len]
   obtain⟨tb0,tb1⟩:=g4 tj (List.mem_of_getElem? e2);have hgY:=e5.ss;obtain⟨Fi2,hFi2⟩:∃ F,cellsI ((shrL ssY seY ssY.length).map λs=>s.id)=F:=⟨_,rfl⟩;obtain⟨ni2,hni2⟩:∃ n,n=ilen (shrL ssY seY ssY.length):=⟨_,rfl⟩;obtain⟨t2,ht2⟩:∃ b,((shrL ssY seY ssY.length).all λs=>s.ic)=b:=⟨_,rfl⟩;have c2:=qzaqw (Fo:=Fo2) (no:=no2) (tm:=tmY) (Fr:=Fr2) (nr:=nr2) (Fz:=Fz2) (nz:=nz2) (se:=seY) (re:=reY) (ow:=owY) (w:=w2) (H:=HY) (sh:=shY) hgY hnY.s hnY.sn hFi2 hni2 ht2;unfold lnK at c2;obtain⟨ts2,hts2⟩:∃ l,ts.set J.toNat (tj+1)=l:=⟨_,rfl⟩;have htl2:ilen ts2=ni:=by rw[<-htl,<-hts2];unfold ilen;rw[List.length_set]
   have hb2:∀ y∈ts2,0<=y/\y<=i+1:=λy hy=>by
    rw[<-hts2] at hy;rcases List.mem_or_eq_of_mem_set hy with h|h
    ·have:=g4 y h;omega
    ·omega
   obtain⟨z0,hz0⟩:=qbi (l:=ts2) (i:=0) (by omega) (Int.le_refl _);obtain⟨zb0,zb1⟩:=hb2 z0 (List.mem_of_getElem? hz0);have hjs:ts.set j (tj+1)=ts2:=by rw[<-hts2,hJ,Int.toNat_natCast]
   rw[hjs] at e8;obtain⟨IDY,hIDY⟩:∃ l,((shrL ssY seY ssY.length).map λs=>s.id)=l:=⟨_,rfl⟩;rw[hIDY] at hFi2;have hn2l:ni2=ilen IDY:=by rw[hni2,<-hIDY];unfold ilen;rw[List.length_map]
   have hn20:=qaj IDY;obtain⟨Q,hQ⟩:∃ Q:Int,t=true->IDY=IDS->∀ y∈ts2,Q<=y/\y<=Q+1:=by
    by_cases hp:t=true/\IDY=IDS
    ·obtain⟨Q,hQ⟩:=(e8 (by
      rw[show ((shareS ⟨osY,tmY,trY,zsY,seY,reY,owY,ssY,LY,HY,shY⟩).map λs=>s.id)=IDY from by rw[<-hIDY];unfold shrL shareS;rw[List.take_length],hp.2,<-hIDS])).2.2 (ht hp.1)
     exact⟨Q,λ_ _=>hQ⟩
    ·exact⟨0,λa b=>absurd ⟨a,b⟩ hp⟩
   repeat' (first|(refine qac hS ?_ ?_<;>intro h<;>(try cbv)<;>try exact s_ab h)|(refine qaq hS c1 (.cons .rfl (.cons (qau rfl) (.cons .rfl .nil))) rfl ?_;cbv)|fail)
   all_goals
    refine qad hS 4 I.qhg (λq:Int=>0<=q/\q<=J) (λq=>[(16,.i .i64 (.y q))]) (λ_=>[]) (λq=>(J-q).toNat) 0 rfl ⟨⟨Int.le_refl _,hJ0⟩,rfl,?_,?_,by cbv⟩ ?_
    ·(cbv;try exact s_qA)
    ·(cbv;try exact s_qA)
    intro q hq;cbv;obtain⟨q0,q1⟩:=hq;by_cases hqJ:q=J
    ·subst hqJ
     repeat' (first|(refine s_ck hS ?_;try cbv)|(refine qac hS ?_ ?_<;>intro h<;>(try cbv)<;>try exact s_ab h)|(refine s_ad hS ?_;intro _ _;try cbv)|(refine qag hS rfl I.qdi (by decide +kernel) ?_;cbv)|(refine qal hS (enc:=i1) (l:=IDS) hFi hat (λ_=>rfl) q0 (by omega) rfl ?_;cbv)|(refine qal hS (enc:=i1) (l:=ts) g5 hts (λ_=>rfl) q0 (by omega) rfl ?_;cbv)|(refine s_seti hS (ts:=ts) (ts2:=ts2) (v:=tj+1) g5 q0 (by omega) (by omega) hts2 ?_;intro T2 hT2;cbv)|(refine qag hS rfl I.qis (by decide +kernel) ?_;cbv)|(refine qal hS (enc:=i1) (l:=ts2) hT2 hz0 (λ_=>rfl) (by omega) (by omega) rfl ?_;cbv)|(refine qaq hS c2 .rfl rfl ?_;cbv)|(refine hwk _ _ ?_;cbv)|fail)
     ·exact .rfl
     refine qad hS 4 I.qhh (λy:Int×Int×Int=>(0<=y.1/\y.1<=ni)/\(∀ a:Nat,a<y.1.toNat->IDY[a]?=IDS[a]?)/\(0<=y.2.1/\y.2.1<=100)/\(0<=y.2.2/\y.2.2<=100)/\(t=true->IDY=IDS->Q<=y.2.1/\y.2.2<=Q+1)) (λy=>[(21,.i .i64 (.y y.1)),(19,.i .i64 (.y y.2.1)),(20,.i .i64 (.y y.2.2))]) (λ_=>[]) (λy=>(ni-y.1).toNat) (0,z0,z0) rfl ⟨⟨⟨Int.le_refl _,by dsimp only;omega⟩,λa ha=>by dsimp only at ha;omega,⟨by dsimp only;omega,by dsimp only;omega⟩,⟨by dsimp only;omega,by dsimp only;omega⟩,λa b=>hQ a b z0 (List.mem_of_getElem? hz0)⟩,rfl,?_,?_,by cbv⟩ ?_
     ·(cbv;try exact s_qA)
     ·(cbv;try exact s_qA)
     intro y hy;obtain⟨x,lst,mst⟩:=y;dsimp only at hy;cbv;obtain⟨⟨x0,x1⟩,hall,⟨l0,l1⟩,⟨m0,m1⟩,hfr⟩:=hy;by_cases hx:x<ni
     ·obtain⟨ya,hya⟩:=qbi (l:=IDY) (i:=x) (by omega) x0
      obtain⟨yb,hyb⟩:=qbi (l:=IDS) (i:=x) (by rw[show ilen IDS=ni by rw[hni,<-hIDS];unfold ilen;rw[List.length_map]];exact hx) x0;obtain⟨yt,hyt⟩:=qbi (l:=ts2) (i:=x) (by omega) x0;obtain⟨yt0,yt1⟩:=hb2 yt (List.mem_of_getElem? hyt)
      repeat' (first|(refine s_ck hS ?_;try cbv)|(refine qac hS ?_ ?_<;>intro h<;>(try cbv)<;>try exact s_ab h)|(refine s_ad hS ?_;intro _ _;try cbv)|(refine qag hS rfl I.qir (by decide +kernel) ?_;cbv)|(refine qag hS rfl I.qiq (by decide +kernel) ?_;cbv)|(refine qal hS (enc:=i1) (l:=IDY) hFi2 hya (λ_=>rfl) x0 (by omega) rfl ?_;cbv)|(refine qal hS (enc:=i1) (l:=IDS) hFi hyb (λ_=>rfl) x0 (by omega) rfl ?_;cbv)|(refine qal hS (enc:=i1) (l:=ts2) hT2 hyt (λ_=>rfl) x0 (by omega) rfl ?_;cbv)|(refine s_mn hS ?_;intro _ _;cbv)|(refine s_mx hS ?_;intro _ _;cbv)|(refine hwk _ _ ?_;cbv)|fail)
      ·exact .rfl
      rename_i r1 e1 r2 e2 r3 e3;refine⟨(r3,r1,r2),by dsimp only;omega,⟨⟨by dsimp only;omega,by dsimp only;omega⟩,λa ha=>?_,⟨by dsimp only;omega,by dsimp only;omega⟩,⟨by dsimp only;omega,by dsimp only;omega⟩,λp1 p2=>?_⟩,rfl,by (cbv;try exact s_qA),by (cbv;try exact s_qA),by cbv⟩
      ·dsimp only at ha
       by_cases e:a=x.toNat
       ·subst e;rw[hya,hyb,h]
       ·exact hall a (by omega)
      ·have f1:=hfr p1 p2
       have f2:=hQ p1 p2 yt (List.mem_of_getElem? hyt);dsimp only;omega
     ·have h22:ni2=ni:=by assumption
      have hIY:IDY=IDS:=by
       refine List.ext_getElem? λa=>?_;by_cases e:a<x.toNat
       ·exact hall a e
       ·rw[List.getElem?_eq_none (by unfold ilen at hn2l;omega),List.getElem?_eq_none (by rw[<-hIDS,List.length_map];unfold ilen at hni;omega)]
      have hfr':t=true->mst-lst<=1:=λp1=>by have:=hfr p1 hIY;omega
      have hids:((shareS ⟨osY,tmY,trY,zsY,seY,reY,owY,ssY,LY,HY,shY⟩).map λs=>s.id)=KS.map (·.1):=by
       rw[show ((shareS ⟨osY,tmY,trY,zsY,seY,reY,owY,ssY,LY,HY,shY⟩).map λs=>s.id)=IDY from by rw[<-hIDY];unfold shrL shareS;rw[List.take_length],hIY,<-hIDS]
      obtain⟨⟨s,hsm,hsid,hsic⟩,hTY,_⟩:=e8 hids;obtain⟨r,hrl⟩:=List.mem_iff_getElem?.1 hsm;obtain⟨R,hR⟩:∃ R:Int,R=r:=⟨_,rfl⟩;have hpl:plR ssY kid=R:=by rw[hR];have:=plR_at e5.ss hrl;rw[hsid] at this;exact this
      have hR0:0<=R:=by omega
      have hrl':ssY[R.toNat]?=some s:=by rw[hR,Int.toNat_natCast];exact hrl
      have hsok:=(e5.ss.ok s hsm).1;obtain⟨D,hD⟩:∃ F,cellsB s.o=F:=⟨_,rfl⟩;obtain⟨dn,hdn⟩:∃ m,m=ilen s.o:=⟨_,rfl⟩;have hwb:=wd_range e5;have c3:=dfind_y (X:=⟨osY,tmY,trY,zsY,seY,reY,owY,ssY,LY,HY,shY⟩) (w:=w2) (id:=kid) hnY (λbl K h=>drt_u hnY e5 hw2 hnY.oo (by rw[hw2];exact hwb.1) (by rw[hw2];exact hwb.2) bl K h) hpl hR0 hrl' hsok hD hdn;unfold lnK stK at c3;rw[hsic] at c3;dsimp only at c3 hTY;clear hsok hD hdn hwb hids hsm hsid hsic hrl hrl' hpl;cases t
      all_goals
       (try have hfr2:=hfr' rfl)
       cases kic
       ·by_cases hal:al=0
        ·rw[if_pos ⟨rfl,hal⟩] at hTY
         repeat' (first|(refine qac hS ?_ ?_<;>intro h<;>(try cbv)<;>try exact s_ab h)|(refine s_ad hS ?_;intro _ _;try cbv)|(refine s_sb hS ?_;intro _ _;try cbv)|(refine qaq hS c3 .rfl rfl ?_;cbv)|fail)
         all_goals first
          | (exfalso;omega)
          | (rename_i ri ei;refine⟨(⟨osY,tmY,trY,zsY,seY,reY,owY,ssY,LY,HY,shY⟩,(Fo2,no2,Fr2,nr2,Fz2,nz2,Fs2,ns2,w2),ts2,T2,kid,ri),by dsimp only;omega,⟨hnY,hw2,λ_=>hTY,λy hy=>by have:=hb2 y hy;dsimp only;omega,hT2,by dsimp only;omega,by dsimp only;omega⟩,rfl,by (cbv;try exact s_qA),by (cbv;try exact s_qA),by cbv⟩)
          | fail
        ·rw[if_neg (λe=>hal e.2)] at hTY
         repeat' (first|(refine qac hS ?_ ?_<;>intro h<;>(try cbv)<;>try exact s_ab h)|(refine s_ad hS ?_;intro _ _;try cbv)|(refine s_sb hS ?_;intro _ _;try cbv)|(refine qaq hS c3 .rfl rfl ?_;cbv)|fail)
         all_goals first
          | (exfalso;omega)
          | (rename_i ri ei;refine⟨(⟨osY,tmY,trY,zsY,seY,reY,owY,ssY,LY,HY,shY⟩,(Fo2,no2,Fr2,nr2,Fz2,nz2,Fs2,ns2,w2),ts2,T2,al,ri),by dsimp only;omega,⟨hnY,hw2,λ_=>hTY,λy hy=>by have:=hb2 y hy;dsimp only;omega,hT2,by dsimp only;omega,by dsimp only;omega⟩,rfl,by (cbv;try exact s_qA),by (cbv;try exact s_qA),by cbv⟩)
          | fail
       ·rw[if_neg (λe=>by cases e.1)] at hTY
        repeat' (first|(refine qac hS ?_ ?_<;>intro h<;>(try cbv)<;>try exact s_ab h)|(refine s_ad hS ?_;intro _ _;try cbv)|(refine s_sb hS ?_;intro _ _;try cbv)|(refine qaq hS c3 .rfl rfl ?_;cbv)|fail)
        all_goals first
         | (exfalso;omega)
         | (rename_i ri ei;refine⟨(⟨osY,tmY,trY,zsY,seY,reY,owY,ssY,LY,HY,shY⟩,(Fo2,no2,Fr2,nr2,Fz2,nz2,Fs2,ns2,w2),ts2,T2,al,ri),by dsimp only;omega,⟨hnY,hw2,λ_=>hTY,λy hy=>by have:=hb2 y hy;dsimp only;omega,hT2,by dsimp only;omega,by dsimp only;omega⟩,rfl,by (cbv;try exact s_qA),by (cbv;try exact s_qA),by cbv⟩)
         | fail
    ·obtain⟨y,hy,hne⟩:=hdist q q0 (by omega)
     repeat' (first|(refine s_ck hS ?_;try cbv)|(refine qac hS ?_ ?_<;>intro h<;>(try cbv)<;>try exact s_ab h)|(refine s_ad hS ?_;intro _ _;try cbv)|(refine qag hS rfl I.qdi (by decide +kernel) ?_;cbv)|(refine qal hS (enc:=i1) (l:=IDS) hFi hy (λ_=>rfl) q0 (by omega) rfl ?_;cbv)|fail)
     rename_i r1 e1;refine⟨r1,by omega,⟨by omega,by omega⟩,rfl,by (cbv;try exact s_qA),by (cbv;try exact s_qA),by cbv⟩
  ·repeat' (first|(refine qac hS ?_ ?_<;>intro h<;>(try cbv)<;>try exact s_ab h)|(refine hwk _ _ ?_;cbv)|fail)
   all_goals exact .rfl
 ·repeat' (first|(refine qac hS ?_ ?_<;>intro h<;>(try cbv)<;>try exact s_ab h)|(refine hwk _ _ ?_;cbv)|fail)
  all_goals exact .rfl
end
end Wr
end Cz
