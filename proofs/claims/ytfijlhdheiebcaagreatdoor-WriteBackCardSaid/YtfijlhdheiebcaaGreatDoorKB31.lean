/- What the claims of this group lean on: WsQ. No condition. -/
import Derived.Test.YtfijlhdheiebcaaGreatDoorKB30
set_option linter.unusedSimpArgs false
set_option linter.unusedVariables false
set_option maxRecDepth 100000
set_option maxHeartbeats 4000000
namespace Cz
open Go Go.RowKit Go.Proofs
namespace Wr
section
variable {S:Sy}{l:List Blk}{K:SV->List Blk->Prop}{os:List Ot}{tr:List Tb.Fd}{zs:List Int}{ss:List St}{Fo:List SV}{no tm:Int}{Fr:List SV}{nr:Int}{Fz:List SV}{nz se re ow:Int}{Fs:List SV}{ns w:Int}{H:Nat->Int}{sh:Bool}
theorem last_u (hS:S0 Tryz.prog=S) (hn:LnN os tr zs ss Fo no Fr nr Fz nz Fs ns) (h1:no<=if sh=true then 129 else 128) (h2:Tb.rightL tm tr=true) (h3:zsB zs=true) (h4:wB se=true) (h5:0<=re/\re<=2147483647) (h6:0<=ow/\ow<=2147483647) (hK:K .tt l):
  S.call 79 [.ag (lnK Fo no tm Fr nr Fz nz se re ow Fs ns w H sh)] l K:=by
 subst hS;exact qai (last_f hn h1 h2 h3 h4 h5 h6) rfl rfl hK
theorem answers_t (hS:S0 Tryz.prog=S) {x:Int}(h0:0<=x/\x<=255) (ht:ansB x=true) (h:K .tt l):S.call 67 [.i .u8 (.y x)] l K:=by
 subst hS;exact qai (qae (qzaim (t:=true) h0 ht) λx _ hx=>⟨.tt,hx.trans (qbt rfl),.rfl⟩) rfl rfl h
theorem answers_n (hS:S0 Tryz.prog=S) {x:Int}(h0:0<=x/\x<=255) (ht:ansB x=false) (h:K .ff l):S.call 67 [.i .u8 (.y x)] l K:=by
 subst hS;exact qai (qae (qzaim (t:=false) h0 ht) λx _ hx=>⟨.ff,hx.trans (qkt rfl),.rfl⟩) rfl rfl h
end
theorem want_len {ss:List St}{a:Int}{L:List (Int×Int)}{H:Nat->Int}(hg:GdS ss) (h:GdR ss a (L,H)):ilen (allR L H)=ilen (want ss a):=by
 have key:∀ {A:List (Int×Int)},(A.map (·.1)).Nodup->A.Nodup:=λ{A} h=>by
  unfold List.Nodup at h ⊢;rw[List.pairwise_map] at h;exact h.imp λ{a b} hab e=>hab (congrArg Prod.fst e)
 have hp:(allR L H).Perm (want ss a):=(List.perm_ext_iff_of_nodup (key h.r.nd) (key (qzami hg a))).2 h.mem;unfold ilen;rw[hp.length_eq]
theorem qzafr {ss:List St}{a x:Int}{s:St}(h0:0<=x) (hy:ss[x.toNat]?=some s):want (ss.take (x+1).toNat) a=if sendB s a=true then want (ss.take x.toNat) a++[(s.sl,s.ur)] else want (ss.take x.toNat) a:=by
 rw[show (x+1).toNat=x.toNat+1 by omega,List.take_add_one,hy];unfold want;rw[List.filter_append,List.map_append];simp only[Option.toList_some,List.filter_cons,List.filter_nil];split<;>simp
theorem qiy {ss:List St}{x:Int}{s:St}(h0:0<=x) (hy:ss[x.toNat]?=some s) (z:Int):z∈slots (ss.take (x+1).toNat)↔z∈slots (ss.take x.toNat)∨(ansB s.st=true/\z=s.sl):=by
 rw[show (x+1).toNat=x.toNat+1 by omega,List.take_add_one,hy];unfold slots;rw[List.filter_append,List.map_append,List.mem_append];simp only[Option.toList_some,List.filter_cons,List.filter_nil];split
 ·rename_i h;simp [h]
 ·rename_i h;simp [h]
theorem qzaqv {ss:List St}(hg:GdS ss) {k:Nat}{s:St}(hy:ss[k]?=some s) (ha:ansB s.st=true):s.sl∉slots (ss.take k):=by
 intro h;unfold slots at h;obtain⟨t,ht,e⟩:=List.mem_map.1 h;obtain⟨h1,h2⟩:=List.mem_filter.1 ht;obtain⟨j,hj,rfl⟩:=List.mem_iff_getElem.1 h1;rw[List.length_take] at hj;have h3:ss[j]?=some ((ss.take k)[j]'(by rw[List.length_take];exact hj)):=by
  rw[List.getElem_take,<-List.getElem?_eq_getElem]
 exact qzaew.1 hg.nd j k _ s (by omega) h3 hy h2 ha e
section
variable {os:List Ot}{tr:List Tb.Fd}{zs:List Int}{ss:List St}{Fo:List SV}{no tm:Int}{Fr:List SV}{nr:Int}{Fz:List SV}{nz se re ow:Int}{Fs:List SV}{ns w:Int}{H:Nat->Int}{sh:Bool}{L:List (Int×Int)}
theorem qzave (hn:LnN os tr zs ss Fo no Fr nr Fz nz Fs ns) (hg:GdL ⟨os,tm,tr,zs,se,re,ow,ss,L,H,sh⟩) (hw:w=wdI L)
  (hwt:∀ o∈os,∀ D dn Q qn Lf ln,OtN o D dn Q qn Lf ln->∀ (bl:List Blk) (K:SV->List Blk->Prop),K .tt bl->(S0 Tryz.prog).call 37 [.ag (otK o D dn Q qn Lf ln)] bl K):
  (S0 Tryz.prog).call 36 [.ag (lnK Fo no tm Fr nr Fz nz se re ow Fs ns w H sh)] [] (λx _=>Sub x .tt):=by
 have o0:0<=no:=by rw[hn.on];exact qaj _
 have s0:0<=ns:=by rw[hn.sn];exact qaj _
 have s8:ns<=8:=by rw[hn.sn];exact hg.ss.len
 have hR:=hg.rd.r;have hse:=hg.se;have hon:no<=if sh=true then 129 else 128:=by rw[hn.on];exact hg.on
 have htab:=hg.tab;have hzs:=hg.zs;have hre:=hg.re;have how:=hg.ow;have hss:=hg.ss;have hbw:=qgi hse;dsimp only at hR hse hon htab hzs hre how hss hbw;have hwl:=want_len hss hg.rd;have hmem:=hg.rd.mem;dsimp only at hwl hmem;clear hg;have hlast:∀ (bl:List Blk) (K:SV->List Blk->Prop),K .tt bl->(S0 Tryz.prog).call 79 [.ag (lnK Fo no tm Fr nr Fz nz se re ow Fs ns w H sh)] bl K:=λbl K h=>last_u rfl hn hon htab hzs hse hre how h;unfold lnK at hlast ⊢;generalize hS:S0 Tryz.prog=S at *;refine qaa hS I.quc ?_;cbv
 repeat' (first|(refine qac hS ?_ ?_<;>intro h<;>(try cbv)<;>try exact s_ab h)|(refine hlast _ _ ?_;cbv)|(refine qkv hS (H:=H) hR hw ?_;cbv)|(refine qaa hS I.qgk ?_;cbv)|(refine qbq hS I.qel ?_;cbv)|fail)
 refine qad hS 5 I.qcj (λx:Int=>0<=x/\x<=no) (λx=>[(7,.i .i64 (.y x))]) (λ_=>[]) (λx=>(no-x).toNat) 0 rfl ⟨⟨Int.le_refl _,o0⟩,rfl,?_,?_,by cbv⟩ ?_
 ·cbv;exact s_qA
 ·cbv;exact s_qA
 intro x hx;cbv;obtain⟨g0,g1⟩:=hx;refine s_br hS ?_ ?_<;>intro h'<;>cbv<;>simp only[<-hS,Int.ofNat_eq_natCast,cq,Bool.not_eq_true',Bool.not_eq_false',decide_eq_true_eq,decide_eq_false_iff_not,beq_iff_eq,beq_eq_false_iff_ne,ne_eq] at h'
 ·obtain⟨o,hy⟩:=qbi (l:=os) (i:=x) (by have:=hn.on;omega) g0
  obtain⟨D,dn,Q,qn,Lf,ln,hN⟩:=ot_n o;have hmk:=qzago o hN;have hwo:=hwt o (List.mem_of_getElem? hy) D dn Q qn Lf ln hN;unfold otK at hwo;obtain⟨k,ost,sz,co,da,ps,li⟩:=o;dsimp only at hwo
  repeat' (first|(refine s_ck hS ?_;try cbv)|(refine s_ad hS ?_;intro _ _;try cbv)|(refine qal hS (enc:=otC) (l:=os) hn.o hy (λ_=>rfl) g0 (by omega) hmk ?_;cbv)|(refine qfw hS rfl rfl ?_;cbv)|(refine hwo _ _ ?_;cbv)|fail)
  rename_i r e;exact⟨r,by omega,⟨by omega,by omega⟩,rfl,by cbv;exact s_qA,by cbv;exact s_qA,by cbv⟩
 ·clear hwt hlast
  refine qad hS 5 I.qyu (λx:Int×Int×Int=>0<=x.1/\x.1<=ns/\(∃ A:List Int,x.2.1=setI A/\(∀ z∈A,0<=z/\z<=7)/\∀ z,z∈A->z∈slots (ss.take x.1.toNat))/\∀ (j:Nat) (s:St),x.1.toNat<=j->ss[j]?=some s->x.2.2<s.id)
   (λx=>[(40,.i .i64 (.y x.1)),(3,.i .i64 (.y x.2.1)),(4,.i .i64 (.y x.2.2))]) (λ_=>[]) (λx=>(ns-x.1).toNat) (0,0,0) rfl ⟨⟨Int.le_refl _,s0,⟨[],rfl,λz h=>(by cases h),λz h=>by cases h⟩,λj s _ hj=>by have:=of_decide_eq_true (hss.ok s (List.mem_of_getElem? hj)).2.1;dsimp only;omega⟩,rfl,?_,?_,by cbv⟩ ?_
  ·cbv;exact s_qA
  ·cbv;exact s_qA
  intro y;obtain⟨y,sv,pid⟩:=y;intro hx;dsimp only at hx;cbv;obtain⟨k0,k1,⟨A,a1,a2,a3⟩,k3⟩:=hx;refine qac hS ?_ ?_<;>intro h2<;>cbv
  ·obtain⟨s,hy⟩:=qbi (l:=ss) (i:=y) (by have:=hn.sn;omega) k0
   obtain⟨D,hD⟩:∃ F,cellsB s.o=F:=⟨_,rfl⟩;obtain⟨dn,hdn⟩:∃ m,m=ilen s.o:=⟨_,rfl⟩;have hm:=List.mem_of_getElem? hy;obtain⟨ok,q1,q2,q3⟩:=hss.ok s hm;have hmk:=qdg s hD hdn;have hpid:=k3 y.toNat s (Nat.le_refl _) hy;have hbs:=qpy ok q1;have hid:∀ r,r=y+1->∀ (j:Nat) (t:St),r.toNat<=j->ss[j]?=some t->s.id<t.id:=λr hr j t hj ht=>by
    have hsr:=hss.srt;rw[List.pairwise_map,List.pairwise_iff_getElem] at hsr;obtain⟨p1,rfl⟩:=List.getElem?_eq_some_iff.1 hy;obtain⟨p2,rfl⟩:=List.getElem?_eq_some_iff.1 ht;exact hsr _ _ p1 p2 (by omega)
   have hst:=ok.st;cases ha:ansB s.st with
   | true=>
    have hsl:=qen hss hm ha;have hnew:s.sl∉A:=λh=>qzaqv hss hy ha (a3 _ h);obtain⟨v1,hv1⟩:∃ v,arS .shr .i64 sv s.sl=v:=⟨_,rfl⟩;have hv2:arS .and .i64 v1 1=0:=by rw[<-hv1,a1];exact qzawq hsl a2 hnew
    obtain⟨v3,hv3⟩:∃ v,arS .shl .i64 1 s.sl=v:=⟨_,rfl⟩;obtain⟨v4,hv4⟩:∃ v,arS .or .i64 sv v3=v:=⟨_,rfl⟩;have hA':∀ r,r=y+1->∃ A:List Int,v4=setI A/\(∀ z∈A,0<=z/\z<=7)/\∀ z,z∈A->z∈slots (ss.take r.toNat):=λr hr=>by
     refine⟨s.sl::A,by rw[<-hv4,<-hv3,a1];exact ar_or hsl a2,λz hz=>?_,λz hz=>?_⟩
     ·rcases List.mem_cons.1 hz with rfl|hz
      ·exact hsl
      ·exact a2 z hz
     ·rw[hr,qiy k0 hy]
      rcases List.mem_cons.1 hz with rfl|hz
      ·exact .inr ⟨ha,rfl⟩
      ·exact .inl (a3 z hz)
    obtain⟨id,sst,sse,sre,sow,an,en,o,ur,ic,sl⟩:=s;dsimp only at hD hdn hpid hid hst ha hsl hv1 hv2 hv3 hv4 hA' q2
    repeat' (first|(refine s_ck hS ?_;try cbv)|(refine qac hS ?_ ?_<;>intro h<;>(try cbv)<;>try exact s_ab h)|(refine s_ad hS ?_;intro _ _;try cbv)|(refine qal hS (enc:=stC) (l:=ss) hn.s hy (λ_=>rfl) k0 (by omega) hmk ?_;cbv)|(refine qag hS rfl I.qmn (by decide +kernel) ?_;cbv)|(refine qci hS ⟨id,sst,sse,sre,sow,an,en,o,ur,ic,sl⟩ true ok hD hdn q1 ?_;cbv)|(refine qzale hS true hst q2 ?_;cbv)|(refine answers_t hS hst ha ?_;cbv)|(refine qcg hS _ hv1 ?_;cbv)|(refine qcg hS _ hv2 ?_;cbv)|(refine qcg hS _ hv3 ?_;cbv)|(refine qcg hS _ hv4 ?_;cbv)|(refine qzaqz hS ?_;try cbv)|fail)
    all_goals first
     | (exfalso;omega)
     | (rename_i r e;exact⟨(r,v4,id),by dsimp only;omega,⟨by dsimp only;omega,by dsimp only;omega,hA' r (by omega),hid r (by omega)⟩,rfl,by cbv;exact s_qA,by cbv;exact s_qA,by cbv⟩)
   | false=>
    have hsl:s.sl=-1:=by unfold slotB at q3;rw[if_neg (by rw[ha];decide)] at q3;exact of_decide_eq_true q3
    have hA':∀ r,r=y+1->∃ A:List Int,sv=setI A/\(∀ z∈A,0<=z/\z<=7)/\∀ z,z∈A->z∈slots (ss.take r.toNat):=λr hr=>⟨A,a1,a2,λz hz=>by rw[hr,qiy k0 hy];exact .inl (a3 z hz)⟩;obtain⟨id,sst,sse,sre,sow,an,en,o,ur,ic,sl⟩:=s;dsimp only at hD hdn hpid hid hst ha hsl hA' q2
    repeat' (first|(refine s_ck hS ?_;try cbv)|(refine qac hS ?_ ?_<;>intro h<;>(try cbv)<;>try exact s_ab h)|(refine s_ad hS ?_;intro _ _;try cbv)|(refine qal hS (enc:=stC) (l:=ss) hn.s hy (λ_=>rfl) k0 (by omega) hmk ?_;cbv)|(refine qag hS rfl I.qmn (by decide +kernel) ?_;cbv)|(refine qci hS ⟨id,sst,sse,sre,sow,an,en,o,ur,ic,sl⟩ true ok hD hdn q1 ?_;cbv)|(refine qzale hS true hst q2 ?_;cbv)|(refine answers_n hS hst ha ?_;cbv)|(refine qzaqz hS ?_;try cbv)|fail)
    all_goals first
     | (exfalso;omega)
     | (rename_i r e;exact⟨(r,sv,id),by dsimp only;omega,⟨by dsimp only;omega,by dsimp only;omega,hA' r (by omega),hid r (by omega)⟩,rfl,by cbv;exact s_qA,by cbv;exact s_qA,by cbv⟩)
  ·repeat' (first|(refine qaa hS I.qhd ?_;cbv)|(refine qbq hS I.qfk ?_;cbv)|fail)
   refine qad hS 8 I.qde (λx:Int×Int=>0<=x.1/\x.1<=ns/\x.2=ilen (want (ss.take x.1.toNat) se)) (λx=>[(8,.i .i64 (.y x.1))]) (λx=>[(1,.c [.i .i64 (.y x.2)])]) (λx=>(ns-x.1).toNat) (0,0) rfl ⟨⟨Int.le_refl _,s0,rfl⟩,rfl,?_,?_,by cbv⟩ ?_
   ·cbv;exact s_qA
   ·cbv;exact s_qA
   intro z;obtain⟨z,m⟩:=z;intro hx;dsimp only at hx;cbv;obtain⟨j0,j1,j2⟩:=hx;refine qac hS ?_ ?_<;>intro h3<;>cbv
   ·obtain⟨s,hy⟩:=qbi (l:=ss) (i:=z) (by have:=hn.sn;omega) j0
    obtain⟨D,hD⟩:∃ F,cellsB s.o=F:=⟨_,rfl⟩;obtain⟨dn,hdn⟩:∃ m,m=ilen s.o:=⟨_,rfl⟩;have hm:=List.mem_of_getElem? hy;obtain⟨ok,q1,q2,q3⟩:=hss.ok s hm;have hmk:=qdg s hD hdn;have hur:=(qpy ok q1).2;have htk:=qzafr (a:=se) j0 hy;have hml:0<=m/\m<=z:=by
     rw[j2];refine⟨qaj _,?_⟩;unfold want ilen;rw[List.length_map]
     have:=List.length_filter_le (λs=>sendB s se) (ss.take z.toNat)
     rw[List.length_take] at this;omega
    cases hsd:sendB s se with
    | true=>
     rw[hsd,if_pos rfl] at htk;have hin:=(hmem (s.sl,s.ur)).2 (qei.2 ⟨s,hm,hsd,rfl⟩);have hof:=qzagu hR.nd hin;dsimp only at hof;have hm':∀ r,r=z+1->m+1=ilen (want (ss.take r.toNat) se):=λr hr=>by
      rw[hr,htk,j2];unfold ilen;rw[List.length_append,List.length_singleton];omega
     obtain⟨id,sst,sse,sre,sow,an,en,o,ur,ic,sl⟩:=s;dsimp only at hD hdn hur hof
     repeat' (first|(refine s_ck hS ?_;try cbv)|(refine qac hS ?_ ?_<;>intro h<;>(try cbv)<;>try exact s_ab h)|(refine s_ad hS ?_;intro _ _;try cbv)|(refine qdd hS ?_;try cbv)|(refine qal hS (enc:=stC) (l:=ss) hn.s hy (λ_=>rfl) j0 (by omega) hmk ?_;cbv)|(refine qcl hS ⟨id,sst,sse,sre,sow,an,en,o,ur,ic,sl⟩ true ok hbw hD hdn hsd ?_;cbv)|(refine qfw hS rfl rfl ?_;cbv)|(refine qzajf hS (H:=H) hR hw _ _ hof.2 hof.1 ?_;cbv)|fail)
     all_goals first
      | (exfalso;omega)
      | (rename_i r1 e1 r2 e2;exact⟨(r2,r1),by dsimp only;omega,⟨by dsimp only;omega,by dsimp only;omega,by dsimp only;rw[e1];exact hm' r2 (by omega)⟩,rfl,by cbv;exact s_qA,by cbv;exact s_qA,by cbv⟩)
    | false=>
     rw[hsd,if_neg (by decide)] at htk;obtain⟨id,sst,sse,sre,sow,an,en,o,ur,ic,sl⟩:=s;dsimp only at hD hdn hur
     repeat' (first|(refine s_ck hS ?_;try cbv)|(refine qac hS ?_ ?_<;>intro h<;>(try cbv)<;>try exact s_ab h)|(refine s_ad hS ?_;intro _ _;try cbv)|(refine qal hS (enc:=stC) (l:=ss) hn.s hy (λ_=>rfl) j0 (by omega) hmk ?_;cbv)|(refine qcl hS ⟨id,sst,sse,sre,sow,an,en,o,ur,ic,sl⟩ false ok hbw hD hdn hsd ?_;cbv)|fail)
     all_goals first
      | (exfalso;omega)
      | (rename_i r2 e2;exact⟨(r2,m),by dsimp only;omega,⟨by dsimp only;omega,by dsimp only;omega,by dsimp only;rw[j2,e2];first|exact congrArg ilen htk.symm|(exact (congrArg ilen htk).symm)⟩,rfl,by cbv;exact s_qA,by cbv;exact s_qA,by cbv⟩)
   ·have hzn:z=ns:=by omega
    have hmm:m=ilen (allR L H):=by rw[j2,hzn,hwl,qcs (by have:=hn.sn;omega)]
    repeat' (first|(refine qag hS rfl I.qzw (by decide +kernel) ?_;cbv)|(refine rmany_u hS (H:=H) hR hw m hmm ?_;cbv)|fail)
    all_goals first
     | (refine qbt ?_;subst hS;simp only[cr];simp;done)
     | (refine qbt ?_;subst hS;simp only[cr];exact decide_eq_true rfl)
     | exact s_qA
end
end Wr
end Cz
