/- What the claims of this group lean on: WbB WbC. No condition. -/
import Derived.Test.YtfijlhdheiebcaaGreatDoorKB46
import Derived.Test.YtfijlhdheiebcaaGreatDoorKB49
set_option linter.unusedSimpArgs false
set_option linter.unusedVariables false
set_option maxRecDepth 100000
set_option maxHeartbeats 4000000
namespace Cz
open Go Go.RowKit Go.Proofs
namespace Wr
theorem bi_w {m:Bool}:∀ o∈(if m=true then [wO] else []:List Ot),WtP o:=λo ho=>by
 cases m with
 | false=>cases ho
 | true=>rw[if_pos rfl,List.mem_singleton] at ho;subst ho;exact wO_p
theorem bi_g {m:Bool}:∀ o∈(if m=true then [wO] else []:List Ot),GoP o:=λo ho=>by
 cases m with
 | false=>cases ho
 | true=>rw[if_pos rfl,List.mem_singleton] at ho;subst ho;exact wO_g
theorem wY_sub:SubL [wQ] [.ag (otK wO [] 0 [] 0 [] 0)]:=by
 refine .cons (qja ?_) .nil
 repeat' (first|exact .nil|refine .cons ?_ ?_|exact .rfl|exact qau rfl|exact qpx (by decide) rfl rfl|fail)
theorem put_win {w b0 b1 b2 b3:Int}(h0:0<=w) (h1:w<=2147483647) (e0:b0=w%256) (e1:b1=w/256%256) (e2:b2=w/65536%256) (e3:b3=w/16777216):putB ⟨8,0,0,[],0,w,0,[]⟩=[0,0,4,8,0,0,0,0,0,b3,b2,b1,b0]:=by
 have hp:payB ⟨8,0,0,[],0,w,0,[]⟩=[b3,b2,b1,b0]:=by
  show beB 4 w=_;have q1:w/256/256=w/65536:=by omega
  have q2:w/65536/256=w/16777216:=by omega
  have q3:w/16777216%256=b3:=by omega
  simp only[beB,List.nil_append,List.cons_append,q1,q2,q3,<-e0,<-e1,<-e2]
 unfold putB;rw[hp,show ilen [b3,b2,b1,b0]=4 from rfl];dsimp only;rw[show beB 3 4=[0,0,4] by decide,show beB 4 0=[0,0,0,0] by decide];rfl
section
variable {tm:Int}{Fr:List SV}{nr:Int}{Fz:List SV}{nz se re ow:Int}{Fs:List SV}{ns w:Int}{H:Nat->Int}{Fc:List SV}{nc:Int}
theorem back_d {tr:List Tb.Fd}{zs:List Int}{ss:List St}{L:List (Int×Int)}{came:List Int}{Fo:List SV}{no:Int}
  (hwk:∀ (bl:List Blk) (K:SV->List Blk->Prop),K .tt bl->(S0 Tryz.prog).call 9 [] bl K)
  (hgr:∀ (bl:List Blk) (K:SV->List Blk->Prop),K .ff bl->(S0 Tryz.prog).call 7 [.ag (lnK Fo no tm Fr nr Fz nz se re ow Fs ns w H false)] bl K)
  (hn:LnN [] tr zs ss Fo no Fr nr Fz nz Fs ns) (hw:w=wdI L) (hg:GdL ⟨[],tm,tr,zs,se,re,ow,ss,L,H,false⟩)
  (hdr:∀ (bl:List Blk) (K:SV->List Blk->Prop),K .tt bl->(S0 Tryz.prog).call 8 [.ag (lnK Fo no tm Fr nr Fz nz se re ow Fs ns w H false)] bl K)
  (hFc:cellsI came=Fc) (hnc:nc=ilen came) (hn20:nc<=20) (hcb:∀ z∈came,Big z) (hsum:re+ow<=2147483647):
  (S0 Tryz.prog).call 5 [.ag (lnK Fo no tm Fr nr Fz nz se re ow Fs ns w H false),.v false 1 Fc (.y nc)] [] (λx _=>Sub x .tt):=by
 have hno:no=0:=hn.on;have hnc0:=qaj came;rw[<-hnc] at hnc0;have hre:=hg.re;have how:=hg.ow;dsimp only at hre how;have hinit:BI ⟨[],tm,tr,zs,se,re,ow,ss,L,H,false⟩ (re+ow) ow false:=⟨hg,rfl,rfl,rfl,rfl,hsum⟩;clear hg;unfold lnK at hgr hdr ⊢;generalize hS:S0 Tryz.prog=S at hwk hgr hdr ⊢;refine qaa hS I.qzaws ?_;cbv
 repeat' (first|(refine qac hS ?_ ?_<;>intro h<;>(try cbv)<;>try exact s_ab h)|(refine s_ad hS ?_;intro _ _;try cbv)|(refine hgr _ _ ?_;cbv)|(refine hdr _ _ ?_;cbv)|(refine qag hS rfl I.qzawv (by decide +kernel) ?_;cbv)|fail)
 rename_i all hall;refine qad hS 1 I.qzaxa
  (λx:Int×Int×Int×Int×Bool×List SV×Int=>BI ⟨if x.2.2.2.2.1=true then [wO] else [],tm,tr,zs,se,x.1,x.2.1,ss,L,H,false⟩ all x.2.2.2.1 x.2.2.2.2.1/\LnN (if x.2.2.2.2.1=true then [wO] else []) tr zs ss x.2.2.2.2.2.1 x.2.2.2.2.2.2 Fr nr Fz nz Fs ns/\0<=x.2.2.1/\x.2.2.1<=nc/\(x.2.2.2.2.1=true↔0<x.2.2.1))
  (λx=>[(7,.i .i64 (.y x.2.2.1)),(6,.i .i64 (.y x.2.2.2.1))])
  (λx=>[(0,.c [.v false 7 x.2.2.2.2.2.1 (.y x.2.2.2.2.2.2),.i .i64 (.y tm),.v false 2 Fr (.y nr),.v false 1 Fz (.y nz),.i .i64 (.y se),.i .i64 (.y x.1),.i .i64 (.y x.2.1),.v false 11 Fs (.y ns),.i .u64 (.y w),.i .i64 (.y (H 0)),.i .i64 (.y (H 1)),.i .i64 (.y (H 2)),.i .i64 (.y (H 3)),.i .i64 (.y (H 4)),.i .i64 (.y (H 5)),.i .i64 (.y (H 6)),.i .i64 (.y (H 7)),.b false])])
  (λx=>(nc-x.2.2.1).toNat) (re,ow,0,ow,false,Fo,no) rfl
  ⟨⟨hall▸hinit,hn,Int.le_refl _,hnc0,⟨λe=>(by cases e),λe=>(by dsimp only at e;omega)⟩⟩,rfl,?_,?_,by cbv⟩ ?_
 ·(cbv;try exact s_qA)
 ·(cbv;try exact s_qA)
 intro x;obtain⟨re',ow',i,od,m,F,n⟩:=x;intro hx;dsimp only at hx;cbv;obtain⟨g1,g2,g3,g4,g5⟩:=hx;have hwm:∀ o∈(if m=true then [wO] else []:List Ot),WtP o:=bi_w;have hgm:∀ o∈(if m=true then [wO] else []:List Ot),GoP o:=bi_g;have hso:=g1.sum;have hod:=g1.ow;have hgd:=g1.gd;have hre':=hgd.re;have how':=hgd.ow;dsimp only at hso hod hre' how';by_cases h1:i<nc
 ·obtain⟨c,hc⟩:=qbi (l:=came) (i:=i) (by omega) g3
  have hcB:=hcb c (List.mem_of_getElem? hc);obtain⟨F',hF'⟩:∃ F,cellsO [wO]=F:=⟨_,rfl⟩;obtain⟨n',hn'⟩:∃ n,n=ilen [wO]:=⟨_,rfl⟩;have hn1:n'=1:=by rw[hn'];rfl
  have hnP:LnN [wO] tr zs ss F' n' Fr nr Fz nz Fs ns:=⟨hF',hn',by omega,λo ho=>by rw[List.mem_singleton] at ho;subst ho;exact wO_ok,g2.r,g2.rn,g2.rb,g2.rf,g2.z,g2.zn,g2.zb,g2.s,g2.sn,g2.sb,g2.so⟩;by_cases hcc:0<=c/\c<=re'
  ·obtain⟨e1,e2⟩:=bi_gotT g1 hcc
   obtain⟨e4,e5⟩:=bi_put e2;dsimp only at e1 e2 e4 e5;obtain⟨r2,hr2⟩:∃ r,re'-c=r:=⟨_,rfl⟩;obtain⟨o2,ho2⟩:∃ r,ow'+c=r:=⟨_,rfl⟩;obtain⟨d2,hd2⟩:∃ r,od+c=r:=⟨_,rfl⟩;rw[hr2,ho2] at e1 e2 e4 e5;rw[hd2] at e2 e5;have c1:=got_f (X:=⟨if m=true then [wO] else [],tm,tr,zs,se,re',ow',ss,L,H,false⟩) g2 hgd hw hwm hcB e1;have c2:=put_w (X:=⟨if m=true then [wO] else [],tm,tr,zs,se,r2,o2,ss,L,H,false⟩) g2 e2.gd hw hwm (.inr (by cases m;exact .inl rfl;exact .inr rfl)) e4 hF' hn';unfold lnK at c1 c2;dsimp only at c1 c2;clear e1 e2 e4 hinit hnc hwm hgm hgd
   repeat' (first|(refine s_ck hS ?_;try cbv)|(refine qac hS ?_ ?_<;>intro h<;>(try cbv)<;>try exact s_ab h)|(refine s_ad hS ?_;intro _ _;try cbv)|(refine qaq hS c1 .rfl rfl ?_;cbv)|(refine qaq hS c2 (.cons .rfl wY_sub) rfl ?_;cbv)|(refine qnt hS rfl I.qzawt (by decide +kernel) ?_;cbv;(repeat' (refine And.intro ?_ ?_))<;>cbv)|(refine qag hS rfl I.qzawu (by decide +kernel) ?_;cbv)|(refine qal hS (enc:=i1) (l:=came) hFc hc (λ_=>rfl) g3 (by omega) rfl ?_;cbv)|(refine qzaqz hS ?_;try cbv)|fail)
   all_goals first
    | (exfalso;omega)
    | (exfalso;exact h (decide_eq_true hcc.2).symm)
    | (rename_i ra ea ht rb eb;have q1:d2=ra:=(by omega);rw[q1] at e5;refine⟨(r2,o2,rb,ra,true,F',n'),by dsimp only;omega,⟨e5,hnP,by dsimp only;omega,by dsimp only;omega,⟨λ_=>by dsimp only;omega,λ_=>rfl⟩⟩,rfl,by (cbv;try exact s_qA),by (cbv;try exact s_qA),by cbv⟩)
  ·have e1:=bi_gotF g1 hcc
   obtain⟨e4,e5⟩:=bi_put g1;dsimp only at e1 e4 e5;have c1:=got_f (X:=⟨if m=true then [wO] else [],tm,tr,zs,se,re',ow',ss,L,H,false⟩) g2 hgd hw hwm hcB e1;have c2:=put_w (X:=⟨if m=true then [wO] else [],tm,tr,zs,se,re',ow',ss,L,H,false⟩) g2 hgd hw hwm (.inr (by cases m;exact .inl rfl;exact .inr rfl)) e4 hF' hn';unfold lnK at c1 c2;dsimp only at c1 c2;clear e1 e4 hinit hnc hwm hgm hgd
   repeat' (first|(refine s_ck hS ?_;try cbv)|(refine qac hS ?_ ?_<;>intro h<;>(try cbv)<;>try exact s_ab h)|(refine s_ad hS ?_;intro _ _;try cbv)|(refine qaq hS c1 .rfl rfl ?_;cbv)|(refine qaq hS c2 (.cons .rfl wY_sub) rfl ?_;cbv)|(refine qnt hS rfl I.qzawt (by decide +kernel) ?_;cbv;(repeat' (refine And.intro ?_ ?_))<;>cbv)|(refine qag hS rfl I.qzawu (by decide +kernel) ?_;cbv)|(refine qal hS (enc:=i1) (l:=came) hFc hc (λ_=>rfl) g3 (by omega) rfl ?_;cbv)|(refine qzaqz hS ?_;try cbv)|fail)
   all_goals first
    | (exfalso;omega)
    | (exfalso;exact h (decide_eq_false (λe=>hcc ⟨by omega,e⟩)).symm)
    | (rename_i rb eb;refine⟨(re',ow',rb,od,true,F',n'),by dsimp only;omega,⟨e5,hnP,by dsimp only;omega,by dsimp only;omega,⟨λ_=>by dsimp only;omega,λ_=>rfl⟩⟩,rfl,by (cbv;try exact s_qA),by (cbv;try exact s_qA),by cbv⟩)
 ·obtain⟨⟨osY,tmY,trY,zsY,seY,reY,owY,ssY,LY,HY,shY⟩,b,⟨gk,gf,gs,gm⟩,t,e1,e2,e3,e4,e5,e6⟩:=bi_end g1
  obtain⟨Fo2,no2,Fr2,nr2,Fz2,nz2,Fs2,ns2,hnY⟩:=gdl_n e2;obtain⟨w2,hw2⟩:∃ w2,w2=wdI LY:=⟨_,rfl⟩;obtain⟨bn,hbn⟩:∃ bn,bn=ilen b:=⟨_,rfl⟩;obtain⟨B,hB⟩:∃ B,cellsB b=B:=⟨_,rfl⟩;have c3:=step_f (X:=⟨if m=true then [wO] else [],tm,tr,zs,se,re',ow',ss,L,H,false⟩) g2 hgd hw hwm hgm dtp (most:=1) (cut:=1) ⟨by decide,by decide⟩ ⟨by decide,by decide⟩ e1 hnY hw2 hB hbn;unfold lnK at c3;dsimp only at c3 e3 e4 e5 e6;by_cases hz:m=false∨od=0
  ·have h5:=e5 hz
   have hnz:nc=0∨od=0:=by
    rcases hz with h|h
    ·refine .inl ?_
     have:¬ 0<i:=λe=>by rw[g5.2 e] at h;cases h
     omega
    ·exact .inr h
   clear e6 e5 e1 g1 g2 g5 hinit hnc hwm hgm hgd;cases t
   all_goals
    (try have h6:gk=0:=h5 rfl)
    clear h5
    repeat' (first|(refine qac hS ?_ ?_<;>intro h<;>(try cbv)<;>try exact s_ab h)|(refine qaq hS c3 (.cons .rfl (.cons (qau rfl) (.cons (qau rfl) .nil))) rfl ?_;cbv)|(refine hwk _ _ ?_;cbv)|fail)
    all_goals first
     | exact .rfl
     | (exfalso;omega)
  ·have hm:m=true:=by cases m with
    | false=>exact absurd (.inl rfl) hz
    | true=>rfl
   have hod0:od≠0:=λe=>hz (.inr e);obtain⟨f1,f2,f3,f4,f5,f6⟩:=e6 hm hod0;obtain⟨⟨osZ,tmZ,trZ,zsZ,seZ,reZ,owZ,ssZ,LZ,HZ,shZ⟩,b',⟨gk',gf',gs',gm'⟩,t',e7⟩:∃ (Z:Ln) (b:List Int) (g:Gn) (t:Bool),stepL ⟨osY,tmY,trY,zsY,seY,reY,owY,ssY,LY,HY,shY⟩ 1 1=(Z,b,g,t):=⟨_,_,_,_,rfl⟩;have e8:GdL ⟨osZ,tmZ,trZ,zsZ,seZ,reZ,owZ,ssZ,LZ,HZ,shZ⟩:=by have:=(qzauw (most:=1) (cut:=1) e2).1;rw[e7] at this;exact this
   have e9:gk'=0:=step_0 f2 e7 e2;obtain⟨Fo3,no3,Fr3,nr3,Fz3,nz3,Fs3,ns3,hnZ⟩:=gdl_n e8;obtain⟨w3,hw3⟩:∃ w,w=wdI LZ:=⟨_,rfl⟩;obtain⟨bn',hbn'⟩:∃ bn,bn=ilen b':=⟨_,rfl⟩;obtain⟨B',hB'⟩:∃ B,cellsB b'=B:=⟨_,rfl⟩;have c4:=step_f (X:=⟨osY,tmY,trY,zsY,seY,reY,owY,ssY,LY,HY,shY⟩) hnY e2 hw2 (noW f2) (noG f2) dtp (most:=1) (cut:=1) ⟨by decide,by decide⟩ ⟨by decide,by decide⟩ e7 hnZ hw3 hB' hbn';unfold lnK at c4;dsimp only at c4;simp only[Gn.mk.injEq] at f4;obtain⟨k1,k2,k3,k4⟩:=f4;rw[f1,k1,k2,k3,k4] at c3;rw[e9] at c4;obtain⟨b0,hb0⟩:∃ b,b=od%256:=⟨_,rfl⟩;obtain⟨b1,hb1⟩:∃ b,b=od/256%256:=⟨_,rfl⟩;obtain⟨b2,hb2⟩:∃ b,b=od/65536%256:=⟨_,rfl⟩;obtain⟨b3,hb3⟩:∃ b,b=od/16777216:=⟨_,rfl⟩;have hbb:b=[0,0,4,8,0,0,0,0,0,b3,b2,b1,b0]:=by rw[f3];exact put_win (by omega) (by omega) hb0 hb1 hb2 hb3
   have hBB:B=cellsB [0,0,4,8,0,0,0,0,0,b3,b2,b1,b0]:=by rw[<-hB,hbb]
   have hbn2:bn=13:=by rw[hbn,hbb];rfl
   have c5:=Wf.frames_8 (w:=od) (b0:=b0) (b1:=b1) (b2:=b2) (b3:=b3) (by omega) (by omega) (by omega) (by omega) (by omega) (by omega);have hsb:SubL [.v false 1 B (.y bn)] [.v true 1 [.i .u8 (.l 0),.i .u8 (.l 0),.i .u8 (.l 4),.i .u8 (.l 8),.i .u8 (.l 0),.i .u8 (.l 0),.i .u8 (.l 0),.i .u8 (.l 0),.i .u8 (.l 0),.i .u8 (.y b3),.i .u8 (.y b2),.i .u8 (.y b1),.i .u8 (.y b0)] (.l 13)]:=by
    rw[hBB,hbn2];refine .cons (sub_vl ?_ rfl rfl) .nil;show SubL [.i .u8 (.y 0),.i .u8 (.y 0),.i .u8 (.y 4),.i .u8 (.y 8),.i .u8 (.y 0),.i .u8 (.y 0),.i .u8 (.y 0),.i .u8 (.y 0),.i .u8 (.y 0),.i .u8 (.y b3),.i .u8 (.y b2),.i .u8 (.y b1),.i .u8 (.y b0)] _
    repeat' (first|exact .nil|refine .cons ?_ ?_|exact .rfl|exact qau rfl|fail)
   have hn0:¬ nc=0:=by have:=g5.1 hm;omega
   clear e5 e6 e1 g1 g2 g5 hinit hnc hwm hgm hgd hBB hbb f3 hB e7 e8 hnZ hnY e2
   repeat' (first|(refine qac hS ?_ ?_<;>intro h<;>(try cbv)<;>try exact s_ab h)|(refine qaq hS c3 (.cons .rfl (.cons (qau rfl) (.cons (qau rfl) .nil))) rfl ?_;cbv)|(refine qaq hS c5 hsb rfl ?_;cbv)|(refine qaq hS c4 (.cons .rfl (.cons (qau rfl) (.cons (qau rfl) .nil))) rfl ?_;cbv)|(refine hwk _ _ ?_;cbv)|fail)
   all_goals first
    | exact .rfl
    | (exfalso;omega)
end
end Wr
end Cz
namespace Cz
open Go Go.RowKit Go.Proofs
namespace Wr
open Fa Wg
theorem backs_f {os:List Ot}{tm:Int}{tr:List Tb.Fd}{zs:List Int}{se re ow:Int}{ss:List St}{w:Int}{H:Nat->Int}{sh:Bool}{came:List Int}(h:LnIn os tm tr zs se re ow ss w H) (hb:∀ z∈came,Big z):
  (S0 Tryz.prog).call 5 [.ag (lnK (cellsO os) (ilen os) tm (Tb.cellsF tr) (ilen tr) (zs.flatMap i1) (ilen zs) se re ow (cellsS ss) (ilen ss) w H sh),.v false 1 (came.flatMap i1) (.y (ilen came))] [] (λx _=>Sub x .tt):=by
 have hw0:=h.w.1;have hw1:w<18446744073709551616:=by have:=h.w.2;omega
 cases hgr:grB os tr zs ss with
 | true=>exact back_a qzayt (dgreat_t rfl rfl rfl rfl rfl rfl rfl h.tr h.tn hgr (qbt rfl) rfl)
 | false=>
  have hn:=in_n h hgr;have hG:=λbl K k=>dgreat_t (Fz:=zs.flatMap i1) (tm:=tm) (se:=se) (re:=re) (ow:=ow) (w:=w) (H:=H) (sh:=sh) rfl rfl rfl rfl rfl rfl rfl h.tr h.tn hgr (qkt rfl) rfl bl K k;by_cases hL:∃ L,w=wdI L/\GdL ⟨os,tm,tr,zs,se,re,ow,ss,L,H,sh⟩
  ·have hR:=λbl K k=>dright_t (t:=true) hn hw0 hw1 ⟨λ_=>hL,λ_=>rfl⟩ (qbt rfl) rfl bl K k
   obtain⟨L,hwL,hgd⟩:=hL;by_cases hbad:sh=true∨(0<ilen os∨20<ilen came∨2147483647<re+ow)
   ·exact back_c qzayt hG hR hgd.re hgd.ow hbad
   ·have hsh:sh=false:=by cases sh with
     | true=>exact absurd (.inl rfl) hbad
     | false=>rfl
    have hb2:¬(0<ilen os∨20<ilen came∨2147483647<re+ow):=λe=>hbad (.inr e);have hno:ilen os=0:=by have:=qaj os;omega
    have hos:os=[]:=by
     cases os with
     | nil=>rfl
     | cons a l=>unfold ilen at hno;rw[List.length_cons] at hno;omega
    subst hsh hos;exact back_d qzayt hG hn hwL hgd hR rfl rfl (by omega) hb (by omega)
  ·have hR:=λbl K k=>dright_t (t:=false) hn hw0 hw1 ⟨λe=>(by cases e),λe=>absurd e hL⟩ (qkt rfl) rfl bl K k
   exact back_b qzayt hG hR
end Wr
end Cz
