/- What the claims of this group lean on: WgG WgP WtE WfE WtH WkV WsZ. No condition. -/
import Derived.Test.YtfijlhdheiebcaaGreatDoorKB29
import Derived.Test.YtfijlhdheiebcaaGreatDoorKB36
import Derived.Test.YtfijlhdheiebcaaGreatDoorKB38
set_option linter.unusedSimpArgs false
set_option linter.unusedVariables false
set_option maxRecDepth 100000
set_option maxHeartbeats 4000000
namespace Cz
open Go Go.RowKit Go.Proofs
namespace Wr
open Fa Wg
theorem new_f:(S0 Tryz.prog).call 31 [] [] (λx _=>Sub x (.ag [.v false 7 [] (.l 0),.i .i64 (.l 4096),.v false 2 [] (.l 0),.v false 1 [] (.l 0),.i .i64 (.l 65535),.i .i64 (.l 65535),.i .i64 (.l 0),.v false 11 [] (.l 0),.i .u64 (.l 0),.i .i64 (.l (-1)),.i .i64 (.l (-1)),.i .i64 (.l (-1)),.i .i64 (.l (-1)),.i .i64 (.l (-1)),.i .i64 (.l (-1)),.i .i64 (.l (-1)),.i .i64 (.l (-1)),.ff])):=by
 generalize hS:S0 Tryz.prog=S;refine qaa hS I.qzasr ?_;cbv
 repeat' (first|(refine qax hS ?_;cbv)|(refine qaa hS I.qzasz ?_;cbv)|(refine qaa hS I.qzawd ?_;cbv)|(refine qag hS rfl I.qzagr (by decide +kernel) ?_;cbv)|fail)
 all_goals
  refine qja ?_
  repeat' (first|exact .nil|refine .cons ?_ ?_|exact .rfl|exact qpx (by decide) rfl rfl|fail)
 all_goals trace_state
theorem wwin_f {o:Ot}{D:List SV}{dn:Int}{Q:List SV}{qn:Int}{L:List SV}{ln:Int}{t:Bool}(hk:o.k=3) (hb:Big o.st) (ht:decide (0<=o.st/\o.st<=2147483647)=t):
  (S0 Tryz.prog).call 37 [.ag (otK o D dn Q qn L ln)] [] (λx _=>Sub x (.b t)):=by
 obtain⟨k,st,sz,co,da,ps,li⟩:=o;dsimp only at *;unfold otK;subst hk;have hb':=hb;unfold Big at hb';clear hb;dsimp only;generalize hS:S0 Tryz.prog=S;refine qaa hS I.qlw ?_;cbv
 repeat' (first|(refine s_brc hS ?_;cbv)|(refine qaa hS I.qzaal ?_;cbv)|(refine qbd hS (c:=2147483648) rfl ?_;intro _ _;cbv)|fail)
 all_goals
  rename_i r1 e1;refine qgc ?_;subst hS ht;simp only[cr];rw[decide_eq_decide];omega
theorem wtp_win {o:Ot}(hk:o.k=3) (hb:Big o.st) (h0:0<=o.st/\o.st<=2147483647):WtP o:=λD dn Q qn Lf ln hN bl K h=>by
 have e:=wwin_f (D:=D) (dn:=dn) (Q:=Q) (qn:=qn) (L:=Lf) (ln:=ln) (t:=true) hk hb (decide_eq_true h0);exact qai (qae e λx _ hx=>⟨_,hx.trans (qbt rfl),.rfl⟩) rfl rfl h
end Wr
end Cz
namespace Cz
open Go Go.RowKit Go.Proofs
namespace Wr
theorem dtp:DtP:=⟨λ{fl id b D dn B bn} hfl h1 h2 hb hl hD hn hB hbn=>by
 rcases hfl with rfl|rfl
 ·refine qgp (args':=[Wf.FQ 0 0 (.y id) (.v false 1 D (.y dn)) (.l 0) (.l 0) (.l 0) Wf.n2]) ?_ (Wf.put_00 hb hD hn (by omega) ⟨h1,h2⟩ hB hbn)
  unfold dtF Wf.FQ Wf.n2
  repeat' (first|exact .nil|refine .cons ?_ ?_|refine qja ?_|exact .rfl|exact qau rfl|exact qao rfl|exact qpx (by decide) rfl rfl|fail)
 ·refine qgp (args':=[Wf.FQ 0 1 (.y id) (.v false 1 D (.y dn)) (.l 0) (.l 0) (.l 0) Wf.n2]) ?_ (Wf.put_01 hb hD hn (by omega) ⟨h1,h2⟩ hB hbn)
  unfold dtF Wf.FQ Wf.n2
  repeat' (first|exact .nil|refine .cons ?_ ?_|refine qja ?_|exact .rfl|exact qau rfl|exact qao rfl|exact qpx (by decide) rfl rfl|fail)
 ⟩
end Wr
end Cz
namespace Cz
open Go Go.RowKit Go.Proofs
namespace Wr
theorem back_id {s s':St}{k:Int}(h:backS s=(s',k)):s'.o=s.o:=by
 unfold backS at h
 repeat' (split at h)
 all_goals (cases h;rfl)
section
variable {off no:Int}{Fr:List SV}{nr:Int}{Fz:List SV}{nz:Int}{Fs Fs':List SV}{ns w:Int}{st1:Int}{Fo:List SV}
theorem wback_f {X X':Ln}{id n:Int}(hok:∀ s∈X.ss,StOk s) (hF:cellsS X.ss=Fs) (hn:ns=ilen X.ss) (h8:ns<=1000) (hre:0<=X.re/\X.re<=2147483647) (how:0<=X.ow/\X.ow<=2147483647) (hb:backL X id=(X',n)) (hF':cellsS X'.ss=Fs') (hfo:plains Fo=true):
  (S0 Tryz.prog).call 102 [.p 0 0,.i .i64 (.y id)] [.c (bxK 1 2 off no X.tm Fr nr Fz nz X.se X.re X.ow ns w X.H X.sh),.r false false (.y st1) 7 Fo,.r false false (.y 0) 11 Fs]
   (PostB 3 (λ_ g=>[.c (bxK (g 1) (g 2) off no X.tm Fr nr Fz nz X.se X'.re X'.ow ns w X.H X.sh),.r false false (.y st1) 7 Fo,.r false false (.y 0) 11 Fs']) (λ_=>.i .i64 (.y n))):=by
 have hfs:plains Fs=true:=hF▸qak _;have hfs':plains Fs'=true:=hF'▸qak _;unfold backL at hb;obtain⟨os,tm,tr,zs,se,re,ow,ss,L,H,sh⟩:=X;dsimp only at *;unfold bxK;by_cases h0:id=0
 ·rw[if_pos h0] at hb
  cases hb;dsimp only at hF' ⊢;obtain rfl:Fs=Fs':=hF.symm.trans hF';generalize hS:S0 Tryz.prog=S;refine qaa hS I.qod ?_;cbv
  repeat' (first|(refine qac hS ?_ ?_<;>intro h<;>(try cbv)<;>try exact s_ab h)|(refine s_ad hS ?_;intro _ _;try cbv)|(refine s_mn hS ?_;intro _ _;cbv)|fail)
  all_goals first
   | (exfalso;omega)
   | (refine⟨[some 0,some 1,some 2],λ_=>0,first3,λg=>⟨⟨⟨_,rfl,rfl,.c ?_⟩,rfl,⟨_,rfl,rfl,.r .rfl hfo rfl⟩,rfl,⟨_,rfl,rfl,.r .rfl hfs rfl⟩,rfl,trivial⟩,.sub .rfl rfl⟩⟩;repeat' (first|exact .nil|refine .cons ?_ ?_|exact .keep (i:=1) rfl rfl rfl|exact .keep (i:=2) rfl rfl rfl|exact .sub .rfl rfl|exact .sub (qau rfl) rfl|(refine .sub (qau ?_) rfl;(focus (simp only[Z.v];omega)))))
 ·rw[if_neg h0] at hb
  obtain⟨r,hr⟩:∃ r,plR ss id=r:=⟨_,rfl⟩;have hr':=hr;unfold plR at hr';cases hp:plI ss id with
  | none=>
   rw[hp] at hb hr';cases hb;dsimp only at hF' hr' ⊢;obtain rfl:Fs=Fs':=hF.symm.trans hF';generalize hS:S0 Tryz.prog=S;refine qaa hS I.qod ?_;cbv
   repeat' (first|(refine qac hS ?_ ?_<;>intro h<;>(try cbv)<;>try exact s_ab h)|(refine at_y hS (k1:=1) (k2:=2) (H:=H) r rfl rfl hfo hF hn (by omega) hr ?_;cbv)|fail)
   all_goals first
    | (exfalso;omega)
    | (refine⟨[some 0,some 1,some 2],λ_=>0,first3,λg=>⟨⟨⟨_,rfl,rfl,.c ?_⟩,rfl,⟨_,rfl,rfl,.r .rfl hfo rfl⟩,rfl,⟨_,rfl,rfl,.r .rfl hfs rfl⟩,rfl,trivial⟩,.sub (qau rfl) rfl⟩⟩;repeat' (first|exact .nil|refine .cons ?_ ?_|exact .keep (i:=1) rfl rfl rfl|exact .keep (i:=2) rfl rfl rfl|exact .sub .rfl rfl))
  | some i=>
   obtain⟨s,hs,hsi⟩:=pl_at hp;rw[hp] at hb hr';dsimp only at hb hr';rw[hs] at hb;dsimp only at hb;obtain⟨⟨s',k⟩,hbk⟩:∃ r,backS s=r:=⟨_,rfl⟩;rw[hbk] at hb;cases hb;dsimp only at hF' ⊢;have hoo:=back_id hbk;have hok':=hok s (List.mem_of_getElem? hs);obtain⟨D,hD⟩:∃ F,cellsB s.o=F:=⟨_,rfl⟩;obtain⟨dn,hdn⟩:∃ m,m=ilen s.o:=⟨_,rfl⟩;have hD':cellsB s'.o=D:=by rw[hoo];exact hD
   have hdn':dn=ilen s'.o:=by rw[hoo];exact hdn
   have hmk:=qdg s hD hdn;have hr0:0<=r:=by rw[<-hr'];simp only[Int.ofNat_eq_natCast];omega
   have hri:r.toNat=i:=by rw[<-hr'];rfl
   have hin:r<ns:=by have:=(List.getElem?_eq_some_iff.1 hs).1;unfold ilen at hn;omega
   rw[<-hri] at hs hF';clear hr';obtain⟨sid,sst,sse,sre,sow,an,en,o,ur,ic,sl⟩:=s;obtain⟨sid',sst',sse',sre',sow',an',en',o',ur',ic',sl'⟩:=s';dsimp only at *;generalize hS:S0 Tryz.prog=S;refine qaa hS I.qod ?_;cbv
   repeat' (first|(refine s_ck hS ?_;try cbv)|(refine qac hS ?_ ?_<;>intro h<;>(try cbv)<;>try exact s_ab h)|(refine at_y hS (k1:=1) (k2:=2) (H:=H) r rfl rfl hfo hF hn (by omega) hr ?_;cbv)|(refine qag hS rfl I.qzadj (by decide +kernel) ?_;cbv)|(refine qfx hS (enc:=stC) (l:=ss) hF hs rfl (λ_=>rfl) (by omega) (by omega) hmk ?_;cbv)|(refine back_w hS ⟨sid,sst,sse,sre,sow,an,en,o,ur,ic,sl⟩ (s':=⟨sid',sst',sse',sre',sow',an',en',o',ur',ic',sl'⟩) hok' hD hdn hbk hD' hdn' ?_;cbv)|(refine qzaqy hS (ss:=ss) (s':=⟨sid',sst',sse',sre',sow',an',en',o',ur',ic',sl'⟩) hF hr0 (by omega) hD' hdn' rfl ?_;intro F2 hF2;cbv)|fail)
   all_goals (try (obtain rfl:F2=Fs':=hF2.symm.trans hF'))
   all_goals first
    | (exfalso;omega)
    | (refine⟨[some 0,some 1,some 2],λ_=>0,first3,λg=>⟨⟨⟨_,rfl,rfl,.c ?_⟩,rfl,⟨_,rfl,rfl,.r .rfl hfo rfl⟩,rfl,⟨_,rfl,rfl,.r .rfl hfs' rfl⟩,rfl,trivial⟩,.sub .rfl rfl⟩⟩;repeat' (first|exact .nil|refine .cons ?_ ?_|exact .keep (i:=1) rfl rfl rfl|exact .keep (i:=2) rfl rfl rfl|exact .sub .rfl rfl))
end
end Wr
end Cz
namespace Cz
open Go Go.RowKit Go.Proofs
namespace Wf
open Fa
theorem put_8 {st w bn:Int}{B:List SV}(hs:0<=st/\st<=2147483647) (h0:1<=w) (h1:w<=2147483647) (hB:cellsB (Wr.putB ⟨8,0,st,[],0,w,0,[]⟩)=B) (hbn:bn=ilen (Wr.putB ⟨8,0,st,[],0,w,0,[]⟩)):
  (S0 Tryz.prog).call 44 [FQ 8 0 (.y st) n1 (.l 0) (.y w) (.l 0) n2] [] (Tell (.tp [.v false 1 B (.y bn),.i .i64 (.y 0)])):=by
 have hpay:Wr.payB ⟨8,0,st,[],0,w,0,[]⟩=[w/16777216%256,w/65536%256,w/256%256,w%256]:=by
  show Wr.beB 4 w=_;have e1:w/256/256=w/65536:=by omega
  have e2:w/65536/256=w/16777216:=by omega
  simp only[Wr.beB,List.nil_append,List.cons_append,e1,e2]
 obtain⟨b0,e0⟩:∃ b,b=w%256:=⟨_,rfl⟩;obtain⟨b1,e1⟩:∃ b,b=w/256%256:=⟨_,rfl⟩;obtain⟨b2,e2⟩:∃ b,b=w/65536%256:=⟨_,rfl⟩;obtain⟨b3,e3⟩:∃ b,b=w/16777216:=⟨_,rfl⟩;have e3':w/16777216%256=b3:=by omega
 rw[e3',<-e0,<-e1,<-e2] at hpay;generalize hS:S0 Tryz.prog=S;refine qaa hS I.qre ?_;cbv
 repeat' (first|(refine qac hS ?_ ?_<;>intro h<;>(try cbv)<;>try exact s_ab h)|(refine qdd hS ?_;try cbv)|(refine qax hS ?_;cbv)|(refine qfw hS rfl rfl ?_;cbv)|(refine qbg hS (ok_8 hs h0 h1) .rfl rfl rfl ?_;cbv)|(refine known_8u hS ?_;cbv)|(refine qaq hS (puts_8 h0 h1 e0 e1 e2 e3) .rfl rfl ?_;cbv)|(refine qaa hS I.quy ?_;cbv)|(refine qaa hS I.qcw ?_;cbv)|(refine qaa hS I.qog ?_;cbv)|(refine qbq hS I.qjy ?_;cbv)|(refine qag hS rfl I.qje (by decide +kernel) ?_;cbv)|(refine qag hS rfl I.qls (by decide +kernel) ?_;cbv)|(refine qbd hS (c:=2147483648) rfl ?_;intro _ _;cbv)|(refine qbd hS (c:=16777216) rfl ?_;intro _ _;cbv)|(refine qbd hS (c:=65536) rfl ?_;intro _ _;cbv)|(refine qbd hS (c:=256) rfl ?_;intro _ _;cbv)|(refine qbd hS (c:=1) rfl ?_;intro _ _;cbv)|(refine s_c8 hS ?_;intro _ _;cbv)|fail)
 all_goals first
  | (exfalso;omega)
  | skip
 all_goals
  intro g;refine .tp (.cons (fz_put (f:=⟨8,0,st,[],0,w,0,[]⟩) (H:=[_,_,_,_,_,_,_,_,_]) (G:=[.i .u8 (.y b3),.i .u8 (.y b2),.i .u8 (.y b1),.i .u8 (.y b0)]) rfl rfl rfl (by rw[hpay];rfl) hB hbn (by rw[hpay];rfl) ?_) (.cons (.sub (qau rfl) rfl) .nil));rw[hpay,show (ilen [b3,b2,b1,b0]:Int)=4 from rfl];unfold hdV;dsimp only
  repeat' (first|exact .nil|refine .cons ?_ ?_|exact qau rfl|(refine qau ?_;(focus (simp only[Z.v];omega)))|fail)
end Wf
end Cz
namespace Cz
open Go Go.RowKit Go.Proofs
namespace Wr
theorem wback_u {S:Sy}{l:List Blk}{K:SV->List Blk->Prop}(hS:S0 Tryz.prog=S) (p k1 k2:Nat) {cs:List SV}{lit1 lit2:Bool}{z1 z2:Z}{X X':Ln}{id n off no:Int}{Fr:List SV}{nr:Int}{Fz:List SV}{nz:Int}{Fs Fs':List SV}{ns w:Int}{Fo:List SV}
  (hp:lget l p=.c cs) (h1:lget l k1=.r false lit1 z1 7 Fo) (h2:lget l k2=.r false lit2 z2 11 Fs) (hz:z2.v=0) (hne:nodupN [p,k1,k2]=true) (hc:SubL cs (bxK k1 k2 off no X.tm Fr nr Fz nz X.se X.re X.ow ns w X.H X.sh))
  (hok:∀ s∈X.ss,StOk s) (hF:cellsS X.ss=Fs) (hn:ns=ilen X.ss) (h8:ns<=1000) (hre:0<=X.re/\X.re<=2147483647) (how:0<=X.ow/\X.ow<=2147483647) (hb:backL X id=(X',n)) (hF':cellsS X'.ss=Fs') (hfo:plains Fo=true)
  (hK:K (.i .i64 (.y n)) (lays (fOf [p,k1,k2]) 3 0 [.c (bxK k1 k2 off no X.tm Fr nr Fz nz X.se X'.re X'.ow ns w X.H X.sh),.r false false (.y z1.v) 7 Fo,.r false false (.y 0) 11 Fs'] l)):
  S.call 102 [.p p 0,.i .i64 (.y id)] l K:=by
 refine quk hS [p,k1,k2] (wback_f (off:=off) (no:=no) (Fr:=Fr) (nr:=nr) (Fz:=Fz) (nz:=nz) (w:=w) (st1:=z1.v) hok hF hn h8 hre how hb hF' hfo) rfl hne (.cons .rfl (.cons .rfl .nil)) ⟨?_,?_,?_,trivial⟩ rfl λsts=>hK
 ·show BUp 3 (fOf [p,k1,k2]) (lget l p) _
  rw[hp];exact .c hc rfl
 ·show BUp 3 (fOf [p,k1,k2]) (lget l k1) _
  rw[h1];exact .r .rfl hfo rfl
 ·show BUp 3 (fOf [p,k1,k2]) (lget l k2) _
  rw[h2];exact .r .rfl (hF▸qak _) hz
theorem win_sub {st n:Int}:SubL [.ag [.i .u8 (.l 8),.i .u8 (.l 0),.i .i64 (.y st),.re (.slice none 0 0),.i .i64 (.l 0),.i .i64 (.l 0),.i .i64 (.y n),.i .u32 (.l 0),.re (.slice none 0 0),.ff,.ff,.i .i64 (.l 0),.i .u8 (.l 0)]] [Wf.FQ 8 0 (.y st) Wf.n1 (.l 0) (.y n) (.l 0) Wf.n2]:=by
 refine .cons (qja ?_) .nil
 repeat' (first|exact .nil|refine .cons ?_ ?_|exact .rfl|exact qpx (by decide) rfl rfl)
theorem goes_w {o:Ot}(hk:o.k=3) (hw:waitB o=true) (hbo:Big o.st):GoP o:=by
 have hst:0<=o.st/\o.st<=2147483647:=by
  unfold waitB at hw;rw[hk] at hw;simpa using hw
 refine⟨λ{X X' fs D dn Q qn Lf ln off no Fr nr Fz nz Fs Fs' ns w st1 Fo Fr' nr' Fz' nz' B bn} a1 a2 a3 a4 a5 a6 a7 a8 a9 b1 b2 b3 b4 b5 b6 b7 b8=>?_⟩;unfold goesL at a3;rw[if_neg (by rw[hk];decide),if_neg (by rw[hk];decide),if_neg (by rw[hk];decide),if_pos hk] at a3;obtain⟨⟨Y,n⟩,hb⟩:∃ r,backL X o.st=r:=⟨_,rfl⟩;rw[hb] at a3;dsimp only at a3;obtain⟨g1,g2,g3,g4,g5⟩:=back_gd (id:=o.st) a2;rw[hb] at g1 g2 g3 g4 g5;dsimp only at g1 g2 g3 g4 g5;simp only[Prod.mk.injEq] at a3;obtain⟨rfl,hfs⟩:=a3;have hkeep:Y.tm=X.tm/\Y.tr=X.tr/\Y.zs=X.zs:=by
  unfold backL at hb;split at hb
  ·cases hb;exact⟨rfl,rfl,rfl⟩
  ·cases hp:plI X.ss o.st with
   | none=>rw[hp] at hb;cases hb;exact⟨rfl,rfl,rfl⟩
   | some i=>
    rw[hp] at hb;dsimp only at hb;cases hs:X.ss[i]? with
    | none=>rw[hs] at hb;cases hb;exact⟨rfl,rfl,rfl⟩
    | some s=>rw[hs] at hb;cases hb;exact⟨rfl,rfl,rfl⟩
 obtain⟨t1,t2,t3⟩:=hkeep;rw[t2] at b1 b2;rw[t3] at b3 b4;obtain rfl:Fr=Fr':=a4.symm.trans b1;obtain rfl:Fz=Fz':=a6.symm.trans b3;obtain rfl:nr=nr':=a5.trans b2.symm;obtain rfl:nz=nz':=a7.trans b4.symm;rw[t1];have hok:∀ s∈X.ss,StOk s:=λs hs=>(a2.ss.ok s hs).1;have h8:ns<=8:=by rw[a9];exact a2.ss.len
 have hre:=a2.re;have how:=a2.ow;have hfs':plains Fs'=true:=b5▸qak _;clear a2 g1 g2 g3 a4 a5 a6 a7 b1 b2 b3 b4 t1 t2 t3;obtain⟨k,st,sz,co,da,ps,li⟩:=o;dsimp only at *;subst hk;refine⟨8,0,st,[],0,0,n,0,[],0,?_,?_⟩
 ·intro f r e
  rw[e] at hfs;split at hfs
  ·cases hfs
  ·cases hfs;exact⟨rfl,rfl,rfl,rfl⟩
 ·by_cases hn0:n=0
  ·rw[if_pos hn0] at hfs
   subst hfs;obtain rfl:B=[]:=b7.symm;obtain rfl:bn=0:=b8;obtain⟨os,tm,tr,zs,se,re,ow,ss,L,H,sh⟩:=X;obtain⟨osY,tmY,trY,zsY,seY,reY,owY,ssY,LY,HY,shY⟩:=Y;dsimp only at *;unfold bxK otK frQ;generalize hS:S0 Tryz.prog=S;refine qaa hS I.qyd ?_;cbv
   repeat' (first|(refine qac hS ?_ ?_<;>intro h<;>(try cbv)<;>try exact s_ab h)|(refine qag hS rfl I.qov (by decide +kernel) ?_;cbv)|(refine qag hS rfl I.qzadi (by decide +kernel) ?_;cbv)|(refine wback_u hS 0 1 2 (X:=⟨os,tm,tr,zs,se,re,ow,ss,L,H,sh⟩) (X':=⟨osY,tmY,trY,zsY,seY,reY,owY,ssY,LY,HY,shY⟩) (off:=off) (no:=no) rfl rfl rfl rfl rfl s_qA hok a8 a9 (by omega) hre how hb b5 b6 ?_;cbv)|fail)
   all_goals first
    | (exfalso;omega)
    | (refine⟨[some 0,some 1,some 2],λ_=>0,first3,λg=>⟨⟨⟨_,rfl,rfl,.c ?_⟩,rfl,⟨_,rfl,rfl,.r .rfl b6 rfl⟩,rfl,⟨_,rfl,rfl,.r .rfl hfs' rfl⟩,rfl,trivial⟩,.tp (.cons (.nil (by decide) rfl) (.cons (.ag ?_) .nil))⟩⟩<;>repeat' (first|exact .nil|exact .nil (by decide) rfl|refine .cons ?_ ?_|exact .keep (i:=1) rfl rfl rfl|exact .keep (i:=2) rfl rfl rfl|exact .sub .rfl rfl|exact .sub (qau rfl) rfl))
  ·rw[if_neg hn0] at hfs
   subst hfs;have hB:cellsB (putB ⟨8,0,st,[],0,n,0,[]⟩)=B:=by rw[<-b7];simp
   have hbn:bn=ilen (putB ⟨8,0,st,[],0,n,0,[]⟩):=by rw[b8];simp
   have hput:=Wf.put_8 (st:=st) (w:=n) (B:=B) (bn:=bn) hst (by omega) g5 hB hbn;obtain⟨os,tm,tr,zs,se,re,ow,ss,L,H,sh⟩:=X;obtain⟨osY,tmY,trY,zsY,seY,reY,owY,ssY,LY,HY,shY⟩:=Y;dsimp only at *;unfold bxK otK frQ;generalize hS:S0 Tryz.prog=S;refine qaa hS I.qyd ?_;cbv
   repeat' (first|(refine qac hS ?_ ?_<;>intro h<;>(try cbv)<;>try exact s_ab h)|(refine qag hS rfl I.qov (by decide +kernel) ?_;cbv)|(refine qag hS rfl I.qzadh (by decide +kernel) ?_;cbv)|(refine wback_u hS 0 1 2 (X:=⟨os,tm,tr,zs,se,re,ow,ss,L,H,sh⟩) (X':=⟨osY,tmY,trY,zsY,seY,reY,owY,ssY,LY,HY,shY⟩) (off:=off) (no:=no) rfl rfl rfl rfl rfl s_qA hok a8 a9 (by omega) hre how hb b5 b6 ?_;cbv)|(refine qaq hS hput win_sub rfl ?_;cbv)|fail)
   all_goals first
    | (exfalso;omega)
    | (refine⟨[some 0,some 1,some 2],λ_=>0,first3,λg=>⟨⟨⟨_,rfl,rfl,.c ?_⟩,rfl,⟨_,rfl,rfl,.r .rfl b6 rfl⟩,rfl,⟨_,rfl,rfl,.r .rfl hfs' rfl⟩,rfl,trivial⟩,.tp (.cons (.sub .rfl rfl) (.cons (.ag ?_) .nil))⟩⟩<;>repeat' (first|exact .nil|exact .nil (by decide) rfl|refine .cons ?_ ?_|exact .keep (i:=1) rfl rfl rfl|exact .keep (i:=2) rfl rfl rfl|exact .sub .rfl rfl|exact .sub (qau rfl) rfl))
end Wr
end Cz
namespace Cz
open Go Go.RowKit Go.Proofs
namespace Wr
theorem wO_n:OtN wO [] 0 [] 0 [] 0:=⟨rfl,rfl,rfl,rfl,rfl,rfl⟩
theorem wO_p:WtP wO:=wtp_win rfl ⟨by decide,by decide⟩ (by decide)
theorem put_w {X X':Ln}{t:Bool}{Fo Fo':List SV}{no no':Int}{Fr:List SV}{nr:Int}{Fz:List SV}{nz:Int}{Fs:List SV}{ns w:Int}(hn:LnN X.os X.tr X.zs X.ss Fo no Fr nr Fz nz Fs ns) (hg:GdL X) (hw:w=wdI X.L) (hwt:∀ o∈X.os,WtP o) (hc:X.sh=true∨X.os=[]∨X.os=[wO])
  (hr:putL X wO=(X',t)) (ho:cellsO X'.os=Fo') (hno:no'=ilen X'.os):
  (S0 Tryz.prog).call 19 [.ag (lnK Fo no X.tm Fr nr Fz nz X.se X.re X.ow Fs ns w X.H X.sh),.ag (otK wO [] 0 [] 0 [] 0)] [] (Tell (.tp [.ag (lnK Fo' no' X'.tm Fr nr Fz nz X'.se X'.re X'.ow Fs ns w X'.H X'.sh),.b t])):=by
 obtain⟨f1,f2,f3,f4,f5,f6⟩:=hn.lo;have hrt:∀ (bl:List Blk) (K:SV->List Blk->Prop),K .tt bl->(S0 Tryz.prog).call 36 [.ag (lnK Fo no X.tm Fr nr Fz nz X.se X.re X.ow Fs ns w X.H X.sh)] bl K:=λbl K h=>qlr rfl hn hg hw hwt h;have hon:=hn.on;have hoo:=hn.o;have hxw:=wO_p [] 0 [] 0 [] 0 wO_n;have hours:∀ (S:Sy),S0 Tryz.prog=S->∀ (bl:List Blk) (K:SV->List Blk->Prop),K (.ag (otK wO [] 0 [] 0 [] 0)) bl->S.call 52 [.ag (otK wO [] 0 [] 0 [] 0)] bl K:=λS hS bl K h=>ours_u hS wO_ok wO_n h;clear hg hwt hw;obtain⟨os,tm,tr,zs,se,re,ow,ss,L,H,sh⟩:=X;dsimp only at *;unfold lnK at *;unfold otK wO at hxw hours ⊢;dsimp only at hxw hours ⊢;by_cases hsh:sh=true
 ·subst hsh
  have hr2:putL ⟨os,tm,tr,zs,se,re,ow,ss,L,H,true⟩ wO=(⟨os,tm,tr,zs,se,re,ow,ss,L,H,true⟩,false):=by unfold putL;rw[if_pos (.inl rfl)]
  cases hr2.symm.trans hr;dsimp only at ho hno ⊢;have e1:Fo'=Fo:=by rw[<-ho,hoo]
  have e2:no'=no:=by rw[hno,hon]
  subst e1 e2;clear hr hr2 hc;generalize hS:S0 Tryz.prog=S at *;refine qaa hS I.qqs ?_;cbv
  repeat' (first|(refine qac hS ?_ ?_<;>intro h<;>(try cbv)<;>try exact s_ab h)|(refine qaa hS I.qav ?_;cbv)|(refine qkk hS (H:=H) hn ?_;intro st;cbv)|(refine hrt _ _ ?_;cbv)|(refine qaa hS I.qlx ?_;cbv)|fail)
  all_goals first
   | (intro g;refine .tp ?_;repeat' (first|exact .nil|refine .cons ?_ ?_|refine .ag ?_|exact .sub .rfl rfl|exact qdn f1 f2 rfl g|exact qbz f4 f5 rfl g|exact .sub (qay rfl) rfl|exact .sub (qao rfl) rfl))
 ·replace hsh:sh=false:=by simpa using hsh
  subst hsh;rcases hc with hc|hc|hc
  ·cases hc
  ·subst hc
   have hr2:putL ⟨[],tm,tr,zs,se,re,ow,ss,L,H,false⟩ wO=(⟨[wO],tm,tr,zs,se,re,ow,ss,L,H,false⟩,true):=rfl;cases hr2.symm.trans hr;have e1:Fo=[]:=hoo.symm;have e2:no=0:=hon;have e3:Fo'=[.i .u8 (.y 3),.i .i64 (.y 0),.i .i64 (.y 0),.i .u32 (.y 0),.v false 1 [] (.y 0),.v false 2 [] (.y 0),.v false 2 [] (.y 0)]:=ho.symm;have e4:no'=1:=hno;subst e1 e2 e3 e4;clear hr hr2 ho hno hon hoo;dsimp only;generalize hS:S0 Tryz.prog=S at *;refine qaa hS I.qqs ?_;cbv
   repeat' (first|(refine s_ck hS ?_;try cbv)|(refine qac hS ?_ ?_<;>intro h<;>(try cbv)<;>try exact s_ab h)|(refine qaa hS I.qav ?_;cbv)|(refine qkk hS (H:=H) hn ?_;intro st;cbv)|(refine hrt _ _ ?_;cbv)|(refine qaa hS I.qlx ?_;cbv)|(refine hxw _ _ ?_;cbv)|(refine qaa hS I.qgk ?_;cbv)|(refine qbq hS I.qel ?_;cbv)|(refine qax hS ?_;cbv)|(refine qag hS rfl I.qzx (by decide +kernel) ?_;cbv)|(refine hours _ rfl _ _ ?_;cbv)|(refine s_lk hS ?_;try cbv)|fail)
   have e1:S.app [] [.i .u8 (.y 3),.i .i64 (.y 0),.i .i64 (.y 0),.i .u32 (.y 0),.v false 1 [] (.y 0),.v false 2 [] (.y 0),.v false 2 [] (.y 0)]=[.i .u8 (.y 3),.i .i64 (.y 0),.i .i64 (.y 0),.i .u32 (.y 0),.v false 1 [] (.y 0),.v false 2 [] (.y 0),.v false 2 [] (.y 0)]:=by subst hS;rw[qfv];rfl
   have e2:S.pl 0 (Int.ofNat 1)=1:=by subst hS;rfl
   all_goals first
    | (intro g;refine .tp ?_;repeat' (first|exact .nil|refine .cons ?_ ?_|refine .ag ?_|exact .sub .rfl rfl|exact qdc (n:=.y 1) (z:=.y (S.pl 0 (Int.ofNat 1))) rfl e1 rfl e2 rfl g|exact qbz f4 f5 rfl g|exact .sub (qay rfl) rfl))
  ·subst hc
   have hr2:putL ⟨[wO],tm,tr,zs,se,re,ow,ss,L,H,false⟩ wO=(⟨[wO],tm,tr,zs,se,re,ow,ss,L,H,false⟩,true):=rfl;cases hr2.symm.trans hr;have e1:Fo=[.i .u8 (.y 3),.i .i64 (.y 0),.i .i64 (.y 0),.i .u32 (.y 0),.v false 1 [] (.y 0),.v false 2 [] (.y 0),.v false 2 [] (.y 0)]:=hoo.symm;have e2:no=1:=hon;have e3:Fo'=[.i .u8 (.y 3),.i .i64 (.y 0),.i .i64 (.y 0),.i .u32 (.y 0),.v false 1 [] (.y 0),.v false 2 [] (.y 0),.v false 2 [] (.y 0)]:=ho.symm;have e4:no'=1:=hno;subst e1 e2 e3 e4;clear hr hr2 ho hno hon hoo;dsimp only;generalize hS:S0 Tryz.prog=S at *;refine qaa hS I.qqs ?_;cbv
   repeat' (first|(refine s_ck hS ?_;try cbv)|(refine qac hS ?_ ?_<;>intro h<;>(try cbv)<;>try exact s_ab h)|(refine qaa hS I.qav ?_;cbv)|(refine qkk hS (H:=H) hn ?_;intro st;cbv)|(refine hrt _ _ ?_;cbv)|(refine qaa hS I.qlx ?_;cbv)|(refine hxw _ _ ?_;cbv)|(refine qaa hS I.qgk ?_;cbv)|(refine qbq hS I.qel ?_;cbv)|(refine qax hS ?_;cbv)|(refine qal hS (enc:=otC) (l:=[wO]) (i:=0) rfl rfl (λ_=>rfl) (by decide) (by decide) (qzago wO wO_n) ?_;cbv)|(refine qfw hS rfl rfl ?_;cbv)|(refine qag hS rfl I.qzy (by decide +kernel) ?_;cbv)|(refine s_lk hS ?_;try cbv)|fail)
   all_goals first
    | (intro g;refine .tp ?_;repeat' (first|exact .nil|refine .cons ?_ ?_|refine .ag ?_|exact .sub .rfl rfl|exact qdn f1 f2 rfl g|exact qbz f4 f5 rfl g|exact .sub (qay rfl) rfl))
end Wr
end Cz
namespace Cz
open Go Go.RowKit Go.Proofs
namespace Wr
theorem ar_in {l:List Int}{s:Int}(hs:0<=s/\s<=7) (hl:∀ x∈l,0<=x/\x<=7) (hn:s∈l):arS .and .i64 (arS .shr .i64 (setI l) s) 1=1:=by
 have hlt:=qzq hl;have e1:arS .shr .i64 (setI l) s=Int.ofNat (setN l/2 ^ s.toNat):=by
  show (setI l).fdiv (2 ^ (min s.toNat IntKind.i64.bits))=_
  have:min s.toNat IntKind.i64.bits=s.toNat:=by show min s.toNat 64=_;omega
  rw[this];unfold setI;rw[show ((2:Int) ^ s.toNat)=Int.ofNat (2 ^ s.toNat) by simp,Int.fdiv_eq_ediv_of_nonneg _ (by simp only[Int.ofNat_eq_natCast];exact Int.natCast_nonneg _)];simp only[Int.ofNat_eq_natCast];exact (Int.natCast_ediv _ _).symm
 have e2:setN l/2 ^ s.toNat%2=1:=by
  have h2:(setN l).testBit s.toNat=true:=(qzaex s.toNat l).2 ⟨s,hn,rfl⟩;rw[Nat.testBit_eq_decide_div_mod_eq] at h2;exact of_decide_eq_true h2
 rw[e1];have hb:setN l/2 ^ s.toNat<2 ^ 64:=Nat.lt_of_le_of_lt (Nat.div_le_self _ _) (by omega);have e0:arS .and .i64 (Int.ofNat (setN l/2 ^ s.toNat)) 1=IntKind.i64.wrap (BitVec.ofInt 64 (Int.ofNat (setN l/2 ^ s.toNat)) &&& BitVec.ofInt 64 1).toNat:=rfl;rw[e0,BitVec.toNat_and,qcc hb]
 have:(BitVec.ofInt 64 1).toNat=1:=by decide
 rw[this,Nat.and_one_is_mod,e2];decide
theorem cellsS_one (ss:List St) (s:St):cellsS (ss++[s])=cellsS ss++stC s:=by
 unfold cellsS;rw[List.flatMap_append]
 simp
theorem slots_bd {ss:List St}(hss:GdS ss):∀ x∈slots ss,0<=x/\x<=7:=by
 intro x hx;unfold slots at hx;obtain⟨s,hs,rfl⟩:=List.mem_map.1 hx
 have:=List.mem_filter.1 hs
 exact qen hss this.1 this.2
theorem last_at {ss:List St}{n:Int}(hn:n=ilen ss) (h0:0<n):∃ s,ss.getLast?=some s/\ss[(n-1).toNat]?=some s:=by
 have:0<ss.length:=by unfold ilen at hn;omega
 refine⟨ss[ss.length-1],?_,?_⟩
 ·rw[List.getLast?_eq_getElem?,List.getElem?_eq_getElem (by omega)]
 ·rw[show (n-1).toNat=ss.length-1 by unfold ilen at hn;omega,List.getElem?_eq_getElem (by omega)]
theorem lopen_f {X X':Ln}{s:St}{t:Bool}{Fo:List SV}{no:Int}{Fr:List SV}{nr:Int}{Fz:List SV}{nz:Int}{Fs Fs':List SV}{ns ns' w w':Int}{D:List SV}{dn:Int}(hn:LnN X.os X.tr X.zs X.ss Fo no Fr nr Fz nz Fs ns) (hg:GdL X) (hw:w=wdI X.L) (hwt:∀ o∈X.os,WtP o) (ok:StOk s) (hD:cellsB s.o=D) (hdn:dn=ilen s.o) (hr:openL X s=(X',t)) (hw':w'=wdI X'.L) (hFs':cellsS X'.ss=Fs') (hns':ns'=ilen X'.ss):
  (S0 Tryz.prog).call 30 [.ag (lnK Fo no X.tm Fr nr Fz nz X.se X.re X.ow Fs ns w X.H X.sh),.ag (stK s D dn)] [] (Tell (.tp [.ag (lnK Fo no X'.tm Fr nr Fz nz X'.se X'.re X'.ow Fs' ns' w' X'.H X'.sh),.b t])):=by
 obtain⟨f1,f2,f3,f4,f5,f6⟩:=hn.lo;have hrt:∀ (bl:List Blk) (K:SV->List Blk->Prop),K .tt bl->(S0 Tryz.prog).call 36 [.ag (lnK Fo no X.tm Fr nr Fz nz X.se X.re X.ow Fs ns w X.H X.sh)] bl K:=λbl K h=>qlr rfl hn hg hw hwt h;have hgs:=(open_gd hg ok).ss;have hss:=hg.ss;have hR:=hg.rd.r;have hse:=hg.se;have hns:=hn.sn;have hns8:ns<=8:=by rw[hns];exact hss.len
 have hsf:=hn.s;clear hg hwt;obtain⟨os,tm,tr,zs,se,re,ow,ss,L,H,sh⟩:=X;rw[hr] at hgs;unfold openL setL at hr;dsimp only at *;have hbw:=qgi hse;have hst:=ok.st;obtain⟨sr,hsr⟩:∃ b,stB s=b:=⟨_,rfl⟩;obtain⟨sa,hsa⟩:∃ b,ansB s.st=b:=⟨_,rfl⟩;rw[hsr,hsa] at hr;have hbs:=ok;have hlast:0<ns->∃ x,ss.getLast?=some x/\ss[(ns-1).toNat]?=some x:=last_at hns;by_cases hc:8<=ilen ss∨sr=false∨sa=false∨(∃ x∈ss.getLast?,s.id<=x.id)
 ·rw[if_pos hc] at hr
  cases hr;dsimp only at *;have e1:Fs'=Fs:=by rw[<-hFs',hsf]
  have e2:ns=ns':=by rw[hns',hns]
  have e3:w'=w:=by rw[hw',hw]
  subst e1 e2 e3;unfold lnK at *;rw[<-hns] at hc;have hc':8<=ns∨sr=false∨sa=false∨0<ns/\∃ x:St,ss[(ns-1).toNat]?=some x/\s.id<=x.id:=by
   rcases hc with h|h|h|⟨x,h1,h2⟩
   ·exact .inl h
   ·exact .inr (.inl h)
   ·exact .inr (.inr (.inl h))
   ·have h0:0<ns:=by
     rcases ss with _|⟨y,ss⟩
     ·cases h1
     ·rw[hns];unfold ilen;rw[List.length_cons];omega
    obtain⟨y,g1,g2⟩:=hlast h0;rw[g1] at h1;cases h1;exact .inr (.inr (.inr ⟨h0,_,g2,h2⟩))
  obtain⟨x,hx⟩:∃ x:St,0<ns->ss[(ns-1).toNat]?=some x:=by
   by_cases h0:0<ns
   ·obtain⟨y,_,g2⟩:=hlast h0;exact⟨y,λ_=>g2⟩
   ·exact⟨s,λh=>absurd h h0⟩
  have hc2:8<=ns∨sr=false∨sa=false∨0<ns/\s.id<=x.id:=by
   rcases hc' with h|h|h|⟨h0,y,g1,g2⟩
   ·exact .inl h
   ·exact .inr (.inl h)
   ·exact .inr (.inr (.inl h))
   ·have:=hx h0
    rw[g1] at this;cases this;exact .inr (.inr (.inr ⟨h0,g2⟩))
  clear hc hc' hlast;obtain⟨id,sst,sse,sre,sow,an,en,o,ur,ic,sl⟩:=s;obtain⟨xid,xst,xse,xre,xow,xan,xen,xo,xur,xic,xsl⟩:=x;dsimp only at *;generalize hS:S0 Tryz.prog=S at *;by_cases h8:8<=ns
  ·refine qaa hS I.qdu ?_
   cbv
   repeat' (first|(refine qac hS ?_ ?_<;>intro h<;>(try cbv)<;>try exact s_ab h)|(refine qaa hS I.qav ?_;cbv)|(refine qkk hS (H:=H) hn ?_;intro st0;cbv)|(refine hrt _ _ ?_;cbv)|(refine qaa hS I.qcp ?_;cbv)|(refine qag hS rfl I.qbp (by decide +kernel) ?_;cbv)|fail)
   all_goals first
    | (exfalso;omega)
    | (intro g;refine .tp ?_;repeat' (first|exact .nil|refine .cons ?_ ?_|refine .ag ?_|exact .sub .rfl rfl|exact qdn f1 f2 rfl g|exact qbz f4 f5 rfl g|exact .sub (qay rfl) rfl|exact .sub (qao rfl) rfl))
  ·cases sr with
   | false=>
    refine qaa hS I.qdu ?_;cbv
    repeat' (first|(refine qac hS ?_ ?_<;>intro h<;>(try cbv)<;>try exact s_ab h)|(refine qaa hS I.qav ?_;cbv)|(refine qkk hS (H:=H) hn ?_;intro st0;cbv)|(refine hrt _ _ ?_;cbv)|(refine qaa hS I.qcp ?_;cbv)|(refine qag hS rfl I.qbp (by decide +kernel) ?_;cbv)|(refine qci hS ⟨id,sst,sse,sre,sow,an,en,o,ur,ic,sl⟩ false ok hD hdn hsr ?_;cbv)|fail)
    all_goals first
     | (exfalso;omega)
     | (intro g;refine .tp ?_;repeat' (first|exact .nil|refine .cons ?_ ?_|refine .ag ?_|exact .sub .rfl rfl|exact qdn f1 f2 rfl g|exact qbz f4 f5 rfl g|exact .sub (qay rfl) rfl|exact .sub (qao rfl) rfl))
   | true=>
    cases sa with
    | false=>
     refine qaa hS I.qdu ?_;cbv
     repeat' (first|(refine qac hS ?_ ?_<;>intro h<;>(try cbv)<;>try exact s_ab h)|(refine qaa hS I.qav ?_;cbv)|(refine qkk hS (H:=H) hn ?_;intro st0;cbv)|(refine hrt _ _ ?_;cbv)|(refine qaa hS I.qcp ?_;cbv)|(refine qag hS rfl I.qbp (by decide +kernel) ?_;cbv)|(refine qci hS ⟨id,sst,sse,sre,sow,an,en,o,ur,ic,sl⟩ true ok hD hdn hsr ?_;cbv)|(refine qcd hS false hst hsa ?_;cbv)|fail)
     all_goals first
      | (exfalso;omega)
      | (intro g;refine .tp ?_;repeat' (first|exact .nil|refine .cons ?_ ?_|refine .ag ?_|exact .sub .rfl rfl|exact qdn f1 f2 rfl g|exact qbz f4 f5 rfl g|exact .sub (qay rfl) rfl|exact .sub (qao rfl) rfl))
    | true=>
     have h0:0<ns/\id<=xid:=by
      rcases hc2 with h|h|h|h
      ·omega
      ·cases h
      ·cases h
      ·exact h
     have hx1:=hx h0.1;refine qaa hS I.qdu ?_;cbv
     repeat' (first|(refine s_ck hS ?_;try cbv)|(refine qac hS ?_ ?_<;>intro h<;>(try cbv)<;>try exact s_ab h)|(refine s_sb hS ?_;intro _ _;try cbv)|(refine qaa hS I.qav ?_;cbv)|(refine qkk hS (H:=H) hn ?_;intro st0;cbv)|(refine hrt _ _ ?_;cbv)|(refine qaa hS I.qcp ?_;cbv)|(refine qag hS rfl I.qbp (by decide +kernel) ?_;cbv)|(refine qci hS ⟨id,sst,sse,sre,sow,an,en,o,ur,ic,sl⟩ true ok hD hdn hsr ?_;cbv)|(refine qcd hS true hst hsa ?_;cbv)|(refine qfx hS (enc:=stC) (l:=ss) hsf hx1 (by assumption) (λ_=>rfl) (by omega) (by omega) rfl ?_;cbv)|fail)
     all_goals first
      | (exfalso;omega)
      | (intro g;refine .tp ?_;repeat' (first|exact .nil|refine .cons ?_ ?_|refine .ag ?_|exact .sub .rfl rfl|exact qdn f1 f2 rfl g|exact qbz f4 f5 rfl g|exact .sub (qay rfl) rfl|exact .sub (qao rfl) rfl))
 ·rw[if_neg hc] at hr
  cases hr;simp only[not_or] at hc;obtain⟨c1,c2,c3,c4⟩:=hc;have c2':sr=true:=by simpa using c2
  have c3':sa=true:=by simpa using c3
  subst c2' c3';rw[<-hns] at c1;have c4':0<ns->∃ x:St,ss[(ns-1).toNat]?=some x/\x.id<s.id:=λh=>by
   obtain⟨x,h1,h2⟩:=hlast h;refine⟨x,h2,?_⟩;exact Int.not_le.1 λh3=>c4 ⟨x,h1,h3⟩
  obtain⟨fr1,fr2,fr3⟩:=free_8 (ss:=ss) (by omega);have hsb:=slots_bd hss;obtain⟨us,hus⟩:∃ us,slots ss=us:=⟨_,rfl⟩;rw[hus] at fr1 fr2 fr3 hsb hgs hw' hFs' hns' ⊢;obtain⟨fr,hfr⟩:∃ fr,freeI us 8 0=fr:=⟨_,rfl⟩;rw[hfr] at fr1 fr2 fr3 hgs hw' hFs' hns' ⊢;obtain⟨x,hx⟩:∃ x:St,0<ns->ss[(ns-1).toNat]?=some x/\x.id<s.id:=by
   by_cases h0:0<ns
   ·obtain⟨y,g2⟩:=c4' h0;exact⟨y,λ_=>g2⟩
   ·exact⟨s,λh=>absurd h h0⟩
  clear c4 c4' hlast;obtain⟨id,sst,sse,sre,sow,an,en,o,ur,ic,sl⟩:=s;obtain⟨xid,xst,xse,xre,xow,xan,xen,xo,xur,xic,xsl⟩:=x;dsimp only at *;obtain⟨ss',hss'⟩:∃ r,ss++[⟨id,sst,sse,sre,sow,an,en,o,ur,ic,fr⟩]=r:=⟨_,rfl⟩;rw[hss'] at hFs' hw' hgs hns' ⊢;obtain⟨⟨L1,H1⟩,hset⟩:∃ r,settleR (L,H) (want ss' se)=r:=⟨_,rfl⟩;rw[hset] at hw' ⊢;dsimp only at hw' ⊢;have hFa:Fs++[.i .i64 (.y id),.i .u8 (.y sst),.i .i64 (.y sse),.i .i64 (.y sre),.i .i64 (.y sow),.b an,.b en,.v false 1 D (.y dn),.i .u8 (.y ur),.b ic,.i .i64 (.y fr)]=Fs':=by
   rw[<-hFs',<-hss',cellsS_one,hsf];subst hD hdn;rfl
  have hnn:ns'=ns+1:=by rw[hns',<-hss',hns];unfold ilen;rw[List.length_append];simp
  have q1:plains Fs'=true:=hFs'▸qak _;have q2:ilen Fs'=ns'*11:=by rw[<-hFs',hns'];have:=qcq ss';unfold ilen;omega
  unfold lnK at *;generalize hS:S0 Tryz.prog=S at *;have e1:S.app Fs [.i .i64 (.y id),.i .u8 (.y sst),.i .i64 (.y sse),.i .i64 (.y sre),.i .i64 (.y sow),.b an,.b en,.v false 1 D (.y dn),.i .u8 (.y ur),.b ic,.i .i64 (.y fr)]=Fs':=by subst hS;rw[qfv];exact hFa
  have e2:S.pl ns (Int.ofNat 1)=ns':=by subst hS;rw[hnn];rfl
  by_cases h0:0<ns
  ·obtain⟨hx1,hx2⟩:=hx h0
   refine qaa hS I.qdu ?_;cbv
   repeat' (first|(refine s_ck hS ?_;try cbv)|(refine qac hS ?_ ?_<;>intro h<;>(try cbv)<;>try exact s_ab h)|(refine s_sb hS ?_;intro _ _;try cbv)|(refine qaa hS I.qav ?_;cbv)|(refine qkk hS (H:=H) hn ?_;intro st0;cbv)|(refine hrt _ _ ?_;cbv)|(refine qaa hS I.qcp ?_;cbv)|(refine qag hS rfl I.qbp (by decide +kernel) ?_;cbv)|(refine qci hS ⟨id,sst,sse,sre,sow,an,en,o,ur,ic,sl⟩ true ok hD hdn hsr ?_;cbv)|(refine qcd hS true hst hsa ?_;cbv)|(refine qfx hS (enc:=stC) (l:=ss) hsf hx1 (by assumption) (λ_=>rfl) (by omega) (by omega) rfl ?_;cbv)|fail)
   all_goals (try (exfalso;omega))
   refine qad hS 8 I.qke (λx:Int×Int=>0<=x.1/\x.1<=ns/\∃ A:List Int,x.2=setI A/\(∀ z∈A,0<=z/\z<=7)/\∀ z,z∈A↔z∈slots (ss.take x.1.toNat)) (λx=>[(49,.i .i64 (.y x.1)),(5,.i .i64 (.y x.2))]) (λ_=>[]) (λx=>(ns-x.1).toNat) (0,0) rfl ⟨⟨Int.le_refl _,f6,[],rfl,λz h=>(by cases h),λz=>by simp [slots]⟩,rfl,?_,?_,by cbv⟩ ?_
   ·cbv;exact s_qA
   ·cbv;exact s_qA
   intro y;obtain⟨y,sv⟩:=y;intro hy0;dsimp only at hy0;cbv;obtain⟨k0,k1,A,a1,a2,a3⟩:=hy0;refine qac hS ?_ ?_<;>intro h2<;>cbv
   ·obtain⟨p,hy⟩:=qbi (l:=ss) (i:=y) (by omega) k0
    obtain⟨E,hE⟩:∃ F,cellsB p.o=F:=⟨_,rfl⟩;obtain⟨en2,hen⟩:∃ m,m=ilen p.o:=⟨_,rfl⟩;have hm:=List.mem_of_getElem? hy;obtain⟨pok,p1,p2,p3⟩:=hss.ok p hm;have hmk:=qdg p hE hen;cases ha:ansB p.st with
    | true=>
     have hsl:=qen hss hm ha;obtain⟨v3,hv3⟩:∃ v,arS .shl .i64 1 p.sl=v:=⟨_,rfl⟩;obtain⟨v4,hv4⟩:∃ v,arS .or .i64 sv v3=v:=⟨_,rfl⟩;have hA':∀ r,r=y+1->∃ A:List Int,v4=setI A/\(∀ z∈A,0<=z/\z<=7)/\∀ z,z∈A↔z∈slots (ss.take r.toNat):=λr hr=>by
      refine⟨p.sl::A,by rw[<-hv4,<-hv3,a1];exact ar_or hsl a2,λz hz=>?_,λz=>?_⟩
      ·rcases List.mem_cons.1 hz with rfl|hz
       ·exact hsl
       ·exact a2 z hz
      ·rw[hr,qiy k0 hy,List.mem_cons,a3 z]
       constructor
       ·rintro (rfl|h)
        ·exact .inr ⟨ha,rfl⟩
        ·exact .inl h
       ·rintro (h|⟨_,h⟩)
        ·exact .inr h
        ·exact .inl h
     obtain⟨pid,pst,pse,pre,pow,pan,pen,po,pur,pic,psl⟩:=p;dsimp only at hE hen hsl hv3 hv4 hA'
     repeat' (first|(refine s_ck hS ?_;try cbv)|(refine qac hS ?_ ?_<;>intro h<;>(try cbv)<;>try exact s_ab h)|(refine s_ad hS ?_;intro _ _;try cbv)|(refine qal hS (enc:=stC) (l:=ss) hsf hy (λ_=>rfl) k0 (by omega) hmk ?_;cbv)|(refine qcg hS _ hv3 ?_;cbv)|(refine qcg hS _ hv4 ?_;cbv)|fail)
     all_goals first
      | (exfalso;omega)
      | (rename_i r e;exact⟨(r,v4),by dsimp only;omega,⟨by dsimp only;omega,by dsimp only;omega,hA' r (by omega)⟩,rfl,by cbv;exact s_qA,by cbv;exact s_qA,by cbv⟩)
    | false=>
     have hsl:p.sl=-1:=by unfold slotB at p3;rw[if_neg (by rw[ha];decide)] at p3;exact of_decide_eq_true p3
     have hA':∀ r,r=y+1->∃ A:List Int,sv=setI A/\(∀ z∈A,0<=z/\z<=7)/\∀ z,z∈A↔z∈slots (ss.take r.toNat):=λr hr=>by
      refine⟨A,a1,a2,λz=>?_⟩;rw[hr,qiy k0 hy,a3 z];constructor
      ·exact .inl
      ·rintro (h|⟨h,_⟩)
       ·exact h
       ·rw[ha] at h;cases h
     obtain⟨pid,pst,pse,pre,pow,pan,pen,po,pur,pic,psl⟩:=p;dsimp only at hE hen hsl hA'
     repeat' (first|(refine s_ck hS ?_;try cbv)|(refine qac hS ?_ ?_<;>intro h<;>(try cbv)<;>try exact s_ab h)|(refine s_ad hS ?_;intro _ _;try cbv)|(refine qal hS (enc:=stC) (l:=ss) hsf hy (λ_=>rfl) k0 (by omega) hmk ?_;cbv)|fail)
     all_goals first
      | (exfalso;omega)
      | (rename_i r e;exact⟨(r,sv),by dsimp only;omega,⟨by dsimp only;omega,by dsimp only;omega,hA' r (by omega)⟩,rfl,by cbv;exact s_qA,by cbv;exact s_qA,by cbv⟩)
   ·have hyn:ss.take y.toNat=ss:=qcs (by omega)
    rw[hyn,hus] at a3;clear hyn h2 k0 k1
    repeat' (first|(refine qeq hS ⟨id,sst,sse,sre,sow,an,en,o,ur,ic,sl⟩ ok hD hdn ?_;cbv)|fail)
    refine qad hS 8 I.qkf (λk:Int=>0<=k/\k<=7/\freeI us (8-k).toNat k=fr) (λ_=>[]) (λk=>[(1,.c [.i .i64 (.y id),.i .u8 (.y sst),.i .i64 (.y sse),.i .i64 (.y sre),.i .i64 (.y sow),.b an,.b en,.v false 1 D (.y dn),.i .u8 (.y ur),.b ic,.i .i64 (.y k)])]) (λk=>(8-k).toNat) 0 rfl ⟨⟨Int.le_refl _,show (0:Int)<=7 by decide,hfr⟩,rfl,?_,?_,by cbv⟩ ?_
    ·cbv;exact s_qA
    ·cbv;exact s_qA
    intro k hk;cbv;obtain⟨k0,k1,k2⟩:=hk;obtain⟨v1,hv1⟩:∃ v,arS .shr .i64 sv k=v:=⟨_,rfl⟩;have hfu:freeI us (8-k).toNat k=if k∈us then freeI us (8-(k+1)).toNat (k+1) else k:=by
     rw[show (8-k).toNat=(8-(k+1)).toNat+1 by omega,freeI]
    by_cases hku:k∈us
    ·have hv2:arS .and .i64 v1 1=1:=by rw[<-hv1,a1];exact ar_in ⟨k0,k1⟩ a2 ((a3 k).2 hku)
     rw[if_pos hku,k2] at hfu;have hk7:k≠7:=by
      intro e;subst e;rw[show (8-(7+1):Int).toNat=0 by decide,freeI] at hfu;omega
     repeat' (first|(refine s_ck hS ?_;try cbv)|(refine qac hS ?_ ?_<;>intro h<;>(try cbv)<;>try exact s_ab h)|(refine s_ad hS ?_;intro _ _;try cbv)|(refine qcg hS _ hv1 ?_;cbv)|(refine qcg hS _ hv2 ?_;cbv)|fail)
     all_goals first
      | (exfalso;omega)
      | (rename_i r e;exact⟨r,by omega,⟨by omega,by omega,by rw[e];exact hfu.symm⟩,rfl,by cbv;exact s_qA,by cbv;exact s_qA,by cbv⟩)
    ·have hv2:arS .and .i64 v1 1=0:=by rw[<-hv1,a1];exact qzawq ⟨k0,k1⟩ a2 λh=>hku ((a3 k).1 h)
     rw[if_neg hku,k2] at hfu;subst hfu
     repeat' (first|(refine s_ck hS ?_;try cbv)|(refine qac hS ?_ ?_<;>intro h<;>(try cbv)<;>try exact s_ab h)|(refine qcg hS _ hv1 ?_;cbv)|(refine qcg hS _ hv2 ?_;cbv)|(refine qag hS rfl I.qkx (by decide +kernel) ?_;cbv)|fail)
     all_goals (try (exfalso;omega))
     all_goals
      repeat' (first|(refine qio hS 7 5 6 (off:=0) (H:=H) (H':=H1) (ss:=ss') (sx:=ss') (Fs:=S.app Fs [.i .i64 (.y id),.i .u8 (.y sst),.i .i64 (.y sse),.i .i64 (.y sre),.i .i64 (.y sow),.b an,.b en,.v false 1 D (.y dn),.i .u8 (.y ur),.b ic,.i .i64 (.y fr)]) (ns:=S.pl ns (Int.ofNat 1)) rfl rfl rfl rfl s_qA hgs (hFs'.trans e1.symm) ⟨[],by simp⟩ (e2.trans hns') hbw hR hw hset hw' f1 ?_;cbv)|fail)
     all_goals first
      | (intro g;refine .tp ?_;repeat' (first|exact .nil|refine .cons ?_ ?_|refine .ag ?_|exact .sub .rfl rfl|exact qdn f1 f2 rfl g|exact qqb (n:=.y no) rfl (qzacj f2) f1 rfl g|exact qdc (n:=.y ns') (z:=.y (S.pl ns (Int.ofNat 1))) rfl e1 q1 e2 q2 g|exact .sub (qay rfl) rfl))
  ·refine qaa hS I.qdu ?_
   cbv
   repeat' (first|(refine qac hS ?_ ?_<;>intro h<;>(try cbv)<;>try exact s_ab h)|(refine qaa hS I.qav ?_;cbv)|(refine qkk hS (H:=H) hn ?_;intro st0;cbv)|(refine hrt _ _ ?_;cbv)|(refine qaa hS I.qcp ?_;cbv)|(refine qag hS rfl I.qbp (by decide +kernel) ?_;cbv)|(refine qci hS ⟨id,sst,sse,sre,sow,an,en,o,ur,ic,sl⟩ true ok hD hdn hsr ?_;cbv)|(refine qcd hS true hst hsa ?_;cbv)|fail)
   all_goals (try (exfalso;omega))
   refine qad hS 8 I.qke (λx:Int×Int=>0<=x.1/\x.1<=ns/\∃ A:List Int,x.2=setI A/\(∀ z∈A,0<=z/\z<=7)/\∀ z,z∈A↔z∈slots (ss.take x.1.toNat)) (λx=>[(49,.i .i64 (.y x.1)),(5,.i .i64 (.y x.2))]) (λ_=>[]) (λx=>(ns-x.1).toNat) (0,0) rfl ⟨⟨Int.le_refl _,f6,[],rfl,λz h=>(by cases h),λz=>by simp [slots]⟩,rfl,?_,?_,by cbv⟩ ?_
   ·cbv;exact s_qA
   ·cbv;exact s_qA
   intro y;obtain⟨y,sv⟩:=y;intro hy0;dsimp only at hy0;cbv;obtain⟨k0,k1,A,a1,a2,a3⟩:=hy0;refine qac hS ?_ ?_<;>intro h2<;>cbv
   ·obtain⟨p,hy⟩:=qbi (l:=ss) (i:=y) (by omega) k0
    obtain⟨E,hE⟩:∃ F,cellsB p.o=F:=⟨_,rfl⟩;obtain⟨en2,hen⟩:∃ m,m=ilen p.o:=⟨_,rfl⟩;have hm:=List.mem_of_getElem? hy;obtain⟨pok,p1,p2,p3⟩:=hss.ok p hm;have hmk:=qdg p hE hen;cases ha:ansB p.st with
    | true=>
     have hsl:=qen hss hm ha;obtain⟨v3,hv3⟩:∃ v,arS .shl .i64 1 p.sl=v:=⟨_,rfl⟩;obtain⟨v4,hv4⟩:∃ v,arS .or .i64 sv v3=v:=⟨_,rfl⟩;have hA':∀ r,r=y+1->∃ A:List Int,v4=setI A/\(∀ z∈A,0<=z/\z<=7)/\∀ z,z∈A↔z∈slots (ss.take r.toNat):=λr hr=>by
      refine⟨p.sl::A,by rw[<-hv4,<-hv3,a1];exact ar_or hsl a2,λz hz=>?_,λz=>?_⟩
      ·rcases List.mem_cons.1 hz with rfl|hz
       ·exact hsl
       ·exact a2 z hz
      ·rw[hr,qiy k0 hy,List.mem_cons,a3 z]
       constructor
       ·rintro (rfl|h)
        ·exact .inr ⟨ha,rfl⟩
        ·exact .inl h
       ·rintro (h|⟨_,h⟩)
        ·exact .inr h
        ·exact .inl h
     obtain⟨pid,pst,pse,pre,pow,pan,pen,po,pur,pic,psl⟩:=p;dsimp only at hE hen hsl hv3 hv4 hA'
     repeat' (first|(refine s_ck hS ?_;try cbv)|(refine qac hS ?_ ?_<;>intro h<;>(try cbv)<;>try exact s_ab h)|(refine qal hS (enc:=stC) (l:=ss) hsf hy (λ_=>rfl) k0 (by omega) hmk ?_;cbv)|fail)
     all_goals first
      | (exfalso;omega)
      | (rename_i r e;exact⟨(r,v4),by dsimp only;omega,⟨by dsimp only;omega,by dsimp only;omega,hA' r (by omega)⟩,rfl,by cbv;exact s_qA,by cbv;exact s_qA,by cbv⟩)
    | false=>
     have hsl:p.sl=-1:=by unfold slotB at p3;rw[if_neg (by rw[ha];decide)] at p3;exact of_decide_eq_true p3
     have hA':∀ r,r=y+1->∃ A:List Int,sv=setI A/\(∀ z∈A,0<=z/\z<=7)/\∀ z,z∈A↔z∈slots (ss.take r.toNat):=λr hr=>by
      refine⟨A,a1,a2,λz=>?_⟩;rw[hr,qiy k0 hy,a3 z];constructor
      ·exact .inl
      ·rintro (h|⟨h,_⟩)
       ·exact h
       ·rw[ha] at h;cases h
     obtain⟨pid,pst,pse,pre,pow,pan,pen,po,pur,pic,psl⟩:=p;dsimp only at hE hen hsl hA'
     repeat' (first|(refine s_ck hS ?_;try cbv)|(refine qac hS ?_ ?_<;>intro h<;>(try cbv)<;>try exact s_ab h)|(refine qal hS (enc:=stC) (l:=ss) hsf hy (λ_=>rfl) k0 (by omega) hmk ?_;cbv)|fail)
     all_goals first
      | (exfalso;omega)
      | (rename_i r e;exact⟨(r,sv),by dsimp only;omega,⟨by dsimp only;omega,by dsimp only;omega,hA' r (by omega)⟩,rfl,by cbv;exact s_qA,by cbv;exact s_qA,by cbv⟩)
   ·have hyn:ss.take y.toNat=ss:=qcs (by omega)
    rw[hyn,hus] at a3;clear hyn h2 k0 k1
    repeat' (first|(refine qeq hS ⟨id,sst,sse,sre,sow,an,en,o,ur,ic,sl⟩ ok hD hdn ?_;cbv)|fail)
    refine qad hS 8 I.qkf (λk:Int=>0<=k/\k<=7/\freeI us (8-k).toNat k=fr) (λ_=>[]) (λk=>[(1,.c [.i .i64 (.y id),.i .u8 (.y sst),.i .i64 (.y sse),.i .i64 (.y sre),.i .i64 (.y sow),.b an,.b en,.v false 1 D (.y dn),.i .u8 (.y ur),.b ic,.i .i64 (.y k)])]) (λk=>(8-k).toNat) 0 rfl ⟨⟨Int.le_refl _,show (0:Int)<=7 by decide,hfr⟩,rfl,?_,?_,by cbv⟩ ?_
    ·cbv;exact s_qA
    ·cbv;exact s_qA
    intro k hk;cbv;obtain⟨k0,k1,k2⟩:=hk;obtain⟨v1,hv1⟩:∃ v,arS .shr .i64 sv k=v:=⟨_,rfl⟩;have hfu:freeI us (8-k).toNat k=if k∈us then freeI us (8-(k+1)).toNat (k+1) else k:=by
     rw[show (8-k).toNat=(8-(k+1)).toNat+1 by omega,freeI]
    by_cases hku:k∈us
    ·have hv2:arS .and .i64 v1 1=1:=by rw[<-hv1,a1];exact ar_in ⟨k0,k1⟩ a2 ((a3 k).2 hku)
     rw[if_pos hku,k2] at hfu;have hk7:k≠7:=by
      intro e;subst e;rw[show (8-(7+1):Int).toNat=0 by decide,freeI] at hfu;omega
     repeat' (first|(refine s_ck hS ?_;try cbv)|(refine qac hS ?_ ?_<;>intro h<;>(try cbv)<;>try exact s_ab h)|(refine s_ad hS ?_;intro _ _;try cbv)|(refine qcg hS _ hv1 ?_;cbv)|(refine qcg hS _ hv2 ?_;cbv)|fail)
     all_goals first
      | (exfalso;omega)
      | (rename_i r e;exact⟨r,by omega,⟨by omega,by omega,by rw[e];exact hfu.symm⟩,rfl,by cbv;exact s_qA,by cbv;exact s_qA,by cbv⟩)
    ·have hv2:arS .and .i64 v1 1=0:=by rw[<-hv1,a1];exact qzawq ⟨k0,k1⟩ a2 λh=>hku ((a3 k).1 h)
     rw[if_neg hku,k2] at hfu;subst hfu
     repeat' (first|(refine s_ck hS ?_;try cbv)|(refine qac hS ?_ ?_<;>intro h<;>(try cbv)<;>try exact s_ab h)|(refine qcg hS _ hv1 ?_;cbv)|(refine qcg hS _ hv2 ?_;cbv)|(refine qag hS rfl I.qkx (by decide +kernel) ?_;cbv)|fail)
     all_goals (try (exfalso;omega))
     all_goals
      repeat' (first|(refine qio hS 7 5 6 (off:=0) (H:=H) (H':=H1) (ss:=ss') (sx:=ss') (Fs:=S.app Fs [.i .i64 (.y id),.i .u8 (.y sst),.i .i64 (.y sse),.i .i64 (.y sre),.i .i64 (.y sow),.b an,.b en,.v false 1 D (.y dn),.i .u8 (.y ur),.b ic,.i .i64 (.y fr)]) (ns:=S.pl ns (Int.ofNat 1)) rfl rfl rfl rfl s_qA hgs (hFs'.trans e1.symm) ⟨[],by simp⟩ (e2.trans hns') hbw hR hw hset hw' f1 ?_;cbv)|fail)
     all_goals first
      | (intro g;refine .tp ?_;repeat' (first|exact .nil|refine .cons ?_ ?_|refine .ag ?_|exact .sub .rfl rfl|exact qdn f1 f2 rfl g|exact qqb (n:=.y no) rfl (qzacj f2) f1 rfl g|exact qdc (n:=.y ns') (z:=.y (S.pl ns (Int.ofNat 1))) rfl e1 q1 e2 q2 g|exact .sub (qay rfl) rfl))
end Wr
end Cz
