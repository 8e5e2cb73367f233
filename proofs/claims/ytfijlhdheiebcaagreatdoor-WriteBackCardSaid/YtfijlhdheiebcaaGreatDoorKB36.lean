/- What the claims of this group lean on: WtBn WtC WtB2. No condition. -/
import Derived.Test.YtfijlhdheiebcaaGreatDoorKB35
set_option linter.unusedSimpArgs false
set_option linter.unusedVariables false
set_option maxRecDepth 100000
set_option maxHeartbeats 4000000
namespace Cz
open Go Go.RowKit Go.Proofs
namespace Wr
def zFr:SV:=.ag [.i .u8 (.l 0),.i .u8 (.l 0),.i .i64 (.l 0),.v true 1 [] (.l 0),.i .i64 (.l 0),.i .i64 (.l 0),.i .i64 (.l 0),.i .u32 (.l 0),.v true 2 [] (.l 0),.ff,.ff,.i .i64 (.l 0),.i .u8 (.l 0)]
section
variable {off no:Int}{Fr:List SV}{nr:Int}{Fz:List SV}{nz:Int}{Fs:List SV}{ns ns' w w':Int}{st1:Int}{Fo D:List SV}{dn:Int}
theorem data_m {X:Ln}{most cut:Int}(hg:GdL X) (hF:cellsS X.ss=Fs) (hn:ns=ilen X.ss) (hw:w=wdI X.L) (hm:Big most) (hc:Big cut) (hd:dataL X most cut=none) (hfo:plains Fo=true):
  (S0 Tryz.prog).call 43 [.p 0 0,.i .i64 (.y most),.i .i64 (.y cut)] [.c (bxK 1 2 off no X.tm Fr nr Fz nz X.se X.re X.ow ns w X.H X.sh),.r false false (.y st1) 7 Fo,.r false false (.y 0) 11 Fs]
   (PostB 3 (λ_ g=>[.c (bxK (g 1) (g 2) off no X.tm Fr nr Fz nz X.se X.re X.ow ns w X.H X.sh),.r false false (.y st1) 7 Fo,.r false false (.y 0) 11 Fs]) (λ_=>.tp [zFr,.ff])):=by
 have hfs:plains Fs=true:=hF▸qak _;unfold dataL at hd;have hss:=hg.ss;have hR:=hg.rd.r;have hse:=hg.se;cases ha:allR X.L X.H with
 | nil=>
  clear hd hg;obtain⟨os,tm,tr,zs,se,re,ow,ss,L,H,sh⟩:=X;dsimp only at *;have e_nx:nxtR (allR L H)=((0,0),false):=by rw[ha];rfl
  obtain⟨⟨⟨L1,H1⟩,t1⟩,e4⟩:∃ R,outR L H 0=R:=⟨_,rfl⟩;obtain⟨v1,hv1⟩:∃ w,w=wdI L1:=⟨_,rfl⟩;unfold bxK;generalize hS:S0 Tryz.prog=S;refine qaa hS I.qfl ?_;cbv
  repeat' (first|(refine qac hS ?_ ?_<;>intro h<;>(try cbv)<;>try exact s_ab h)|(refine qwr hS hR hw false e_nx e4 v1 hv1 ?_;cbv)|fail)
  all_goals first
   | (refine⟨[some 0,some 1,some 2],λ_=>0,first3,λg=>⟨⟨⟨_,rfl,rfl,.c ?_⟩,rfl,⟨_,rfl,rfl,.r .rfl hfo rfl⟩,rfl,⟨_,rfl,rfl,.r .rfl hfs rfl⟩,rfl,trivial⟩,.tp (.cons (.ag ?_) (.cons (.sub .rfl rfl) .nil))⟩⟩<;>repeat' (first|exact .nil|exact .nil (by decide) rfl|refine .cons ?_ ?_|exact .keep (i:=1) rfl rfl rfl|exact .keep (i:=2) rfl rfl rfl|exact .sub .rfl rfl))
 | cons y r=>
  obtain⟨sl,u⟩:=y;rw[ha] at hd;obtain⟨i,s,h1,h2,h3,h4,h5,h6⟩:=qlk hg ha;dsimp only at hd;rw[h1] at hd;dsimp only at hd;rw[h2] at hd;dsimp only at hd;clear hg;obtain⟨os,tm,tr,zs,se,re,ow,ss,L,H,sh⟩:=X;dsimp only at *;obtain⟨n,hcut⟩:∃ n,cutI s.se se (min most 16384) cut (ilen s.o)=n:=⟨_,rfl⟩;rw[hcut] at hd;split at hd
  ·rename_i hz
   obtain⟨hz1,hz2⟩:=hz;subst hz1;have hsm:=List.mem_of_getElem? h2;obtain⟨g1,g2,g3,g4⟩:=hss.ok s hsm;have hws:wB s.se=true:=(of_decide_eq_true g2).2.2.2.2.2.1;obtain⟨⟨⟨L1,H1⟩,t1⟩,e4⟩:∃ R,outR L H sl=R:=⟨_,rfl⟩;obtain⟨ii,hi0,hii⟩:∃ ii:Int,0<=ii/\ii.toNat=i:=⟨i,by omega,by simp⟩;subst hii;have hin:ii<ns:=by have:=(List.getElem?_eq_some_iff.1 h2).1;unfold ilen at hn;omega
   have hns8:ns<=8:=by rw[hn];exact hss.len
   have hbef:∀ (x:Int) (t:St),0<=x->x<ii->ss[x.toNat]?=some t->t.sl≠sl:=λx t g0 g1 ht=>qwl h1 (by omega) ht;have e_nx:nxtR (allR L H)=((sl,u),true):=by rw[ha];rfl
   obtain⟨v1,hv1⟩:∃ w,w=wdI L1:=⟨_,rfl⟩;obtain⟨D0,hD0⟩:∃ F,cellsB s.o=F:=⟨_,rfl⟩;obtain⟨dn0,hdn0⟩:∃ m,m=ilen s.o:=⟨_,rfl⟩;have hmk:=qdg s hD0 hdn0;obtain⟨mm,hmm⟩:∃ mm,MinI most mm:=⟨_,rfl⟩;have hbs:=qgi hws;have hbe:=qgi hse;have hokx:=g1;have hcut':cutI s.se se mm cut dn0=0:=by rw[hdn0];unfold MinI at hmm;rw[<-hmm];exact hcut
   rw[<-hdn0] at hz2;clear hcut hws g2 g3 g4;obtain⟨id,sst,sse,sre,sow,an,en,o,ur,ic,sl0⟩:=s;dsimp only at *;subst h3 h4;unfold bxK;generalize hS:S0 Tryz.prog=S;refine qaa hS I.qfl ?_;cbv
   repeat' (first|(refine qac hS ?_ ?_<;>intro h<;>(try cbv)<;>try exact s_ab h)|(refine qwr hS hR hw true e_nx e4 v1 hv1 ?_;cbv)|(refine qaa hS I.qaz ?_;cbv)|fail)
   refine qad hS 6 I.qaw (λx:Int=>0<=x/\x<=ii) (λx=>[(8,.i .i64 (.y x))]) (λ_=>[]) (λx=>(ii-x).toNat) 0 rfl ⟨⟨Int.le_refl _,hi0⟩,rfl,?_,?_,by cbv⟩ ?_
   ·cbv;exact s_qA
   ·cbv;exact s_qA
   intro x hx;cbv;obtain⟨g0x,g1x⟩:=hx;by_cases hxi:x=ii
   ·subst hxi
    repeat' (first|(refine s_ck hS ?_;try cbv)|(refine qac hS ?_ ?_<;>intro h<;>(try cbv)<;>try exact s_ab h)|(refine qal hS (enc:=stC) (l:=ss) hF h2 (λ_=>rfl) hi0 (by omega) hmk ?_;cbv)|(refine qaa hS I.qbo ?_;cbv)|(refine qeq hS ⟨id,sst,sse,sre,sow,an,en,o,ur,ic,sl0⟩ hokx hD0 hdn0 ?_;cbv)|(refine qag hS rfl I.qek (by decide +kernel) ?_;cbv)|(refine s_mne hS hmm ?_;cbv)|(refine cut_u hS 0 hbs hbe hcut' ?_;cbv)|fail)
    all_goals first
     | (exfalso;omega)
     | (refine⟨[some 0,some 1,some 2],λ_=>0,first3,λg=>⟨⟨⟨_,rfl,rfl,.c ?_⟩,rfl,⟨_,rfl,rfl,.r .rfl hfo rfl⟩,rfl,⟨_,rfl,rfl,.r .rfl hfs rfl⟩,rfl,trivial⟩,.tp (.cons (.ag ?_) (.cons (.sub .rfl rfl) .nil))⟩⟩<;>repeat' (first|exact .nil|exact .nil (by decide) rfl|refine .cons ?_ ?_|exact .keep (i:=1) rfl rfl rfl|exact .keep (i:=2) rfl rfl rfl|exact .sub .rfl rfl))
   ·obtain⟨t,ht⟩:=qbi (l:=ss) (i:=x) (by omega) g0x
    have hne:=hbef x t g0x (by omega) ht;obtain⟨tid,tst,tse,tre,tow,tan,ten,to,tur,tic,tsl⟩:=t;dsimp only at hne
    repeat' (first|(refine s_ck hS ?_;try cbv)|(refine qac hS ?_ ?_<;>intro h<;>(try cbv)<;>try exact s_ab h)|(refine s_ad hS ?_;intro _ _;try cbv)|(refine qal hS (enc:=stC) (l:=ss) hF ht (λ_=>rfl) g0x (by omega) rfl ?_;cbv)|(refine qaa hS I.qbo ?_;cbv)|fail)
    all_goals first
     | (exfalso;omega)
     | (rename_i r e;exact⟨r,by omega,⟨by omega,by omega⟩,rfl,by cbv;exact s_qA,by cbv;exact s_qA,by cbv⟩)
  ·cases hd
end
end Wr
end Cz
namespace Cz
open Go Go.RowKit Go.Proofs
namespace Wr
theorem back_os {X:Ln}{q:List Ot}{id:Int}:backL { X with os:=q } id=({ (backL X id).1 with os:=q },(backL X id).2):=by
 unfold backL;dsimp only;split
 ·rfl
 ·cases plI X.ss id with
  | none=>rfl
  | some i=>
   dsimp only;cases X.ss[i]? with
   | none=>rfl
   | some s=>rfl
theorem goes_os {X:Ln}{q:List Ot}{o:Ot}:goesL { X with os:=q } o=({ (goesL X o).1 with os:=q },(goesL X o).2):=by
 unfold goesL;split
 ·rfl
 split
 ·unfold sizedL
  dsimp only;split<;>rfl
 split
 ·rfl
 split
 ·rw[back_os]
 split
 ·rfl
 split
 ·rfl
 ·rfl
theorem pop_os:∀ {r:List Ot}{X:Ln}{q:List Ot},popL r { X with os:=q }=popL r X
 | [],_,_=>rfl
 | o::r,X,q=>by
  unfold popL;rw[goes_os];dsimp only;split
  ·exact pop_os
  ·rfl
def frQ (k fl st:Int) (D:List SV) (d la inc co:Int) (P:List SV) (p:Int):SV:=.ag [.i .u8 (.y k),.i .u8 (.y fl),.i .i64 (.y st),.v false 1 D (.y d),.i .i64 (.l 0),.i .i64 (.y la),.i .i64 (.y inc),.i .u32 (.y co),.v false 2 P (.y p),.ff,.ff,.i .i64 (.l 0),.i .u8 (.l 0)]
structure GoP (o:Ot):Prop where
 h:∀ {X X':Ln}{fs:List Fm}{D:List SV}{dn:Int}{Q:List SV}{qn:Int}{Lf:List SV}{ln off no:Int}{Fr:List SV}{nr:Int}{Fz:List SV}{nz:Int}{Fs Fs':List SV}{ns w st1:Int}{Fo Fr':List SV}{nr':Int}{Fz':List SV}{nz':Int}{B:List SV}{bn:Int},
 OtN o D dn Q qn Lf ln->GdL X->goesL X o=(X',fs)->Tb.cellsF X.tr=Fr->nr=ilen X.tr->cellsI X.zs=Fz->nz=ilen X.zs->cellsS X.ss=Fs->ns=ilen X.ss->Tb.cellsF X'.tr=Fr'->nr'=ilen X'.tr->cellsI X'.zs=Fz'->nz'=ilen X'.zs->cellsS X'.ss=Fs'->plains Fo=true->cellsB (fs.flatMap putB)=B->bn=ilen (fs.flatMap putB) ->
 ∃ (k fl st:Int) (D1:List SV) (d1 la inc co:Int) (P1:List SV) (p1:Int),(∀ f r,fs=f::r->k=f.k/\fl=f.fl/\st=f.st/\inc=f.inc) /\
 (S0 Tryz.prog).call 42 [.p 0 0,.ag (otK o D dn Q qn Lf ln)] [.c (bxK 1 2 off no X.tm Fr nr Fz nz X.se X.re X.ow ns w X.H X.sh),.r false false (.y st1) 7 Fo,.r false false (.y 0) 11 Fs]
  (PostB 3 (λ_ g=>[.c (bxK (g 1) (g 2) off no X'.tm Fr' nr' Fz' nz' X.se X'.re X'.ow ns w X.H X.sh),.r false false (.y st1) 7 Fo,.r false false (.y 0) 11 Fs']) (λ_=>.tp [.v false 1 B (.y bn),frQ k fl st D1 d1 la inc co P1 p1]))
theorem goes_u {S:Sy}{l:List Blk}{K:SV->List Blk->Prop}(hS:S0 Tryz.prog=S) (p k1 k2:Nat) {cs:List SV}{lit1 lit2:Bool}{z1 z2:Z}{o:Ot}(hgo:GoP o) {X X':Ln}{fs:List Fm}{D:List SV}{dn:Int}{Q:List SV}{qn:Int}{Lf:List SV}{ln off no:Int}{Fr:List SV}{nr:Int}{Fz:List SV}{nz:Int}{Fs Fs':List SV}{ns w:Int}{Fo Fr':List SV}{nr':Int}{Fz':List SV}{nz':Int}{B:List SV}{bn:Int}
  (hp:lget l p=.c cs) (h1:lget l k1=.r false lit1 z1 7 Fo) (h2:lget l k2=.r false lit2 z2 11 Fs) (hz:z2.v=0) (hne:nodupN [p,k1,k2]=true) (hc:SubL cs (bxK k1 k2 off no X.tm Fr nr Fz nz X.se X.re X.ow ns w X.H X.sh))
  (a1:OtN o D dn Q qn Lf ln) (a2:GdL X) (a3:goesL X o=(X',fs)) (a4:Tb.cellsF X.tr=Fr) (a5:nr=ilen X.tr) (a6:cellsI X.zs=Fz) (a7:nz=ilen X.zs) (a8:cellsS X.ss=Fs) (a9:ns=ilen X.ss) (b1:Tb.cellsF X'.tr=Fr') (b2:nr'=ilen X'.tr) (b3:cellsI X'.zs=Fz') (b4:nz'=ilen X'.zs) (b5:cellsS X'.ss=Fs') (b6:plains Fo=true) (b7:cellsB (fs.flatMap putB)=B) (b8:bn=ilen (fs.flatMap putB))
  (hK:∀ (k fl st:Int) (D1:List SV) (d1 la inc co:Int) (P1:List SV) (p1:Int),(∀ f r,fs=f::r->k=f.k/\fl=f.fl/\st=f.st/\inc=f.inc)->K (.tp [.v false 1 B (.y bn),frQ k fl st D1 d1 la inc co P1 p1]) (lays (fOf [p,k1,k2]) 3 0 [.c (bxK k1 k2 off no X'.tm Fr' nr' Fz' nz' X.se X'.re X'.ow ns w X.H X.sh),.r false false (.y z1.v) 7 Fo,.r false false (.y 0) 11 Fs'] l)):
  S.call 42 [.p p 0,.ag (otK o D dn Q qn Lf ln)] l K:=by
 obtain⟨k,fl,st,D1,d1,la,inc,co,P1,p1,hk,hcall⟩:=hgo.h (off:=off) (no:=no) (w:=w) (st1:=z1.v) a1 a2 a3 a4 a5 a6 a7 a8 a9 b1 b2 b3 b4 b5 b6 b7 b8;refine quk hS [p,k1,k2] hcall rfl hne (.cons .rfl (.cons .rfl .nil)) ⟨?_,?_,?_,trivial⟩ rfl λsts=>hK k fl st D1 d1 la inc co P1 p1 hk
 ·show BUp 3 (fOf [p,k1,k2]) (lget l p) _
  rw[hp];exact .c hc rfl
 ·show BUp 3 (fOf [p,k1,k2]) (lget l k1) _
  rw[h1];exact .r .rfl b6 rfl
 ·show BUp 3 (fOf [p,k1,k2]) (lget l k2) _
  rw[h2];exact .r .rfl (a8▸qak _) hz
structure DtP:Prop where
 h:∀ {fl id:Int}{b:List Int}{D:List SV}{dn:Int}{B:List SV}{bn:Int},(fl=0∨fl=1)->1<=id->id<=2147483647->Hu.BOk b->ilen b<=16384->cellsB b=D->dn=ilen b->cellsB (putB ⟨0,fl,id,b,0,0,0,[]⟩)=B->bn=ilen (putB ⟨0,fl,id,b,0,0,0,[]⟩) ->
 (S0 Tryz.prog).call 44 [dtF fl id D dn] [] (Tell (.tp [.v false 1 B (.y bn),.i .i64 (.y 0)]))
theorem qzasf {X:Ln}{o:Ot}:(goesL X o).1.se=X.se/\(goesL X o).1.L=X.L/\(goesL X o).1.H=X.H/\ilen (goesL X o).1.ss=ilen X.ss:=by
 unfold goesL;split
 ·exact⟨rfl,rfl,rfl,rfl⟩
 split
 ·unfold sizedL
  split<;>exact⟨rfl,rfl,rfl,rfl⟩
 split
 ·exact⟨rfl,rfl,rfl,rfl⟩
 split
 ·unfold backL
  split
  ·exact⟨rfl,rfl,rfl,rfl⟩
  ·cases plI X.ss o.st with
   | none=>exact⟨rfl,rfl,rfl,rfl⟩
   | some i=>
    dsimp only;cases X.ss[i]? with
    | none=>exact⟨rfl,rfl,rfl,rfl⟩
    | some s=>exact⟨rfl,rfl,rfl,by unfold ilen;dsimp only;rw[List.length_set]⟩
 split
 ·exact⟨rfl,rfl,rfl,rfl⟩
 split
 ·exact⟨rfl,rfl,rfl,rfl⟩
 ·exact⟨rfl,rfl,rfl,rfl⟩
theorem data_fm {X Y:Ln}{f:Fm}{most cut:Int}(hg:GdL X) (hd:dataL X most cut=some (Y,f)):f=⟨0,f.fl,f.st,f.da,0,0,0,[]⟩/\(f.fl=0∨f.fl=1)/\1<=f.st/\f.st<=2147483647/\Hu.BOk f.da/\ilen f.da<=16384:=by
 unfold dataL at hd;cases ha:allR X.L X.H with
 | nil=>rw[ha] at hd;cases hd
 | cons y r=>
  obtain⟨sl,u⟩:=y;rw[ha] at hd;obtain⟨i,s,h1,h2,h3,h4,h5,h6⟩:=qlk hg ha;dsimp only at hd;rw[h1] at hd;dsimp only at hd;rw[h2] at hd;dsimp only at hd;obtain⟨n,hcut⟩:∃ n,cutI s.se X.se (min most 16384) cut (ilen s.o)=n:=⟨_,rfl⟩;rw[hcut] at hd;split at hd
  ·cases hd
  ·simp only[Option.some.injEq,Prod.mk.injEq] at hd
   obtain⟨_,hf⟩:=hd;have hb:=qzaic hcut (qaj s.o);obtain⟨g1,g2,g3,g4⟩:=hg.ss.ok s (List.mem_of_getElem? h2)
   have:=of_decide_eq_true g2
   rw[<-hf];refine⟨rfl,?_,?_,?_,?_,?_⟩
   ·dsimp only;split
    ·exact .inr rfl
    ·exact .inl rfl
   ·dsimp only;omega
   ·dsimp only;omega
   ·exact λv hv=>g1.o v (List.mem_of_mem_take hv)
   ·dsimp only;unfold ilen at hb ⊢;rw[List.length_take];omega
theorem gdl_n {X:Ln}(h:GdL X):∃ Fo no Fr nr Fz nz Fs ns,LnN X.os X.tr X.zs X.ss Fo no Fr nr Fz nz Fs ns:=by
 have h1:=h.on;have h2:=h.ss.len;have h3:=qzatn h.zs;have h4:=of_decide_eq_true h.tab;refine⟨_,_,_,_,_,_,_,_,rfl,rfl,?_,λo ho=>(h.os o ho).1,rfl,rfl,?_,?_,rfl,rfl,by omega,rfl,rfl,by omega,λs hs=>(h.ss.ok s hs).1⟩
 ·split at h1<;>omega
 ·have:=Tb.qna X.tr
  omega
 ·omega
section
variable {Fo:List SV}{no tm:Int}{Fr:List SV}{nr:Int}{Fz:List SV}{nz se re ow:Int}{Fs:List SV}{ns w:Int}{H:Nat->Int}{sh:Bool}{ss:List St}{S:Sy}{l:List Blk}{K:SV->List Blk->Prop}
theorem at_y (hS:S0 Tryz.prog=S) {zo:Z}{k1 k2:Nat}{lit1 lit2:Bool}{z1 z2:Z}{id:Int}(r:Int) (h1:l[k1]?=some (.r false lit1 z1 7 Fo)) (h2:l[k2]?=some (.r false lit2 z2 11 Fs)) (hfo:plains Fo=true) (hF:cellsS ss=Fs) (hn:ns=ilen ss) (hb:ns<=100000000) (hr:plR ss id=r) (hK:K (.i .i64 (.y r)) l):
  S.call 72 [.ag [.sl k1 7 zo (.y no) none,.i .i64 (.y tm),.v false 2 Fr (.y nr),.v false 1 Fz (.y nz),.i .i64 (.y se),.i .i64 (.y re),.i .i64 (.y ow),.sl k2 11 (.l 0) (.y ns) none,.i .u64 (.y w),.i .i64 (.y (H 0)),.i .i64 (.y (H 1)),.i .i64 (.y (H 2)),.i .i64 (.y (H 3)),.i .i64 (.y (H 4)),.i .i64 (.y (H 5)),.i .i64 (.y (H 6)),.i .i64 (.y (H 7)),.b sh],.i .i64 (.y id)] l K:=by
 have f4:plains Fs=true:=hF▸qak _;have f5:ilen Fs=ns*11:=by rw[<-hF,hn];have:=qcq ss;unfold ilen;omega
 refine qzaft hS (at_f (Fo:=(Fo.drop (zo.v.toNat*7)).take ((Z.y no).v.toNat*7)) (no:=no) (tm:=tm) (Fr:=Fr) (nr:=nr) (Fz:=Fz) (nz:=nz) (se:=se) (re:=re) (ow:=ow) (w:=w) (H:=H) (sh:=sh) hF hn hb hr) ?_ rfl rfl hK;unfold lnK;refine .cons (.ag ?_) (.cons (.sub .rfl rfl) .nil)
 repeat' (first|exact .nil|refine .cons ?_ ?_|exact qqb (n:=.y no) h1 rfl (qzagj (qzagl hfo)) rfl _|exact qbz f4 f5 h2 _|exact .sub .rfl rfl)
end
section
variable {S:Sy}{l:List Blk}{K:SV->List Blk->Prop}
theorem data_u (hS:S0 Tryz.prog=S) (p k1 k2:Nat) {cs:List SV}{lit1 lit2:Bool}{z1 z2:Z}{off no:Int}{Fr:List SV}{nr:Int}{Fz:List SV}{nz:Int}{Fs Fs':List SV}{ns ns' w w':Int}{Fo D:List SV}{dn:Int}{X Y:Ln}{f:Fm}{most cut:Int}{ex:List St}
  (hp:lget l p=.c cs) (h1:lget l k1=.r false lit1 z1 7 Fo) (h2:lget l k2=.r false lit2 z2 11 Fs) (hz:z2.v=0) (hne:nodupN [p,k1,k2]=true) (hc:SubL cs (bxK k1 k2 off no X.tm Fr nr Fz nz X.se X.re X.ow ns w X.H X.sh)) (hpf:plains Fo=true) (hps:plains Fs=true) (hFs':cellsS (Y.ss++ex)=Fs')
  (hcall:(S0 Tryz.prog).call 43 [.p 0 0,.i .i64 (.y most),.i .i64 (.y cut)] [.c (bxK 1 2 off no X.tm Fr nr Fz nz X.se X.re X.ow ns w X.H X.sh),.r false false (.y z1.v) 7 Fo,.r false false (.y 0) 11 Fs]
   (PostB 3 (λ_ g=>[.c (bxK (g 1) (g 2) off no X.tm Fr nr Fz nz Y.se X.re X.ow ns' w' Y.H X.sh),.r false false (.y z1.v) 7 Fo,.r false false (.y 0) 11 (cellsS (Y.ss++ex))]) (λ_=>.tp [dtF f.fl f.st D dn,.tt])))
  (hK:K (.tp [dtF f.fl f.st D dn,.tt]) (lays (fOf [p,k1,k2]) 3 0 [.c (bxK k1 k2 off no X.tm Fr nr Fz nz Y.se X.re X.ow ns' w' Y.H X.sh),.r false false (.y z1.v) 7 Fo,.r false false (.y 0) 11 Fs'] l)):
  S.call 43 [.p p 0,.i .i64 (.y most),.i .i64 (.y cut)] l K:=by
 subst hFs';refine quk hS [p,k1,k2] hcall rfl hne (.cons .rfl (.cons .rfl (.cons .rfl .nil))) ⟨?_,?_,?_,trivial⟩ rfl λsts=>hK
 ·show BUp 3 (fOf [p,k1,k2]) (lget l p) _
  rw[hp];exact .c hc rfl
 ·show BUp 3 (fOf [p,k1,k2]) (lget l k1) _
  rw[h1];exact .r .rfl hpf rfl
 ·show BUp 3 (fOf [p,k1,k2]) (lget l k2) _
  rw[h2];exact .r .rfl hps hz
theorem data_v (hS:S0 Tryz.prog=S) (p k1 k2:Nat) {cs:List SV}{lit1 lit2:Bool}{z1 z2:Z}{off no:Int}{Fr:List SV}{nr:Int}{Fz:List SV}{nz:Int}{Fs:List SV}{ns w:Int}{Fo:List SV}{X:Ln}{most cut:Int}
  (hp:lget l p=.c cs) (h1:lget l k1=.r false lit1 z1 7 Fo) (h2:lget l k2=.r false lit2 z2 11 Fs) (hz:z2.v=0) (hne:nodupN [p,k1,k2]=true) (hc:SubL cs (bxK k1 k2 off no X.tm Fr nr Fz nz X.se X.re X.ow ns w X.H X.sh))
  (hg:GdL X) (hF:cellsS X.ss=Fs) (hn:ns=ilen X.ss) (hw:w=wdI X.L) (hm:Big most) (hb:Big cut) (hd:dataL X most cut=none) (hpf:plains Fo=true)
  (hK:K (.tp [zFr,.ff]) (lays (fOf [p,k1,k2]) 3 0 [.c (bxK k1 k2 off no X.tm Fr nr Fz nz X.se X.re X.ow ns w X.H X.sh),.r false false (.y z1.v) 7 Fo,.r false false (.y 0) 11 Fs] l)):
  S.call 43 [.p p 0,.i .i64 (.y most),.i .i64 (.y cut)] l K:=by
 refine quk hS [p,k1,k2] (data_m (off:=off) (no:=no) (st1:=z1.v) hg hF hn hw hm hb hd hpf) rfl hne (.cons .rfl (.cons .rfl (.cons .rfl .nil))) ⟨?_,?_,?_,trivial⟩ rfl λsts=>hK
 ·show BUp 3 (fOf [p,k1,k2]) (lget l p) _
  rw[hp];exact .c hc rfl
 ·show BUp 3 (fOf [p,k1,k2]) (lget l k1) _
  rw[h1];exact .r .rfl hpf rfl
 ·show BUp 3 (fOf [p,k1,k2]) (lget l k2) _
  rw[h2];exact .r .rfl (hF▸qak _) hz
theorem own_z (hS:S0 Tryz.prog=S) (k1 k2:Nat) {lit1 lit2:Bool}{z1 z2:Z}{off tm se re ow w:Int}{H:Nat->Int}{sh:Bool}{Go Gs:List SV}{os:List Ot}{tr:List Tb.Fd}{zs:List Int}{ss:List St}{Fo:List SV}{no:Int}{Fr:List SV}{nr:Int}{Fz:List SV}{nz:Int}{Fs:List SV}{ns:Int}
  (h1:l[k1]?=some (.r false lit1 z1 7 Go)) (h2:l[k2]?=some (.r false lit2 z2 11 Gs)) (e1:kpOf (others [k1,k2] (len l)) k1=none) (e2:kpOf (others [k1,k2] (len l)) k2=none) (hn:LnN os tr zs ss Fo no Fr nr Fz nz Fs ns) (p1:(Go.drop ((Z.y off).v.toNat*7)).take ((Z.y no).v.toNat*7)=Fo) (p2:(Gs.drop ((Z.l 0).v.toNat*11)).take ((Z.y ns).v.toNat*11)=Fs)
  (hK:∀ st,K (.ag [.sl (len l) 7 (.l 0) (.y no) none,.i .i64 (.y tm),.v false 2 Fr (.y nr),.v false 1 Fz (.y nz),.i .i64 (.y se),.i .i64 (.y re),.i .i64 (.y ow),.sl (len l+1) 11 (.l 0) (.y ns) none,.i .u64 (.y w),.i .i64 (.y (H 0)),.i .i64 (.y (H 1)),.i .i64 (.y (H 2)),.i .i64 (.y (H 3)),.i .i64 (.y (H 4)),.i .i64 (.y (H 5)),.i .i64 (.y (H 6)),.i .i64 (.y (H 7)),.b sh]) (snoc (snoc (frzL [k1,k2] 0 l) (.r false false (.y st) 7 Fo)) (.r false false (.y 0) 11 Fs))):
  S.call 39 [.ag (bxK k1 k2 off no tm Fr nr Fz nz se re ow ns w H sh)] l K:=by
 refine use_keptF hS [k1,k2] (own_f (tm:=tm) (se:=se) (re:=re) (ow:=ow) (w:=w) (H:=H) (sh:=sh) hn) ?_ rfl ⟨⟨by decide,hn.o▸qdr _⟩,⟨by decide,hn.s▸qak _⟩,trivial⟩ λsts hz=>?_
 ·unfold bxK lnK
  refine .cons (.ag ?_) .nil
  repeat' (first|exact .nil|refine .cons ?_ ?_|exact .row h1 e1 (by rw[p1];exact .fsub .rfl (hn.o▸qdr _)) (hn.o▸qdr _) rfl|exact .row h2 e2 (by rw[p2];exact .fsub .rfl (hn.s▸qak _)) (hn.s▸qak _) rfl|exact .sub .rfl rfl)
 ·have h1:sts 1=0:=hz
  have:rowBs sts [(7,Fo),(11,Fs)] 0=[.r false false (.y (sts 0)) 7 Fo,.r false false (.y 0) 11 Fs]:=by simp only[rowBs];rw[show sts (0+1)=0 from h1]
  rw[this];exact hK (sts 0)
end
end Wr
end Cz
namespace Cz
open Go Go.RowKit Go.Proofs
namespace Wr
section
variable {off no:Int}{Fr:List SV}{nr:Int}{Fz:List SV}{nz:Int}{Fs:List SV}{ns ns' w w':Int}{st1:Int}{Fo D:List SV}{dn:Int}
theorem data_fB {X Y:Ln}{f:Fm}{most cut:Int}(hg:GdL X) (hF:cellsS X.ss=Fs) (hn:ns=ilen X.ss) (hw:w=wdI X.L) (hm:Big most) (hc:Big cut) (hd:dataL X most cut=some (Y,f)) (hw':w'=wdI Y.L) (hfo:plains Fo=true) (hD:cellsB f.da=D) (hdn:dn=ilen f.da) (hns':ns'=ilen Y.ss) (hcase:f.fl=0) (henv:∀ s∈X.ss,s.id=f.st->s.en=true):
  ∃ ex,(S0 Tryz.prog).call 43 [.p 0 0,.i .i64 (.y most),.i .i64 (.y cut)] [.c (bxK 1 2 off no X.tm Fr nr Fz nz X.se X.re X.ow ns w X.H X.sh),.r false false (.y st1) 7 Fo,.r false false (.y 0) 11 Fs]
   (PostB 3 (λ_ g=>[.c (bxK (g 1) (g 2) off no X.tm Fr nr Fz nz Y.se X.re X.ow ns' w' Y.H X.sh),.r false false (.y st1) 7 Fo,.r false false (.y 0) 11 (cellsS (Y.ss++ex))]) (λ_=>.tp [dtF f.fl f.st D dn,.tt])):=by
 have hgd:=(qzabc hg hd).1.ss;unfold dataL at hd;have hss:=hg.ss;have hR:=hg.rd.r;have hse:=hg.se;cases ha:allR X.L X.H with
 | nil=>rw[ha] at hd;cases hd
 | cons y r=>
  obtain⟨sl,u⟩:=y;rw[ha] at hd;obtain⟨i,s,h1,h2,h3,h4,h5,h6⟩:=qlk hg ha;dsimp only at hd;rw[h1] at hd;dsimp only at hd;rw[h2] at hd;dsimp only at hd;clear hg;obtain⟨os,tm,tr,zs,se,re,ow,ss,L,H,sh⟩:=X;dsimp only at *;obtain⟨n,hcut⟩:∃ n,cutI s.se se (min most 16384) cut (ilen s.o)=n:=⟨_,rfl⟩;rw[hcut] at hd;split at hd
  ·cases hd
  ·rename_i hnz
   have hl:=qaj s.o;have hsm:=List.mem_of_getElem? h2;obtain⟨g1,g2,g3,g4⟩:=hss.ok s hsm;have hb:=qzaic hcut hl;have hws:wB s.se=true:=(of_decide_eq_true g2).2.2.2.2.2.1;obtain⟨w1,w2⟩:=qzatg hcut hl hws hse;obtain⟨k1,k2,k3⟩:=qzafw g1 g2 hb.1 hb.2.1 w1;obtain⟨j1,j2,j3,j4,j5,j6⟩:=qzari k1 k2 h6;obtain⟨o1,o2,o3⟩:=qzarj (s:=sl) hR;have hsl:=qen hss hsm h6;rw[h3] at hsl;have hu:=(qpy g1 g2).2;rw[h4] at hu;have hsen:(sentS s n).en=s.en:=rfl;have hov:=sent_o (s:=s) hb.1 hb.2.1;obtain⟨s1,hs1⟩:∃ s1,sentS s n=s1:=⟨_,rfl⟩;rw[hs1] at hd k1 k2 k3 j1 j2 j3 j4 j5 j6 hsen hov;obtain⟨s2,e2⟩:∃ s2,overD s1=s2:=⟨_,rfl⟩;rw[e2] at hd j1 j2 j3 j4 j5 j6;obtain⟨rd,e3⟩:∃ rd,sendB s2 (se-n)=rd:=⟨_,rfl⟩;rw[e3] at hd;obtain⟨⟨⟨L1,H1⟩,t1⟩,e4⟩:∃ R,outR L H sl=R:=⟨_,rfl⟩
   try dsimp only at o1
   try dsimp only at o2
   try dsimp only at o3
   rw[e4] at hd o1 o2 o3
   try dsimp only at hd
   try dsimp only at o1
   try dsimp only at o2
   try dsimp only at o3
   obtain⟨⟨L2,H2⟩,e5⟩:∃ R2,overR L1 H1 sl u s2.ic rd=R2:=⟨_,rfl⟩;have hg2:=qqc (inc:=s2.ic) (rd:=rd) o1 hsl hu o3;rw[e5] at hd hg2
   try dsimp only at hd
   try dsimp only at hg2
   simp only[Option.some.injEq,Prod.mk.injEq] at hd;obtain⟨hY,hf⟩:=hd;obtain⟨⟨L3,H3⟩,e6⟩:∃ R3,settleR (L2,H2) (want (laidI ss i s s2) (se-n))=R3:=⟨_,rfl⟩;unfold setL at hY;dsimp only at hY;rw[e6] at hY;subst hY hf;dsimp only at *;obtain⟨ii,hi0,hii⟩:∃ ii:Int,0<=ii/\ii.toNat=i:=⟨i,by omega,by simp⟩;subst hii;obtain⟨ex,hex⟩:=laid_x ss ii.toNat s s2;refine⟨ex,?_⟩;obtain⟨Fx,hFx⟩:∃ F,cellsS (laidX ss ii.toNat s s2)=F:=⟨_,rfl⟩;rw[<-hex,hFx];have hfx:plains Fx=true:=hFx▸qak _;have hin:ii<ns:=by have:=(List.getElem?_eq_some_iff.1 h2).1;unfold ilen at hn;omega
   have hns8:ns<=8:=by rw[hn];exact hss.len
   have hbef:∀ (x:Int) (t:St),0<=x->x<ii->ss[x.toNat]?=some t->t.sl≠sl:=λx t g0 g1 ht=>qwl h1 (by omega) ht;have e_nx:nxtR (allR L H)=((sl,u),true):=by rw[ha];rfl
   obtain⟨v1,hv1⟩:∃ w,w=wdI L1:=⟨_,rfl⟩;obtain⟨v2,hv2⟩:∃ w,w=wdI L2:=⟨_,rfl⟩;obtain⟨D0,hD0⟩:∃ F,cellsB s.o=F:=⟨_,rfl⟩;obtain⟨dn0,hdn0⟩:∃ m,m=ilen s.o:=⟨_,rfl⟩;have hmk:=qdg s hD0 hdn0;obtain⟨mm,hmm⟩:∃ mm,MinI most mm:=⟨_,rfl⟩;have hbs:=qgi hws;have hbe:=qgi hse;obtain⟨a1,ha1⟩:∃ r,arS .sub .i64 s.se n=r:=⟨_,rfl⟩;obtain⟨a2,ha2⟩:∃ r,arS .sub .i64 se n=r:=⟨_,rfl⟩;have ha1':a1=s.se-n:=by rw[<-ha1];exact qzalr (qgi w1)
   have ha2':a2=se-n:=by rw[<-ha2];exact qzalr (qgi w2)
   have hba:Big a2:=by rw[ha2'];exact qgi w2
   have hDt:D=(D0.drop ((0:Int).toNat*1)).take (n.toNat*1):=by rw[qrr hD0];exact hD.symm
   have hdt:dn=n:=by rw[hdn];unfold ilen at hb ⊢;rw[List.length_take];omega
   rw[<-ha2'] at e3 e6 w2;rw[<-ha2'];have hok2:=j1;have hokx:=g1;have hwh:=hs1;unfold sentS at hwh;rw[<-ha1'] at hwh;have hlay:=h2;have hlen2:(ilen s1.o:Int)=dn0-n:=by rw[k3,hdn0]
   have hcut':cutI s.se se mm cut dn0=n:=by rw[hdn0];unfold MinI at hmm;rw[<-hmm];exact hcut
   rw[<-hdn0] at hb hnz hl hov;have ho2:cellsB s1.o=(D0.drop (n.toNat*1)).take ((dn0-n).toNat*1):=by rw[qzamn hD0 hb.1 (by rw[hdn0]),<-hwh]
   have hb0:=hb.1;have hb1:=hb.2.1;have hb2:n<=16384:=by omega
   clear hcut hws hD g2 g3 g4 j2 j3 j4 j6;obtain⟨id,sst,sse,sre,sow,an,en,o,ur,ic,sl0⟩:=s;dsimp only at *;have hsa:true=ansB sst:=h6.symm;clear h6 w1 w2;subst h3 h4;have hst:=hokx.st;dsimp only at hst;have hnz':¬(n=0/\0<dn0):=hnz;have hend:0<=endS sst/\endS sst<=255:=by unfold endS;split<;>omega
   obtain⟨y,hy⟩:∃ y,endS sst=y:=⟨_,rfl⟩;obtain⟨fl,hfl⟩:∃ fl:Int,(if s1.en=true/\s1.o=[] then 1 else 0)=fl:=⟨_,rfl⟩;rw[hfl] at hcase ⊢;unfold overD at e2;subst hwh;dsimp only at *;subst hdt;have hovr:¬(en=true/\dn=dn0):=λhh=>by
    rw[if_pos ⟨hh.1,hov.2 hh.2⟩] at hfl;exact absurd (hfl.trans hcase) (by decide)
   obtain rfl:en=true:=henv _ hsm rfl;have hfl0:fl=0:=by rw[<-hfl,if_neg (λh=>hovr ⟨h.1,hov.1 h.2⟩)]
   rw[if_neg (λh=>hovr ⟨h.1,hov.1 h.2⟩)] at e2;have hflz:(Z.l 0).v=(Z.y fl).v:=hfl0.symm;subst e2;clear hb hov hnz g1 hsen hlay h5 hsm hs1 hfl j1 k2;dsimp only at *;have hnd:dn≠dn0:=λe=>hovr ⟨rfl,e⟩;clear hovr;unfold bxK;generalize hS:S0 Tryz.prog=S;have q0:S.mi dn0 dn=dn0-dn:=by subst hS;rfl
   have q1:S.sub D0 0 dn 1=D:=by rw[hDt];subst hS;rfl
   have q2:cellsB (o.drop dn.toNat)=S.sub D0 dn (S.mi dn0 dn) 1:=by rw[q0,ho2];subst hS;rfl
   have q3:S.mi dn0 dn=ilen (o.drop dn.toNat):=by rw[q0];exact hlen2.symm
   have q4:cellsB (o.take dn.toNat)=S.sub D0 0 dn 1:=by rw[q1,hDt];exact (qrr hD0).symm
   refine qaa hS I.qfl ?_;cbv
   repeat' (first|(refine qac hS ?_ ?_<;>intro h<;>(try cbv)<;>try exact s_ab h)|(refine qwr hS hR hw true e_nx e4 v1 hv1 ?_;cbv)|(refine qaa hS I.qaz ?_;cbv)|fail)
   refine qad hS 6 I.qaw (λx:Int=>0<=x/\x<=ii) (λx=>[(8,.i .i64 (.y x))]) (λ_=>[]) (λx=>(ii-x).toNat) 0 rfl ⟨⟨Int.le_refl _,hi0⟩,rfl,?_,?_,by cbv⟩ ?_
   ·cbv;exact s_qA
   ·cbv;exact s_qA
   intro x hx;cbv;obtain⟨g0x,g1x⟩:=hx;by_cases hxi:x=ii
   ·subst hxi
    repeat' (first|(refine s_ck hS ?_;try cbv)|(refine qac hS ?_ ?_<;>intro h<;>(try cbv)<;>try exact s_ab h)|(refine qal hS (enc:=stC) (l:=ss) hF h2 (λ_=>rfl) hi0 (by omega) hmk ?_;cbv)|(refine qaa hS I.qbo ?_;cbv)|(refine qeq hS ⟨id,sst,sse,sre,sow,an,true,o,ur,ic,sl0⟩ hokx hD0 hdn0 ?_;cbv)|(refine qag hS rfl I.qek (by decide +kernel) ?_;cbv)|(refine qag hS rfl I.qhc (by decide +kernel) ?_;cbv)|(refine qag hS rfl I.qhb (by decide +kernel) ?_;cbv)|(refine s_mne hS hmm ?_;cbv)|(refine cut_u hS dn hbs hbe hcut' ?_;cbv)|(refine qzapa hS q4 hdn (by omega) ?_;cbv)|(refine qcg hS _ ha1 ?_;cbv)|(refine qcg hS _ ha2 ?_;cbv)|fail)
    all_goals (try (exfalso;omega))
    all_goals (refine lay_u hS 0 1 2 (s:=⟨id,sst,a1,sre,sow,an,true,o.drop dn.toNat,ur,ic,sl0⟩) (off:=off) (H:=H) rfl rfl rfl rfl rfl s_qA hF hn (by omega) hi0 hin h2 hok2 hokx q2 q3 hFx hns' hfo ?_;cbv)
    all_goals
     repeat' (first|(refine qag hS rfl I.qha (by decide +kernel) ?_;cbv)|(refine qcl hS ⟨id,sst,a1,sre,sow,an,true,o.drop dn.toNat,ur,ic,sl0⟩ rd hok2 hba q2 q3 e3 ?_;cbv)|(refine qzavd hS o1 hv1 hsl hu o3 e5 v2 hv2 ?_;cbv)|fail)
    all_goals (refine qio hS 0 1 2 (off:=off) (H:=H2) (H':=H3) (ss:=laidI ss x.toNat ⟨id,sst,sse,sre,sow,an,true,o,ur,ic,sl0⟩ ⟨id,sst,a1,sre,sow,an,true,o.drop dn.toNat,ur,ic,sl0⟩) (sx:=laidX ss x.toNat ⟨id,sst,sse,sre,sow,an,true,o,ur,ic,sl0⟩ ⟨id,sst,a1,sre,sow,an,true,o.drop dn.toNat,ur,ic,sl0⟩) rfl rfl rfl rfl s_qA hgd hFx ⟨ex,hex⟩ hns' hba hg2 hv2 e6 hw' hfo ?_;cbv)
    all_goals first
     | (exfalso;omega)
     | (refine⟨[some 0,some 1,some 2],λ_=>0,first3,λg=>⟨⟨⟨_,rfl,rfl,.c ?_⟩,rfl,⟨_,rfl,rfl,.r .rfl hfo rfl⟩,rfl,⟨_,rfl,rfl,.r .rfl hfx rfl⟩,rfl,trivial⟩,.tp (.cons (.ag ?_) (.cons (.sub .rfl rfl) .nil))⟩⟩<;>repeat' (first|exact .nil|refine .cons ?_ ?_|exact .keep (i:=1) rfl rfl rfl|exact .keep (i:=2) rfl rfl rfl|exact .sub .rfl rfl|exact .sub (qau hflz) rfl|exact .sub (qzamm q1 rfl) rfl|exact .nil (by decide) rfl))
   ·obtain⟨t,ht⟩:=qbi (l:=ss) (i:=x) (by omega) g0x
    have hne:=hbef x t g0x (by omega) ht;obtain⟨tid,tst,tse,tre,tow,tan,ten,to,tur,tic,tsl⟩:=t;dsimp only at hne
    repeat' (first|(refine s_ck hS ?_;try cbv)|(refine qac hS ?_ ?_<;>intro h<;>(try cbv)<;>try exact s_ab h)|(refine s_ad hS ?_;intro _ _;try cbv)|(refine qal hS (enc:=stC) (l:=ss) hF ht (λ_=>rfl) g0x (by omega) rfl ?_;cbv)|(refine qaa hS I.qbo ?_;cbv)|fail)
    all_goals first
     | (exfalso;omega)
     | (rename_i r e;exact⟨r,by omega,⟨by omega,by omega⟩,rfl,by cbv;exact s_qA,by cbv;exact s_qA,by cbv⟩)
end
end Wr
end Cz
