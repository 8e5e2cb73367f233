/- What the claims of this group lean on: WgH WbA WkB. No condition. -/
import Derived.Test.YtfijlhdheiebcaaGreatDoorKB39
import Derived.Test.YtfijlhdheiebcaaGreatDoorKB43
import Derived.Test.YtfijlhdheiebcaaGreatDoorKB44
set_option linter.unusedSimpArgs false
set_option linter.unusedVariables false
set_option maxRecDepth 100000
set_option maxHeartbeats 4000000
namespace Cz
open Go Go.RowKit Go.Proofs
namespace Wr
open Fa Wg
section
variable {Fo:List SV}{no:Int}{Fr:List SV}{nr:Int}{Fz:List SV}{nz:Int}{Fs:List SV}{ns w:Int}
theorem find_y {X:Ln}{id r:Int}{s:St}{F:List SV}{n:Int}(hn:LnN X.os X.tr X.zs X.ss Fo no Fr nr Fz nz Fs ns) (hg:GdL X) (hw:w=wdI X.L) (hwt:∀ o∈X.os,WtP o) (hr:plR X.ss id=r) (hr0:0<=r) (hs:X.ss[r.toNat]?=some s) (ok:StOk s) (hF:cellsB s.o=F) (hN:n=ilen s.o):
  (S0 Tryz.prog).call 32 [.ag (lnK Fo no X.tm Fr nr Fz nz X.se X.re X.ow Fs ns w X.H X.sh),.i .i64 (.y id)] [] (Tell (.tp [.ag (stK s F n),.tt])):=by
 have hrt:∀ (bl:List Blk) (K:SV->List Blk->Prop),K .tt bl->(S0 Tryz.prog).call 36 [.ag (lnK Fo no X.tm Fr nr Fz nz X.se X.re X.ow Fs ns w X.H X.sh)] bl K:=λbl K h=>qlr rfl hn hg hw hwt h;have hsb:=hn.sb;have hrl:r<ns:=by
  have h1:=(List.getElem?_eq_some_iff.1 hs).1;have h2:=hn.sn;unfold ilen at h2;omega
 have hat:=at_f (Fo:=Fo) (no:=no) (tm:=X.tm) (Fr:=Fr) (nr:=nr) (Fz:=Fz) (nz:=nz) (se:=X.se) (re:=X.re) (ow:=X.ow) (w:=w) (H:=X.H) (sh:=X.sh) hn.s hn.sn (by omega) hr;have hsF:=hn.s;obtain⟨os,tm,tr,zs,se,re,ow,ss,L,H,sh⟩:=X;dsimp only at *;clear hg hw hwt hn;obtain⟨sid,st,sse,sre,sow,an,en,o,ur,ic,sl⟩:=s;dsimp only at hF hN;have hmk:=qdg ⟨sid,st,sse,sre,sow,an,en,o,ur,ic,sl⟩ hF hN;unfold lnK at *;unfold stK at *;dsimp only at *;generalize hS:S0 Tryz.prog=S at hrt ⊢;refine qaa hS I.qzaon ?_;cbv
 repeat' (first|(refine s_ck hS ?_;try cbv)|(refine qac hS ?_ ?_<;>intro h<;>(try cbv)<;>try exact s_ab h)|(refine qbg hS hat .rfl rfl rfl ?_;cbv)|(refine hrt _ _ ?_;cbv)|(refine qal hS (enc:=stC) (l:=ss) hsF hs (λ_=>rfl) hr0 (by omega) hmk ?_;cbv)|(refine qeq hS ⟨sid,st,sse,sre,sow,an,en,o,ur,ic,sl⟩ ok hF hN ?_;cbv)|fail)
 all_goals first
  | (exact λg=>.sub .rfl rfl)
end
end Wr
end Cz
namespace Cz
open Go Go.RowKit Go.Proofs
namespace Wr
section
variable {Fo:List SV}{no tm:Int}{Fr:List SV}{nr:Int}{Fz:List SV}{nz se re ow:Int}{Fs:List SV}{ns w:Int}{H:Nat->Int}{sh:Bool}{Fc:List SV}{nc:Int}
theorem back_a (hwk:∀ (bl:List Blk) (K:SV->List Blk->Prop),K .tt bl->(S0 Tryz.prog).call 9 [] bl K)
  (hgr:∀ (bl:List Blk) (K:SV->List Blk->Prop),K .tt bl->(S0 Tryz.prog).call 7 [.ag (lnK Fo no tm Fr nr Fz nz se re ow Fs ns w H sh)] bl K):
  (S0 Tryz.prog).call 5 [.ag (lnK Fo no tm Fr nr Fz nz se re ow Fs ns w H sh),.v false 1 Fc (.y nc)] [] (λx _=>Sub x .tt):=by
 unfold lnK at *;generalize hS:S0 Tryz.prog=S at *;refine qaa hS I.qzaws ?_;cbv
 repeat' (first
  | (refine qwn hS rfl ?_;try cbv)
  | (refine s_ck hS ?_;try cbv)
  | (refine qac hS ?_ ?_<;>intro h<;>(try cbv)<;>try exact s_ab h)
  | (refine s_ad hS ?_;intro _ _;try cbv)
  | (refine s_sb hS ?_;intro _ _;try cbv)
  | (refine qzawr hS ?_;intro _ _;try cbv)
  | (refine qdd hS ?_;try cbv)
  | (refine hgr _ _ ?_;cbv)
  | (refine hwk _ _ ?_;cbv)
  | (refine qzaqz hS ?_;try cbv)
  | (refine s_lk hS ?_;try cbv)
  | (refine s_mu hS ?_;try cbv)
  | fail)
 all_goals exact .rfl
theorem back_b (hwk:∀ (bl:List Blk) (K:SV->List Blk->Prop),K .tt bl->(S0 Tryz.prog).call 9 [] bl K)
  (hgr:∀ (bl:List Blk) (K:SV->List Blk->Prop),K .ff bl->(S0 Tryz.prog).call 7 [.ag (lnK Fo no tm Fr nr Fz nz se re ow Fs ns w H sh)] bl K)
  (hdr:∀ (bl:List Blk) (K:SV->List Blk->Prop),K .ff bl->(S0 Tryz.prog).call 8 [.ag (lnK Fo no tm Fr nr Fz nz se re ow Fs ns w H sh)] bl K):
  (S0 Tryz.prog).call 5 [.ag (lnK Fo no tm Fr nr Fz nz se re ow Fs ns w H sh),.v false 1 Fc (.y nc)] [] (λx _=>Sub x .tt):=by
 unfold lnK at *;generalize hS:S0 Tryz.prog=S at *;refine qaa hS I.qzaws ?_;cbv
 repeat' (first
  | (refine qwn hS rfl ?_;try cbv)
  | (refine s_ck hS ?_;try cbv)
  | (refine qac hS ?_ ?_<;>intro h<;>(try cbv)<;>try exact s_ab h)
  | (refine s_ad hS ?_;intro _ _;try cbv)
  | (refine s_sb hS ?_;intro _ _;try cbv)
  | (refine qzawr hS ?_;intro _ _;try cbv)
  | (refine qdd hS ?_;try cbv)
  | (refine hgr _ _ ?_;cbv)
  | (refine hdr _ _ ?_;cbv)
  | (refine hwk _ _ ?_;cbv)
  | (refine qzaqz hS ?_;try cbv)
  | (refine s_lk hS ?_;try cbv)
  | (refine s_mu hS ?_;try cbv)
  | fail)
 all_goals exact .rfl
theorem back_c (hwk:∀ (bl:List Blk) (K:SV->List Blk->Prop),K .tt bl->(S0 Tryz.prog).call 9 [] bl K)
  (hgr:∀ (bl:List Blk) (K:SV->List Blk->Prop),K .ff bl->(S0 Tryz.prog).call 7 [.ag (lnK Fo no tm Fr nr Fz nz se re ow Fs ns w H sh)] bl K)
  (hdr:∀ (bl:List Blk) (K:SV->List Blk->Prop),K .tt bl->(S0 Tryz.prog).call 8 [.ag (lnK Fo no tm Fr nr Fz nz se re ow Fs ns w H sh)] bl K)
  (hre:0<=re/\re<=2147483647) (how:0<=ow/\ow<=2147483647)
  (hbad:sh=true∨(0<no∨20<nc∨2147483647<re+ow)):
  (S0 Tryz.prog).call 5 [.ag (lnK Fo no tm Fr nr Fz nz se re ow Fs ns w H sh),.v false 1 Fc (.y nc)] [] (λx _=>Sub x .tt):=by
 unfold lnK at *;cases sh
 all_goals
  generalize hS:S0 Tryz.prog=S at *;refine qaa hS I.qzaws ?_;cbv
  repeat' (first
   | (refine qwn hS rfl ?_;try cbv)
   | (refine s_ck hS ?_;try cbv)
   | (refine qac hS ?_ ?_<;>intro h<;>(try cbv)<;>try exact s_ab h)
   | (refine s_ad hS ?_;intro _ _;try cbv)
   | (refine s_sb hS ?_;intro _ _;try cbv)
   | (refine qzawr hS ?_;intro _ _;try cbv)
   | (refine qdd hS ?_;try cbv)
   | (refine hgr _ _ ?_;cbv)
   | (refine hdr _ _ ?_;cbv)
   | (refine hwk _ _ ?_;cbv)
   | (refine qag hS rfl I.qzawv (by decide +kernel) ?_;cbv)
   | (refine qzaqz hS ?_;try cbv)
   | (refine s_lk hS ?_;try cbv)
   | (refine s_mu hS ?_;try cbv)
   | fail)
  all_goals first
   | exact .rfl
   | (exfalso;rcases hbad with h'|h';(focus (cases h'));(focus omega))
end
end Wr
end Cz
namespace Cz
open Go Go.RowKit Go.Proofs
namespace Wr
abbrev lnQ (os:List Ot) (se re ow:Int) (ss:List St) (w h3:Int) (sh:Bool):SV:=
 .ag [.v true 7 (litL (cellsO os)) (.l (ilen os)),.i .i64 (.l 4096),.v true 2 [] (.l 0),.v true 1 [] (.l 0),.i .i64 (.l se),.i .i64 (.l re),.i .i64 (.l ow),.v true 11 (litL (cellsS ss)) (.l (ilen ss)),.i .u64 (.l w),.i .i64 (.l (-1)),.i .i64 (.l (-1)),.i .i64 (.l (-1)),.i .i64 (.l h3),.i .i64 (.l (-1)),.i .i64 (.l (-1)),.i .i64 (.l (-1)),.i .i64 (.l (-1)),Cz.ofB sh]
section
variable {X:Ln}{os:List Ot}{se re ow:Int}{ss:List St}{w h3:Int}{sh:Bool}
theorem qfg (h:Is X os se re ow ss w h3 sh) {Fo:List SV}{no:Int}{Fs:List SV}{ns w':Int}(e1:Fo=cellsO os) (e2:no=ilen os) (e3:Fs=cellsS ss) (e4:ns=ilen ss) (e5:w'=w):
  lit (.ag (lnK Fo no X.tm [] 0 [] 0 X.se X.re X.ow Fs ns w' X.H X.sh))=lnQ os se re ow ss w h3 sh:=by
 subst e1 e2 e3 e4 e5;unfold lnK;rw[h.tm,h.se,h.re,h.ow,h.h0,h.h1,h.h2,h.h3,h.h4,h.h5,h.h6,h.h7,h.sh];rfl
theorem is_n (h:Is X os se re ow ss w h3 sh) (g:GdL X):LnN X.os X.tr X.zs X.ss (cellsO X.os) (ilen X.os) [] 0 [] 0 (cellsS X.ss) (ilen X.ss):=by
 have h1:=g.on;have h2:=g.ss.len;have h3:ilen X.os<=129:=by split at h1<;>omega
 refine⟨rfl,rfl,by omega,λo ho=>(g.os o ho).1,by rw[h.tr];rfl,by rw[h.tr];rfl,by decide,by rw[h.tr];decide,by rw[h.zs];rfl,by rw[h.zs];rfl,by decide,rfl,rfl,by omega,λs hs=>(g.ss.ok s hs).1⟩
end
section
variable {S:Sy}{bl:List Blk}{K:SV->List Blk->Prop}{X:Ln}{os os':List Ot}{se re ow se' re' ow':Int}{ss ss':List St}{w h3 w' h3':Int}{sh sh' t:Bool}
theorem qzamg (hS:S0 Tryz.prog=S) {b:List Int}{k fl st m:Int}(h:Is X os se re ow ss w h3 sh) (g:GdL X) (hwt:∀ o∈X.os,WtP o) (hgo:∀ o∈X.os,GoP o) (h':Is (stepL X 16384 2).1 os' se' re' ow' ss' w' h3' sh')
  (ht:(stepL X 16384 2).2.1=b/\(stepL X 16384 2).2.2.1.k=k/\(stepL X 16384 2).2.2.1.fl=fl/\(stepL X 16384 2).2.2.1.st=st/\(stepL X 16384 2).2.2.1.many=m/\(stepL X 16384 2).2.2.2=t)
  (hK:K (.tp [lnQ os' se' re' ow' ss' w' h3' sh',.v true 1 (litL (cellsB b)) (.l (ilen b)),.ag [.i .u8 (.l k),.i .u8 (.l fl),.i .i64 (.l st),.i .i64 (.l m)],Cz.ofB t]) bl):
  S.call 13 [lnQ os se re ow ss w h3 sh,.i .i64 (.l 16384),.i .i64 (.l 2)] bl K:=by
 have g':=(qzauw (most:=16384) (cut:=2) g).1;obtain⟨⟨X',b',⟨gk,gf,gs,gm⟩,t'⟩,hr⟩:∃ r,stepL X 16384 2=r:=⟨_,rfl⟩;rw[hr] at h' ht g';obtain⟨e1,e2,e3,e4,e5,e6⟩:=ht;dsimp only at e1 e2 e3 e4 e5 e6 h' g';subst e1 e2 e3 e4 e5 e6;have e:=step_f (X:=X) (is_n h g) g rfl hwt hgo dtp (most:=16384) (cut:=2) ⟨by decide,by decide⟩ ⟨by decide,by decide⟩ hr (is_n h' g') rfl rfl rfl;refine qpv hS e ?_ rfl ?_ hK
 ·show SubL _ [lit _,lit _,lit _]
  rw[qfg h (by rw[h.os]) (by rw[h.os]) (by rw[h.ss]) (by rw[h.ss]) h.w];exact .rfl
 ·show SV.tp [lit _,lit _,lit _,lit _]=_
  rw[qfg h' (by rw[h'.os]) (by rw[h'.os]) (by rw[h'.ss]) (by rw[h'.ss]) h'.w];rfl
theorem wk_got (hS:S0 Tryz.prog=S) {n:Int}(hb:Big n) (h:Is X os se re ow ss w h3 sh) (g:GdL X) (hwt:∀ o∈X.os,WtP o) (h':Is (gotL X n).1 os se' re' ow' ss w h3' sh') (ht:(gotL X n).2=t) (hK:K (.tp [lnQ os se' re' ow' ss w h3' sh',Cz.ofB t]) bl):
  S.call 18 [lnQ os se re ow ss w h3 sh,.i .i64 (.l n)] bl K:=by
 obtain⟨⟨X',t'⟩,hr⟩:∃ r,gotL X n=r:=⟨_,rfl⟩;rw[hr] at h' ht;dsimp only at h' ht;subst ht;have e:=got_f (X:=X) (is_n h g) g rfl hwt hb hr;refine qpv hS e ?_ rfl ?_ hK
 ·show SubL _ [lit _,lit _]
  rw[qfg h (by rw[h.os]) (by rw[h.os]) (by rw[h.ss]) (by rw[h.ss]) h.w];exact .rfl
 ·show SV.tp [lit _,lit _]=_
  rw[qfg h' (by rw[h.os]) (by rw[h.os]) (by rw[h.ss]) (by rw[h.ss]) h.w];rfl
theorem wk_give (hS:S0 Tryz.prog=S) {n:Int}(hb:Big n) (h:Is X os se re ow ss w h3 sh) (g:GdL X) (hwt:∀ o∈X.os,WtP o) (h':Is (giveL X n).1 os se' re' ow' ss w' h3' sh') (ht:(giveL X n).2=t) (hK:K (.tp [lnQ os se' re' ow' ss w' h3' sh',Cz.ofB t]) bl):
  S.call 33 [lnQ os se re ow ss w h3 sh,.i .i64 (.l n)] bl K:=by
 obtain⟨⟨X',t'⟩,hr⟩:∃ r,giveL X n=r:=⟨_,rfl⟩;rw[hr] at h' ht;dsimp only at h' ht;subst ht;have e:=give_f' (X:=X) (is_n h g) g rfl hwt hb hr rfl;refine qpv hS e ?_ rfl ?_ hK
 ·show SubL _ [lit _,lit _]
  rw[qfg h (by rw[h.os]) (by rw[h.os]) (by rw[h.ss]) (by rw[h.ss]) h.w];exact .rfl
 ·show SV.tp [lit _,lit _]=_
  rw[qfg h' (by rw[h.os]) (by rw[h.os]) (by rw[h.ss]) (by rw[h.ss]) h'.w];rfl
theorem wk_shift (hS:S0 Tryz.prog=S) {n:Int}(hb:Big n) (h:Is X os se re ow ss w h3 sh) (g:GdL X) (hwt:∀ o∈X.os,WtP o) (h':Is (shiftL X n).1 os se' re' ow' ss' w' h3' sh') (hl:ilen ss=ilen ss') (ht:(shiftL X n).2=t) (hK:K (.tp [lnQ os se' re' ow' ss' w' h3' sh',Cz.ofB t]) bl):
  S.call 34 [lnQ os se re ow ss w h3 sh,.i .i64 (.l n)] bl K:=by
 obtain⟨⟨X',t'⟩,hr⟩:∃ r,shiftL X n=r:=⟨_,rfl⟩;rw[hr] at h' ht;dsimp only at h' ht;subst ht;have e:=lshift_f (X:=X) (is_n h g) g rfl hwt hb hr rfl rfl;refine qpv hS e ?_ rfl ?_ hK
 ·show SubL _ [lit _,lit _]
  rw[qfg h (by rw[h.os]) (by rw[h.os]) (by rw[h.ss]) (by rw[h.ss]) h.w];exact .rfl
 ·show SV.tp [lit _,lit _]=_
  rw[qfg h' (by rw[h.os]) (by rw[h.os]) (by rw[h'.ss]) (by rw[h.ss];exact hl) h'.w];rfl
theorem wk_shut (hS:S0 Tryz.prog=S) {n c:Int}(hb:Big n) (hc:0<=c/\c<=4294967295) (hwx:∀ (bl:List Blk) (K:SV->List Blk->Prop),(0<=n/\n<=2147483647->K .tt bl)->(¬(0<=n/\n<=2147483647)->K .ff bl)->(S0 Tryz.prog).call 37 [.ag (otK ⟨5,n,0,c,[],[],[]⟩ [] 0 [] 0 [] 0)] bl K)
  (h:Is X os se re ow ss w h3 sh) (g:GdL X) (hwt:∀ o∈X.os,WtP o) (h':Is (shutL X n c).1 os' se' re' ow' ss w h3' sh') (ht:(shutL X n c).2=t) (hK:K (.tp [lnQ os' se' re' ow' ss w h3' sh',Cz.ofB t]) bl):
  S.call 22 [lnQ os se re ow ss w h3 sh,.i .i64 (.l n),.i .u32 (.l c)] bl K:=by
 obtain⟨⟨X',t'⟩,hr⟩:∃ r,shutL X n c=r:=⟨_,rfl⟩;rw[hr] at h' ht;dsimp only at h' ht;subst ht;have e:=shut_f (X:=X) (is_n h g) g rfl hwt hb hc hwx hr rfl rfl;refine qpv hS e ?_ rfl ?_ hK
 ·show SubL _ [lit _,lit _,lit _]
  rw[qfg h (by rw[h.os]) (by rw[h.os]) (by rw[h.ss]) (by rw[h.ss]) h.w];exact .rfl
 ·show SV.tp [lit _,lit _]=_
  rw[qfg h' (by rw[h'.os]) (by rw[h'.os]) (by rw[h.ss]) (by rw[h.ss]) h.w];rfl
abbrev wQ:SV:=.ag [.i .u8 (.l 3),.i .i64 (.l 0),.i .i64 (.l 0),.i .u32 (.l 0),.re (.slice none 0 0),.re (.slice none 0 0),.re (.slice none 0 0)]
theorem wQ_sub:SubL [wQ] [lit (.ag (otK wO [] 0 [] 0 [] 0))]:=by
 refine .cons (qja ?_) .nil
 repeat' (first|exact .nil|refine .cons ?_ ?_|exact .rfl|exact qpx (by decide) rfl rfl|fail)
theorem wk_put (hS:S0 Tryz.prog=S) (hc:X.sh=true∨X.os=[]∨X.os=[wO]) (h:Is X os se re ow ss w h3 sh) (g:GdL X) (hwt:∀ o∈X.os,WtP o) (h':Is (putL X wO).1 os' se' re' ow' ss w h3' sh') (ht:(putL X wO).2=t) (hK:K (.tp [lnQ os' se' re' ow' ss w h3' sh',Cz.ofB t]) bl):
  S.call 19 [lnQ os se re ow ss w h3 sh,wQ] bl K:=by
 obtain⟨⟨X',t'⟩,hr⟩:∃ r,putL X wO=r:=⟨_,rfl⟩;rw[hr] at h' ht;dsimp only at h' ht;subst ht;have e:=put_w (X:=X) (is_n h g) g rfl hwt hc hr rfl rfl;refine qpv hS e ?_ rfl ?_ hK
 ·show SubL _ [lit _,lit _]
  rw[qfg h (by rw[h.os]) (by rw[h.os]) (by rw[h.ss]) (by rw[h.ss]) h.w];exact .cons .rfl wQ_sub
 ·show SV.tp [lit _,lit _]=_
  rw[qfg h' (by rw[h'.os]) (by rw[h'.os]) (by rw[h.ss]) (by rw[h.ss]) h.w];rfl
abbrev stQ (s:St):SV:=.ag (litL (stK s (cellsB s.o) (ilen s.o)))
theorem wk_change (hS:S0 Tryz.prog=S) {s:St}{a:SV}(ok:StOk s) (h6:s.st=6) (hq:stB s=true) {i:Nat}(h:Is X [] se re ow ss w h3 sh) (hp:plI X.ss s.id=some i) (g:GdL X) (h':Is (changeL X s).1 os' se' re' ow' ss' w' h3' sh') (ht:(changeL X s).2=t) (ha:SubL [a] [stQ s]) (hK:K (.tp [lnQ os' se' re' ow' ss' w' h3' sh',Cz.ofB t]) bl):
  S.call 35 [lnQ [] se re ow ss w h3 sh,a] bl K:=by
 obtain⟨⟨X',t'⟩,hr⟩:∃ r,changeL X s=r:=⟨_,rfl⟩;rw[hr] at h' ht;dsimp only at h' ht;subst ht;have e:=change_6 (X:=X) (is_n h g) g rfl (λo ho=>by rw[h.os] at ho;cases ho) ok rfl rfl hr rfl rfl rfl rfl rfl h.os h6 hq hp;refine qpv hS e ?_ rfl ?_ hK
 ·show SubL _ [lit _,lit _]
  rw[qfg h (by rw[h.os]) (by rw[h.os]) (by rw[h.ss]) (by rw[h.ss]) h.w];exact .cons .rfl ha
 ·show SV.tp [lit _,lit _]=_
  rw[qfg h' (by rw[h'.os]) (by rw[h'.os]) (by rw[h'.ss]) (by rw[h'.ss]) h'.w];rfl
theorem wk_open (hS:S0 Tryz.prog=S) {s:St}{a:SV}(k:Nat) (ok:StOk s) (h:Is X os se re ow ss w h3 sh) (g:GdL X) (hwt:∀ o∈X.os,WtP o) (h':Is (openL X s).1 os se' re' ow' ss' w' h3' sh') (ht:(openL X s).2=t) (ha:FzL bl id (others [k] (len bl)) [a] [.ag (stK s (cellsB s.o) (ilen s.o))]) (hK:K (.tp [lnQ os se' re' ow' ss' w' h3' sh',Cz.ofB t]) (frzL [k] 0 bl)):
  S.call 30 [lnQ os se re ow ss w h3 sh,a] bl K:=by
 obtain⟨⟨X',t'⟩,hr⟩:∃ r,openL X s=r:=⟨_,rfl⟩;rw[hr] at h' ht;dsimp only at h' ht;subst ht;have e:=lopen_f (X:=X) (is_n h g) g rfl hwt ok rfl rfl hr rfl rfl rfl;refine use_flit hS [k] e ?_ rfl ?_ hK
 ·refine .cons (.sub ?_ (by cases sh<;>rfl)) ha
  rw[<-qfg h (Fo:=cellsO X.os) (no:=ilen X.os) (Fs:=cellsS X.ss) (ns:=ilen X.ss) (w':=wdI X.L) (by rw[h.os]) (by rw[h.os]) (by rw[h.ss]) (by rw[h.ss]) h.w];exact qwk
 ·show SV.tp [lit _,lit _]=_
  rw[qfg h' (by rw[h.os]) (by rw[h.os]) (by rw[h'.ss]) (by rw[h'.ss]) h'.w];rfl
theorem wk_find (hS:S0 Tryz.prog=S) {id r:Int}{s:St}(h:Is X os se re ow ss w h3 sh) (g:GdL X) (hwt:∀ o∈X.os,WtP o) (hr:plR X.ss id=r) (hr0:0<=r) (hs:X.ss[r.toNat]?=some s) (hK:K (.tp [stQ s,.tt]) bl):
  S.call 32 [lnQ os se re ow ss w h3 sh,.i .i64 (.l id)] bl K:=by
 have e:=find_y (X:=X) (is_n h g) g rfl hwt hr hr0 hs (g.ss.ok s (List.mem_of_getElem? hs)).1 rfl rfl;refine qpv hS e ?_ rfl rfl hK;show SubL _ [lit _,lit _];rw[qfg h (by rw[h.os]) (by rw[h.os]) (by rw[h.ss]) (by rw[h.ss]) h.w];exact .rfl
theorem wk_right (hS:S0 Tryz.prog=S) (h:Is X os se re ow ss w h3 sh) (g:GdL X) (hwt:∀ o∈X.os,WtP o) (hK:K .tt bl):
  S.call 36 [lnQ os se re ow ss w h3 sh] bl K:=by
 subst hS;have e:=qlr rfl (is_n h g) g rfl hwt (K:=K) (l:=bl) hK;refine qgp (.cons ?_ .nil) e;rw[<-qfg h (Fo:=cellsO X.os) (no:=ilen X.os) (Fs:=cellsS X.ss) (ns:=ilen X.ss) (w':=wdI X.L) (by rw[h.os]) (by rw[h.os]) (by rw[h.ss]) (by rw[h.ss]) h.w];exact qwk
end
end Wr
end Cz
