/- What the claims of this group lean on: WsS WsT WsU WsW. No condition. -/
import Derived.Test.YtfijlhdheiebcaaGreatDoorKB32
set_option linter.unusedSimpArgs false
set_option linter.unusedVariables false
set_option maxRecDepth 100000
set_option maxHeartbeats 4000000
namespace Cz
open Go Go.RowKit Go.Proofs
namespace Wr
def WtP (o:Ot):Prop:=∀ D dn Q qn Lf ln,OtN o D dn Q qn Lf ln->∀ (bl:List Blk) (K:SV->List Blk->Prop),K .tt bl->(S0 Tryz.prog).call 37 [.ag (otK o D dn Q qn Lf ln)] bl K
section
variable {S:Sy}{l:List Blk}{K:SV->List Blk->Prop}
theorem qio (hS:S0 Tryz.prog=S) (p k1 k2:Nat) {cs:List SV}{lit1 lit2:Bool}{z1 z2:Z}{ss sx:List St}{off no tm:Int}{Fr:List SV}{nr:Int}{Fz:List SV}{nz se re ow:Int}{Fs:List SV}{ns w w':Int}{H H':Nat->Int}{sh:Bool}{L L':List (Int×Int)}{Fo:List SV}
  (hp:lget l p=.c cs) (h1:lget l k1=.r false lit1 z1 7 Fo) (h2:lget l k2=.r false lit2 z2 11 Fs) (hne:nodupN [p,k1,k2]=true) (hc:SubL cs (bxK k1 k2 off no tm Fr nr Fz nz se re ow ns w H sh))
  (hg:GdS ss) (hF:cellsS sx=Fs) (hpre:∃ ex,sx=ss++ex) (hn:ns=ilen ss) (hbw:Big se) (hR:GoodR L H) (hw:w=wdI L) (hset:settleR (L,H) (want ss se)=(L',H')) (hw':w'=wdI L') (hfo:plains Fo=true)
  (hK:K .any (lays (fOf [p,k1,k2]) 3 0 [.c (bxK k1 k2 off no tm Fr nr Fz nz se re ow ns w' H' sh),.r false false (.y z1.v) 7 Fo,.r false false (.y z2.v) 11 Fs] l)):
  S.call 69 [.p p 0] l K:=by
 refine quk hS [p,k1,k2] (settle_f (st1:=z1.v) (st2:=z2.v) (off:=off) (no:=no) (tm:=tm) (Fr:=Fr) (nr:=nr) (Fz:=Fz) (nz:=nz) (re:=re) (ow:=ow) (sh:=sh) hg hF hpre hn hbw hR hw hset hw' hfo) rfl hne .rfl ⟨?_,?_,?_,trivial⟩ rfl λsts=>hK
 ·show BUp 3 (fOf [p,k1,k2]) (lget l p) _
  rw[hp];exact .c hc rfl
 ·show BUp 3 (fOf [p,k1,k2]) (lget l k1) _
  rw[h1];exact .r .rfl hfo rfl
 ·show BUp 3 (fOf [p,k1,k2]) (lget l k2) _
  rw[h2];exact .r .rfl (hF▸qak _) rfl
theorem qlr (hS:S0 Tryz.prog=S) {X:Ln}{Fo:List SV}{no:Int}{Fr:List SV}{nr:Int}{Fz:List SV}{nz:Int}{Fs:List SV}{ns w:Int}(hn:LnN X.os X.tr X.zs X.ss Fo no Fr nr Fz nz Fs ns) (hg:GdL X) (hw:w=wdI X.L) (hwt:∀ o∈X.os,WtP o) (hK:K .tt l):
  S.call 36 [.ag (lnK Fo no X.tm Fr nr Fz nz X.se X.re X.ow Fs ns w X.H X.sh)] l K:=by
 subst hS;exact qai (qzave (tm:=X.tm) (se:=X.se) (re:=X.re) (ow:=X.ow) (H:=X.H) (sh:=X.sh) (L:=X.L) hn hg hw hwt) rfl rfl hK
end
theorem LnN.eq {os:List Ot}{tr:List Tb.Fd}{zs:List Int}{ss:List St}{Fo Fo':List SV}{no no':Int}{Fr Fr':List SV}{nr nr':Int}{Fz Fz':List SV}{nz nz':Int}{Fs Fs':List SV}{ns ns':Int}(h:LnN os tr zs ss Fo no Fr nr Fz nz Fs ns) (h':LnN os tr zs ss Fo' no' Fr' nr' Fz' nz' Fs' ns'):
  Fo'=Fo/\no'=no/\Fr'=Fr/\nr'=nr/\Fz'=Fz/\nz'=nz/\Fs'=Fs/\ns'=ns:=
 ⟨h'.o.symm.trans h.o,h'.on.trans h.on.symm,h'.r.symm.trans h.r,h'.rn.trans h.rn.symm,h'.z.symm.trans h.z,h'.zn.trans h.zn.symm,h'.s.symm.trans h.s,h'.sn.trans h.sn.symm⟩
theorem LnN.lo {os:List Ot}{tr:List Tb.Fd}{zs:List Int}{ss:List St}{Fo:List SV}{no:Int}{Fr:List SV}{nr:Int}{Fz:List SV}{nz:Int}{Fs:List SV}{ns:Int}(h:LnN os tr zs ss Fo no Fr nr Fz nz Fs ns):plains Fo=true/\ilen Fo=no*7/\0<=no/\plains Fs=true/\ilen Fs=ns*11/\0<=ns:=by
 refine⟨h.o▸qdr _,?_,by rw[h.on];exact qaj _,h.s▸qak _,?_,by rw[h.sn];exact qaj _⟩
 ·rw[<-h.o,h.on];have:=qzabd os;unfold ilen;omega
 ·rw[<-h.s,h.sn];have:=qcq ss;unfold ilen;omega
theorem qdn {l':List Blk}{k:Nat}{lit:Bool}{st:Z}{F:List SV}{n:Int}(h1:plains F=true) (h2:ilen F=n*7) (hB:l'[k]?=some (.r false lit st 7 F)) (g:Nat->Nat):Fz l' g [] (.sl k 7 (.l 0) (.y n) none) (.v false 7 F (.y n)):=
 qdc (n:=.y n) hB rfl h1 rfl h2 g
theorem qbz {l':List Blk}{k:Nat}{lit:Bool}{st:Z}{F:List SV}{n:Int}(h1:plains F=true) (h2:ilen F=n*11) (hB:l'[k]?=some (.r false lit st 11 F)) (g:Nat->Nat):Fz l' g [] (.sl k 11 (.l 0) (.y n) none) (.v false 11 F (.y n)):=
 qdc (n:=.y n) hB rfl h1 rfl h2 g
theorem got_f {X X':Ln}{n:Int}{t:Bool}{Fo:List SV}{no:Int}{Fr:List SV}{nr:Int}{Fz:List SV}{nz:Int}{Fs:List SV}{ns w:Int}(hn:LnN X.os X.tr X.zs X.ss Fo no Fr nr Fz nz Fs ns) (hg:GdL X) (hw:w=wdI X.L) (hwt:∀ o∈X.os,WtP o) (hb:Big n) (hr:gotL X n=(X',t)):
  (S0 Tryz.prog).call 18 [.ag (lnK Fo no X.tm Fr nr Fz nz X.se X.re X.ow Fs ns w X.H X.sh),.i .i64 (.y n)] [] (Tell (.tp [.ag (lnK Fo no X'.tm Fr nr Fz nz X'.se X'.re X'.ow Fs ns w X'.H X'.sh),.b t])):=by
 obtain⟨f1,f2,f3,f4,f5,f6⟩:=hn.lo;have hrt:∀ (bl:List Blk) (K:SV->List Blk->Prop),K .tt bl->(S0 Tryz.prog).call 36 [.ag (lnK Fo no X.tm Fr nr Fz nz X.se X.re X.ow Fs ns w X.H X.sh)] bl K:=λbl K h=>qlr rfl hn hg hw hwt h;have hre:=hg.re;have how:=hg.ow;clear hg hwt hw;obtain⟨os,tm,tr,zs,se,re,ow,ss,L,H,sh⟩:=X;unfold gotL at hr;dsimp only at *;unfold lnK at *;generalize hS:S0 Tryz.prog=S at *;by_cases hc:0<=n/\n<=re
 ·rw[if_pos hc] at hr
  cases hr;obtain⟨q,hq⟩:∃ q,min (ow+n) 2147483647=q:=⟨_,rfl⟩;obtain⟨r0,hr0⟩:∃ q,re-n=q:=⟨_,rfl⟩;dsimp only;rw[hq,hr0];refine qaa hS I.qzacv ?_;cbv
  repeat' (first|(refine qac hS ?_ ?_<;>intro h<;>(try cbv)<;>try exact s_ab h)|(refine s_ad hS ?_;intro _ _;try cbv)|(refine s_sb hS ?_;intro _ _;try cbv)|(refine qaa hS I.qav ?_;cbv)|(refine qkk hS (H:=H) hn ?_;intro st;cbv)|(refine hrt _ _ ?_;cbv)|(refine qaa hS I.qud ?_;cbv)|(refine qag hS rfl I.qmo (by decide +kernel) ?_;cbv)|(refine qag hS rfl I.qzz (by decide +kernel) ?_;cbv)|(refine qaa hS I.qby ?_;cbv)|(refine s_mn hS ?_;intro _ _;cbv)|fail)
  all_goals first
   | (exfalso;omega)
   | (intro g;refine .tp ?_;repeat' (first|exact .nil|refine .cons ?_ ?_|refine .ag ?_|exact .sub .rfl rfl|exact qdn f1 f2 rfl g|exact qbz f4 f5 rfl g|(refine .sub (qau ?_) rfl;simp only[Z.v];omega)|exact .sub (qay rfl) rfl))
 ·rw[if_neg hc] at hr
  cases hr;refine qaa hS I.qzacv ?_;cbv
  repeat' (first|(refine qac hS ?_ ?_<;>intro h<;>(try cbv)<;>try exact s_ab h)|(refine qaa hS I.qav ?_;cbv)|(refine qkk hS (H:=H) hn ?_;intro st;cbv)|(refine hrt _ _ ?_;cbv)|(refine qaa hS I.qud ?_;cbv)|(refine qag hS rfl I.qmo (by decide +kernel) ?_;cbv)|(refine qaa hS I.qby ?_;cbv)|fail)
  all_goals first
   | (exfalso;omega)
   | (intro g;refine .tp ?_;repeat' (first|exact .nil|refine .cons ?_ ?_|refine .ag ?_|exact .sub .rfl rfl|exact qdn f1 f2 rfl g|exact qbz f4 f5 rfl g|exact .sub (qao rfl) rfl))
end Wr
end Cz
namespace Cz
open Go Go.RowKit Go.Proofs
namespace Wr
theorem qqb {l':List Blk}{k sz:Nat}{lit:Bool}{st z0 z n:Z}{cap:Option Z}{F G:List SV}(hB:l'[k]?=some (.r false lit st sz G)) (hG:(G.drop (z0.v.toNat*sz)).take (z.v.toNat*sz)=F) (hp:plains F=true) (hz:z.v=n.v) (g:Nat->Nat):Fz l' g [] (.sl k sz z0 z cap) (.v false sz F n):=by
 refine .row hB rfl (.fsub ?_ hp) hp hz;rw[hG];exact .rfl
theorem qzacj {F:List SV}{n:Int}{sz:Nat}(hl:ilen F=n*sz):(F.drop ((Z.y 0).v.toNat*sz)).take ((Z.y n).v.toNat*sz)=F:=by
 have e:(Z.y 0).v.toNat*sz=0:=by show (0:Int).toNat*sz=0;simp
 rw[e,List.drop_zero,List.take_of_length_le];unfold ilen at hl
 have:(F.length:Int)<=(n.toNat*sz:Nat):=by
  rw[hl]
  push_cast
  exact Int.mul_le_mul_of_nonneg_right (Int.self_le_toNat _) (by omega)
 show F.length<=n.toNat*sz;omega
theorem give_f' {X X':Ln}{n:Int}{t:Bool}{Fo:List SV}{no:Int}{Fr:List SV}{nr:Int}{Fz:List SV}{nz:Int}{Fs:List SV}{ns w w':Int}(hn:LnN X.os X.tr X.zs X.ss Fo no Fr nr Fz nz Fs ns) (hg:GdL X) (hw:w=wdI X.L) (hwt:∀ o∈X.os,WtP o) (hb:Big n) (hr:giveL X n=(X',t)) (hw':w'=wdI X'.L):
  (S0 Tryz.prog).call 33 [.ag (lnK Fo no X.tm Fr nr Fz nz X.se X.re X.ow Fs ns w X.H X.sh),.i .i64 (.y n)] [] (Tell (.tp [.ag (lnK Fo no X'.tm Fr nr Fz nz X'.se X'.re X'.ow Fs ns w' X'.H X'.sh),.b t])):=by
 obtain⟨f1,f2,f3,f4,f5,f6⟩:=hn.lo;have hrt:∀ (bl:List Blk) (K:SV->List Blk->Prop),K .tt bl->(S0 Tryz.prog).call 36 [.ag (lnK Fo no X.tm Fr nr Fz nz X.se X.re X.ow Fs ns w X.H X.sh)] bl K:=λbl K h=>qlr rfl hn hg hw hwt h;have hss:=hg.ss;have hR:=hg.rd.r;have hse:=hg.se;clear hg hwt;obtain⟨os,tm,tr,zs,se,re,ow,ss,L,H,sh⟩:=X;obtain⟨⟨s',q⟩,hm⟩:∃ r,movI se n (givB n)=r:=⟨_,rfl⟩;unfold giveL setL at hr;dsimp only at *;rw[hm] at hr;have hbs':Big s':=by
  unfold movI at hm;split at hm
  ·rename_i h;cases hm;exact qgi h.2.2
  ·cases hm;exact qgi hse
 unfold lnK at *;obtain⟨⟨L1,H1⟩,hset⟩:∃ r,settleR (L,H) (want ss s')=r:=⟨_,rfl⟩;obtain⟨w1,hw1⟩:∃ w,w=wdI L1:=⟨_,rfl⟩;generalize hS:S0 Tryz.prog=S at *;cases q with
 | true=>
  rw[if_pos rfl] at hr;dsimp only at hr;rw[hset] at hr;cases hr;have hww:w'=w1:=hw'.trans hw1.symm;subst hww;dsimp only;refine qaa hS I.qyf ?_;cbv
  repeat' (first|(refine qac hS ?_ ?_<;>intro h<;>(try cbv)<;>try exact s_ab h)|(refine qaa hS I.qav ?_;cbv)|(refine qkk hS (H:=H) hn ?_;intro st;cbv)|(refine hrt _ _ ?_;cbv)|(refine qaa hS I.qqt ?_;cbv)|(refine qag hS rfl I.qky (by decide +kernel) ?_;cbv)|(refine give_u hS s' true (qgi hse) hb hm ?_;cbv)|(refine qio hS 7 5 6 (off:=0) (H:=H) (H':=H1) (ss:=ss) (sx:=ss) rfl rfl rfl rfl s_qA hss hn.s ⟨[],by simp⟩ hn.sn hbs' hR hw hset hw1 f1 ?_;cbv)|fail)
  all_goals first
   | (intro g;refine .tp ?_;repeat' (first|exact .nil|refine .cons ?_ ?_|refine .ag ?_|exact .sub .rfl rfl|exact qdn f1 f2 rfl g|exact qqb (n:=.y no) rfl (qzacj f2) f1 rfl g|exact qbz f4 f5 rfl g|(refine .sub (qau ?_) rfl;simp only[Z.v];omega)|exact .sub (qay rfl) rfl))
 | false=>
  rw[if_neg (by exact Bool.false_ne_true)] at hr;cases hr;have hww:w'=w:=hw'.trans hw.symm;subst hww;refine qaa hS I.qyf ?_;cbv
  repeat' (first|(refine qac hS ?_ ?_<;>intro h<;>(try cbv)<;>try exact s_ab h)|(refine qaa hS I.qav ?_;cbv)|(refine qkk hS (H:=H) hn ?_;intro st;cbv)|(refine hrt _ _ ?_;cbv)|(refine qaa hS I.qqt ?_;cbv)|(refine qag hS rfl I.qky (by decide +kernel) ?_;cbv)|(refine give_u hS s' false (qgi hse) hb hm ?_;cbv)|(refine qio hS 7 5 6 (off:=0) (H:=H) (H':=H1) (ss:=ss) (sx:=ss) rfl rfl rfl rfl s_qA hss hn.s ⟨[],by simp⟩ hn.sn hbs' hR hw hset hw1 f1 ?_;cbv)|fail)
  all_goals first
   | (intro g;refine .tp ?_;repeat' (first|exact .nil|refine .cons ?_ ?_|refine .ag ?_|exact .sub .rfl rfl|exact qdn f1 f2 rfl g|exact qqb (n:=.y no) rfl (qzacj f2) f1 rfl g|exact qbz f4 f5 rfl g|exact .sub (qao rfl) rfl))
end Wr
end Cz
namespace Cz
open Go Go.RowKit Go.Proofs
namespace Wr
theorem s_sN {n c:Int}:SubL [.i .u8 (.l 5),.i .i64 (.y n),.i .i64 (.l 0),.i .u32 (.y c),.re (.slice none 0 0),.re (.slice none 0 0),.re (.slice none 0 0)] [.i .u8 (.y 5),.i .i64 (.y n),.i .i64 (.y 0),.i .u32 (.y c),.v false 1 [] (.y 0),.v false 2 [] (.y 0),.v false 2 [] (.y 0)]:=
 .cons (qau rfl) (.cons .rfl (.cons (qau rfl) (.cons .rfl (.cons (qpx (by decide) rfl rfl) (.cons (qpx (by decide) rfl rfl) (.cons (qpx (by decide) rfl rfl) .nil))))))
theorem qzanp:∀ {l:List Blk}{k:Nat}{B B':Blk},lget l k=B->SubB B B'->LessL l (lset l k B')
 | [],_,_,_,_,_=>trivial
 | x::l,0,_,_,h,h2=>by
  subst h;refine⟨h2,?_⟩;clear h2
  induction l with
  | nil=>trivial
  | cons y l ih=>exact⟨.rfl,ih⟩
 | x::l,k+1,_,_,h,h2=>⟨.rfl,qzanp (l:=l) (k:=k) h h2⟩
theorem s_setc {P:Program}{S:Sy}{l:List Blk}{g:FuncId}{args:List SV}{K:SV->List Blk->Prop}(hS:S0 P=S) (k:Nat) {cs cs':List SV}(h:lget l k=.c cs) (hs:SubL cs cs') (hK:S.call g args (lset l k (.c cs')) K):S.call g args l K:=
 s_less hS (qzanp h (.c hs)) hK
theorem qfu (os:List Ot) (o:Ot):cellsO (os++[o])=cellsO os++otC o:=by
 unfold cellsO;rw[List.flatMap_append]
 simp
theorem shut_f {X X':Ln}{n c:Int}{t:Bool}{Fo Fo':List SV}{no no':Int}{Fr:List SV}{nr:Int}{Fz:List SV}{nz:Int}{Fs:List SV}{ns w:Int}(hn:LnN X.os X.tr X.zs X.ss Fo no Fr nr Fz nz Fs ns) (hg:GdL X) (hw:w=wdI X.L) (hwt:∀ o∈X.os,WtP o) (hb:Big n) (hc:0<=c/\c<=4294967295)
  (hwx:∀ (bl:List Blk) (K:SV->List Blk->Prop),(0<=n/\n<=2147483647->K .tt bl)->(¬(0<=n/\n<=2147483647)->K .ff bl)->(S0 Tryz.prog).call 37 [.ag (otK ⟨5,n,0,c,[],[],[]⟩ [] 0 [] 0 [] 0)] bl K)
  (hr:shutL X n c=(X',t)) (ho:cellsO X'.os=Fo') (hno:no'=ilen X'.os):
  (S0 Tryz.prog).call 22 [.ag (lnK Fo no X.tm Fr nr Fz nz X.se X.re X.ow Fs ns w X.H X.sh),.i .i64 (.y n),.i .u32 (.y c)] [] (Tell (.tp [.ag (lnK Fo' no' X'.tm Fr nr Fz nz X'.se X'.re X'.ow Fs ns w X'.H X'.sh),.b t])):=by
 obtain⟨f1,f2,f3,f4,f5,f6⟩:=hn.lo;have hrt:∀ (bl:List Blk) (K:SV->List Blk->Prop),K .tt bl->(S0 Tryz.prog).call 36 [.ag (lnK Fo no X.tm Fr nr Fz nz X.se X.re X.ow Fs ns w X.H X.sh)] bl K:=λbl K h=>qlr rfl hn hg hw hwt h;have hno1:=hg.on;have hon:=hn.on;have hoo:=hn.o;clear hg hwt hw;obtain⟨os,tm,tr,zs,se,re,ow,ss,L,H,sh⟩:=X;unfold shutL at hr;dsimp only at *;unfold lnK at *;unfold otK at hwx;dsimp only at hwx;cases sh with
 | true=>
  rw[if_pos (.inl rfl)] at hr;cases hr;dsimp only at ho hno ⊢;have e1:Fo'=Fo:=by rw[<-ho,hoo]
  have e2:no'=no:=by rw[hno,hon]
  subst e1 e2;generalize hS:S0 Tryz.prog=S at *;refine qaa hS I.qoe ?_;cbv
  repeat' (first|(refine qac hS ?_ ?_<;>intro h<;>(try cbv)<;>try exact s_ab h)|(refine s_setc hS 2 (cs':=[.i .u8 (.y 5),.i .i64 (.y n),.i .i64 (.y 0),.i .u32 (.y c),.v false 1 [] (.y 0),.v false 2 [] (.y 0),.v false 2 [] (.y 0)]) rfl s_sN ?_;refine qaa hS I.qav ?_;cbv)|(refine qkk hS (H:=H) hn ?_;intro st;cbv)|(refine hrt _ _ ?_;cbv)|(refine qaa hS I.qjv ?_;cbv)|fail)
  all_goals first
   | (intro g;refine .tp ?_;repeat' (first|exact .nil|refine .cons ?_ ?_|refine .ag ?_|exact .sub .rfl rfl|exact qdn f1 f2 rfl g|exact qbz f4 f5 rfl g|exact .sub (qay rfl) rfl|exact .sub (qao rfl) rfl))
 | false=>
  by_cases hcn:0<=n/\n<=2147483647
  ·rw[if_neg (by rintro (h|h);exact absurd h (by decide);exact h hcn)] at hr
   cases hr
   replace hwx:=λbl K h=>hwx bl K (λ_=>h) (λh'=>absurd hcn h')
   dsimp only at ho hno ⊢;rw[qfu] at ho;have hno':no'=no+1:=by rw[hno,hon];unfold ilen;rw[List.length_append];simp
   have hno2:no<=128:=by rw[hon];exact hno1
   have ho2:Fo++[.i .u8 (.y 5),.i .i64 (.y n),.i .i64 (.y 0),.i .u32 (.y c),.v false 1 [] (.y 0),.v false 2 [] (.y 0),.v false 2 [] (.y 0)]=Fo':=by rw[<-hoo,<-ho];rfl
   clear ho hno hoo hno1;generalize hS:S0 Tryz.prog=S at *;refine qaa hS I.qoe ?_;cbv
   repeat' (first|(refine s_ck hS ?_;try cbv)|(refine qac hS ?_ ?_<;>intro h<;>(try cbv)<;>try exact s_ab h)|(refine s_setc hS 2 (cs':=[.i .u8 (.y 5),.i .i64 (.y n),.i .i64 (.y 0),.i .u32 (.y c),.v false 1 [] (.y 0),.v false 2 [] (.y 0),.v false 2 [] (.y 0)]) rfl s_sN ?_;refine qaa hS I.qav ?_;cbv)|(refine qkk hS (H:=H) hn ?_;intro st;cbv)|(refine hrt _ _ ?_;cbv)|(refine qaa hS I.qjv ?_;cbv)|(refine qag hS rfl I.qwx (by decide +kernel) ?_;cbv)|(refine hwx _ _ ?_;cbv)|fail)
   have e1:S.app Fo [.i .u8 (.y 5),.i .i64 (.y n),.i .i64 (.y 0),.i .u32 (.y c),.v false 1 [] (.y 0),.v false 2 [] (.y 0),.v false 2 [] (.y 0)]=Fo':=by subst hS;rw[qfv];exact ho2
   have e2:S.pl no (Int.ofNat 1)=no':=by subst hS;rw[hno'];rfl
   have g1:plains Fo'=true:=by rw[<-ho2];exact qfa f1 rfl
   have g2:ilen Fo'=no'*7:=by rw[<-ho2,hno'];unfold ilen at *;rw[List.length_append,Int.natCast_add,f2];simp;omega
   all_goals (try clear h)
   all_goals first
    | (intro g;refine .tp ?_;repeat' (first|exact .nil|refine .cons ?_ ?_|refine .ag ?_|exact .sub .rfl rfl|exact qdc (n:=.y no') (z:=.y (S.pl no (Int.ofNat 1))) rfl e1 g1 e2 g2 g|exact qbz f4 f5 rfl g|exact .sub (qay rfl) rfl))
  ·rw[if_pos (.inr hcn)] at hr
   cases hr
   replace hwx:=λbl K h=>hwx bl K (λh'=>absurd h' hcn) (λ_=>h)
   dsimp only at ho hno ⊢;have e1:Fo'=Fo:=by rw[<-ho,hoo]
   have e2:no'=no:=by rw[hno,hon]
   subst e1 e2;generalize hS:S0 Tryz.prog=S at *;refine qaa hS I.qoe ?_;cbv
   repeat' (first|(refine qac hS ?_ ?_<;>intro h<;>(try cbv)<;>try exact s_ab h)|(refine s_setc hS 2 (cs':=[.i .u8 (.y 5),.i .i64 (.y n),.i .i64 (.y 0),.i .u32 (.y c),.v false 1 [] (.y 0),.v false 2 [] (.y 0),.v false 2 [] (.y 0)]) rfl s_sN ?_;refine qaa hS I.qav ?_;cbv)|(refine qkk hS (H:=H) hn ?_;intro st;cbv)|(refine hrt _ _ ?_;cbv)|(refine qaa hS I.qjv ?_;cbv)|(refine hwx _ _ ?_;cbv)|fail)
   all_goals first
    | (intro g;refine .tp ?_;repeat' (first|exact .nil|refine .cons ?_ ?_|refine .ag ?_|exact .sub .rfl rfl|exact qdn f1 f2 rfl g|exact qbz f4 f5 rfl g|exact .sub (qay rfl) rfl|exact .sub (qao rfl) rfl))
end Wr
end Cz
namespace Cz
open Go Go.RowKit Go.Proofs
namespace Wr
theorem qwo (ws cs:List SV) (o:Nat) (h:o+ws.length<=cs.length):repl cs o ws=cs.take o++ws++cs.drop (o+ws.length):=by
 refine List.ext_getElem? λq=>?_;rw[qwp ws cs o q h,List.append_assoc];have hl:(cs.take o).length=o:=by rw[List.length_take];omega
 rcases Nat.lt_or_ge q o with h1|h1
 ·rw[if_neg (by omega),List.getElem?_append_left (by omega),List.getElem?_take_of_lt h1]
 ·rw[List.getElem?_append_right (by omega),hl]
  rcases Nat.lt_or_ge q (o+ws.length) with h2|h2
  ·rw[if_pos ⟨h1,h2⟩,List.getElem?_append_left (by omega)]
  ·rw[if_neg (by omega),List.getElem?_append_right (by omega),List.getElem?_drop]
   congr 1;omega
theorem qyp {α:Type}{enc:α->List SV}{m:Nat}(he:∀ a,(enc a).length=m):∀ l:List α,(l.flatMap enc).length=l.length*m
 | []=>by simp
 | a::l=>by rw[List.flatMap_cons,List.length_append,he,qyp he l,List.length_cons,Nat.add_mul];omega
theorem del_cells {α:Type}{enc:α->List SV}{m:Nat}(he:∀ a,(enc a).length=m) (l:List α) (i:Nat) (hi:i<l.length) (Z:List SV) (hZ:Z.length=m):
  repl (repl (l.flatMap enc) (i*m) (((l.flatMap enc).drop ((i+1)*m)).take ((l.length-(i+1))*m))) ((l.length-1)*m) Z=(l.eraseIdx i).flatMap enc++Z:=by
 obtain⟨A,a,B,rfl,hA⟩:∃ A a B,l=A++a::B/\A.length=i:=⟨l.take i,l[i],l.drop (i+1),by rw[List.getElem_cons_drop hi,List.take_append_drop],by rw[List.length_take];omega⟩;subst hA;have eE:(A++a::B).eraseIdx A.length=A++B:=by rw[List.eraseIdx_append_of_length_le (Nat.le_refl _)];simp
 have lA:=qyp he A;have lB:=qyp he B;have la:=he a;have hlen:(A++a::B).length-(A.length+1)=B.length:=by simp;omega
 have hl2:(A++a::B).length-1=A.length+B.length:=by simp
 rw[eE,hlen,hl2,List.flatMap_append,List.flatMap_append,List.flatMap_cons];have e1:(List.flatMap enc A++(enc a++List.flatMap enc B)).drop ((A.length+1)*m)=List.flatMap enc B:=by
  rw[<-List.append_assoc,List.drop_append_of_le_length (by rw[List.length_append];rw[Nat.add_mul];omega),List.drop_of_length_le (by rw[List.length_append];rw[Nat.add_mul];omega)];rfl
 rw[e1,List.take_of_length_le (by omega)];have hm1:(A.length+B.length)*m=A.length*m+B.length*m:=Nat.add_mul ..;have e2:repl (List.flatMap enc A++(enc a++List.flatMap enc B)) (A.length*m) (List.flatMap enc B)=List.flatMap enc A++List.flatMap enc B++(List.flatMap enc A++(enc a++List.flatMap enc B)).drop (A.length*m+(List.flatMap enc B).length):=by
  rw[qwo _ _ _ (by simp only[List.length_append];omega),List.take_append_of_le_length (by omega),List.take_of_length_le (by omega)]
 rw[e2];generalize hR:(List.flatMap enc A++(enc a++List.flatMap enc B)).drop (A.length*m+(List.flatMap enc B).length)=R;have lR:R.length=m:=by rw[<-hR,List.length_drop];simp only[List.length_append];omega
 rw[qwo _ _ _ (by simp only[List.length_append];omega),List.take_append_of_le_length (by rw[List.length_append];omega),List.take_of_length_le (by rw[List.length_append];omega),List.drop_of_length_le (by simp only[List.length_append];omega),List.append_nil]
section
variable {P:Program}{S:Sy}{l:List Blk}{K:SV->List Blk->Prop}
theorem s_room (hS:S0 P=S) {g:FuncId}{k sz:Nat}{n:Int}{rest:List SV}(hn:1<=n) (h:∀ c:Int,c=-1-n->S.call g (.sl k sz (.l 0) (.y n) (some (.y c))::rest) l K):S.call g (.sl k sz (.l 0) (.y n) none::rest) l K:=by
 subst hS;intro N W0 ρ W vals hR hd;refine h _ rfl N W0 ρ W vals hR ?_;cases hv:vals.toList with
 | nil=>rw[hv] at hd;simp [denL] at hd
 | cons v vs=>
  rw[hv] at hd;obtain⟨h1,h2⟩:=hd;refine⟨?_,h2⟩;simp only[den] at h1 ⊢;obtain⟨g0,g1,vw,hvw,hin,hs⟩:=h1;refine⟨g0,g1,vw,hvw,hin,?_⟩;simp only[Z.v,Int.toNat_zero,Nat.zero_add,Option.map_none] at hin hs;simp only[Z.v,Int.toNat_zero,Option.map_some];unfold SlVal at hs ⊢;cases hb:vw.base with
  | none=>rw[hb] at hs;exact absurd hs.2.1 (by omega)
  | some ad=>
   rw[hb] at hs;rcases hs with ⟨c,e,q1,q2,q3⟩|⟨q1,_⟩
   ·refine .inl ⟨c,e,q1,q2,.inr ⟨?_,q3,?_,?_⟩⟩
    ·show -1-n<0;omega
    ·show -1-(-1-n)<=(c:Int);omega
    ·show (0+(-1-(-1-n)).toNat)*sz<=vw.n
     rw[show (-1-(-1-n)).toNat=n.toNat by omega];rw[Nat.zero_add];exact hin
   ·omega
theorem sub_room {k sz:Nat}{off len c:Z}(hc:c.v<0):Sub (.sl k sz off len (some c)) (.sl k sz off len none):=
 ⟨λρ v d=>by
  simp only[den] at d ⊢;obtain⟨g0,g1,vw,hvw,hin,hs⟩:=d;refine⟨g0,g1,vw,hvw,hin,?_⟩;unfold SlVal at hs ⊢;cases hb:vw.base with
  | none=>rw[hb] at hs;exact⟨⟨hs.1.1,λm h=>by cases h⟩,hs.2⟩
  | some ad=>
   rw[hb] at hs;simp only[Option.map_some,Option.map_none] at hs ⊢;rcases hs with ⟨c',e,q1,q2,q3⟩|⟨q1,q2,q3⟩
   ·rcases q3 with q3|⟨_,q3,_⟩
    ·exact absurd q3 (by omega)
    ·exact .inl ⟨c',e,q1,q2,q3⟩
   ·exact .inr ⟨q1,q2,λm h=>by cases h⟩⟩
end
theorem qzafe {A B C D:List SV}(h1:FSub A B) (h2:FSub C D):FSub (A++C) (B++D):=by
 refine⟨by rw[List.length_append,List.length_append,h1.1,h2.1],λq x hq=>?_⟩;rcases Nat.lt_or_ge q B.length with h|h
 ·rw[List.getElem?_append_left h] at hq
  rw[List.getElem?_append_left (by rw[h1.1];exact h)];exact h1.2 q x hq
 ·rw[List.getElem?_append_right h] at hq
  rw[List.getElem?_append_right (by rw[h1.1];exact h),h1.1];exact h2.2 _ x hq
theorem qyb:∀ {A B:List SV},SubL A B->FSub A B
 | _,_,.nil=>.rfl
 | _,_,.cons h r=>by
  have ih:=qyb r;refine⟨by simp only[List.length_cons,ih.1],λq x hq=>?_⟩;cases q with
  | zero=>
   simp only[List.getElem?_cons_zero,Option.some.injEq] at hq ⊢;subst hq;exact⟨_,rfl,h.1⟩
  | succ q=>
   simp only[List.getElem?_cons_succ] at hq ⊢;exact ih.2 q x hq
def zeroS:St:=⟨0,0,0,0,0,false,false,[],0,false,0⟩
theorem del_f {ss:List St}{i j n:Int}{F F':List SV}(hF:cellsS ss=F) (hn:n=ilen ss) (h8:n<=1000) (h0:0<=i) (hi:i<n) (hj:j=i+1) (hF':cellsS (ss.eraseIdx i.toNat++[zeroS])=F'):
  (S0 Tryz.prog).call 141 [.sl 0 11 (.l 0) (.y n) none,.i .i64 (.y i),.i .i64 (.y j)] [.r false false (.y 0) 11 F]
   (PostB 1 (λ_ _=>[.r false false (.y 0) 11 F']) (λg=>.sl (g 0) 11 (.l 0) (.y (n-1)) none)):=by
 have hp:plains F=true:=hF▸qak _;have hl:ilen F=n*11:=by rw[<-hF,hn];have:=qcq ss;unfold ilen;omega
 refine qae (K':=λx l'=>∃ x',Sub x x'/\PostB 1 (λ_ _=>[.r false false (.y 0) 11 F']) (λg=>.sl (g 0) 11 (.l 0) (.y (n-1)) none) x' l') ?_ λx l' hx=>hx;have hp':plains F'=true:=hF'▸qak _;have hcs:repl (repl F (i.toNat*11) ((F.drop (j.toNat*11)).take ((n-j).toNat*11))) ((n-1).toNat*11) [.i .i64 (.l 0),.i .u8 (.l 0),.i .i64 (.l 0),.i .i64 (.l 0),.i .i64 (.l 0),.ff,.ff,.v true 1 [] (.l 0),.i .u8 (.l 0),.ff,.i .i64 (.l 0)]=cellsS (ss.eraseIdx i.toNat)++[.i .i64 (.l 0),.i .u8 (.l 0),.i .i64 (.l 0),.i .i64 (.l 0),.i .i64 (.l 0),.ff,.ff,.v true 1 [] (.l 0),.i .u8 (.l 0),.ff,.i .i64 (.l 0)]:=by
  have hil:i.toNat<ss.length:=by unfold ilen at hn;omega
  have:=del_cells (enc:=stC) (m:=11) (λ_=>rfl) ss i.toNat hil [.i .i64 (.l 0),.i .u8 (.l 0),.i .i64 (.l 0),.i .i64 (.l 0),.i .i64 (.l 0),.ff,.ff,.v true 1 [] (.l 0),.i .u8 (.l 0),.ff,.i .i64 (.l 0)] rfl
  rw[show j.toNat=i.toNat+1 by omega,show (n-j).toNat=ss.length-(i.toNat+1) by unfold ilen at hn;omega,show (n-1).toNat=ss.length-1 by unfold ilen at hn;omega,<-hF];exact this
 have hfs:FSub (repl (repl F (i.toNat*11) ((F.drop (j.toNat*11)).take ((n-j).toNat*11))) ((n-1).toNat*11) [.i .i64 (.l 0),.i .u8 (.l 0),.i .i64 (.l 0),.i .i64 (.l 0),.i .i64 (.l 0),.ff,.ff,.v true 1 [] (.l 0),.i .u8 (.l 0),.ff,.i .i64 (.l 0)]) F':=by
  rw[hcs,<-hF'];unfold cellsS;rw[List.flatMap_append];refine qzafe .rfl (qyb ?_);show SubL _ [.i .i64 (.y 0),.i .u8 (.y 0),.i .i64 (.y 0),.i .i64 (.y 0),.i .i64 (.y 0),.b false,.b false,.v false 1 [] (.y 0),.i .u8 (.y 0),.b false,.i .i64 (.y 0)];exact .cons (qau rfl) (.cons (qau rfl) (.cons (qau rfl) (.cons (qau rfl) (.cons (qau rfl) (.cons (qao rfl) (.cons (qao rfl) (.cons (qzamm rfl rfl) (.cons (qau rfl) (.cons (qao rfl) (.cons (qau rfl) .nil))))))))))
 generalize hS:S0 Tryz.prog=S;refine s_room hS (by omega) λc hc=>?_;refine qaa hS I.qiu ?_;cbv
 repeat' (first|(refine s_ck hS ?_;try cbv)|(refine qac hS ?_ ?_<;>intro h<;>(try cbv)<;>try exact s_ab h)|(refine qag hS rfl I.qgf (by decide +kernel) ?_;cbv)|fail)
 have e1:S.mi n j=n-j:=by subst hS;rfl
 have e2:S.pl i (S.mi n j)=n-1:=by subst hS;show i+(n-j)=n-1;omega
 have e3:S.mi n (S.pl i (S.mi n j))=1:=by rw[e2];subst hS;show n-(n-1)=1;omega
 refine⟨.sl 0 11 (.l 0) (.y (S.pl i (S.mi n j))) none,sub_room (by rw[show (Z.y c).v=c from rfl];omega),[some 0],λ_=>0,λq hq=>(by obtain rfl:q=0:=(by omega);rfl),λg=>⟨⟨⟨_,rfl,rfl,.r ?_ hp' rfl⟩,rfl,trivial⟩,.keep (i:=0) rfl rfl e2⟩⟩;have e4:repS (S.mi n (S.pl i (S.mi n j))).toNat [.i .i64 (.l 0),.i .u8 (.l 0),.i .i64 (.l 0),.i .i64 (.l 0),.i .i64 (.l 0),.ff,.ff,.v true 1 [] (.l 0),.i .u8 (.l 0),.ff,.i .i64 (.l 0)]=[.i .i64 (.l 0),.i .u8 (.l 0),.i .i64 (.l 0),.i .i64 (.l 0),.i .i64 (.l 0),.ff,.ff,.v true 1 [] (.l 0),.i .u8 (.l 0),.ff,.i .i64 (.l 0)]:=by rw[e3];rfl
 have e5:S.sub F j (S.mi n j) 11=(F.drop (j.toNat*11)).take ((n-j).toNat*11):=by rw[e1];subst hS;rfl
 have e6:FSub (repl (repl F (i.toNat*11) (S.sub F j (S.mi n j) 11)) ((S.pl i (S.mi n j)).toNat*11) (repS (S.mi n (S.pl i (S.mi n j))).toNat [.i .i64 (.l 0),.i .u8 (.l 0),.i .i64 (.l 0),.i .i64 (.l 0),.i .i64 (.l 0),.ff,.ff,.v true 1 [] (.l 0),.i .u8 (.l 0),.ff,.i .i64 (.l 0)])) F':=by
  rw[e4,e5,e2];exact hfs
 refine Eq.mp (congrArg (λz=>FSub z F') ?_) e6;cbv
end Wr
end Cz
