/- What the claims of this group lean on: WkC WhC WhD. No condition. -/
import Derived.Test.YtfijlhdheiebcaaGreatDoorKB48
set_option linter.unusedSimpArgs false
set_option linter.unusedVariables false
set_option maxRecDepth 100000
set_option maxHeartbeats 4000000
namespace Cz
open Go Go.RowKit Go.Proofs
namespace Wr
open Fa
theorem noW {X:Ln}(h:X.os=[]):∀ o∈X.os,WtP o:=λo ho=>by rw[h] at ho;cases ho
theorem noG {X:Ln}(h:X.os=[]):∀ o∈X.os,GoP o:=λo ho=>by rw[h] at ho;cases ho
theorem oneW {X:Ln}{o:Ot}(h:X.os=[o]) (hw:WtP o):∀ o∈X.os,WtP o:=λp hp=>by rw[h,List.mem_singleton] at hp;subst hp;exact hw
theorem oneG {X:Ln}{o:Ot}(h:X.os=[o]) (hw:GoP o):∀ o∈X.os,GoP o:=λp hp=>by rw[h,List.mem_singleton] at hp;subst hp;exact hw
theorem wO_g:GoP wO:=goes_w rfl (by decide) ⟨by decide,by decide⟩
theorem oP_p:WtP oP:=λD dn Q qn Lf ln hN bl K h=>by
 obtain⟨h1,h2,h3,h4,h5,h6⟩:=hN;have e1:D=[]:=h1.symm;have e2:dn=0:=h2;have e3:Q=[]:=h3.symm;have e4:qn=0:=h4;have e5:Lf=[]:=h5.symm;have e6:ln=0:=h6;subst e1 e2 e3 e4 e5 e6;have e:=waits_5 (la:=1) (co:=2) (by decide) (by decide) (D:=[]) (Q:=[]) (L:=[]);refine qai (sv:=.tt) (qgp ?_ e) rfl rfl h;unfold otK oP;refine .cons (qja ?_) .nil
 repeat' (first|exact .nil|refine .cons ?_ ?_|exact .rfl|exact qau rfl|exact qzamm rfl rfl|fail)
theorem wk_wx (bl:List Blk) (K:SV->List Blk->Prop) (h1:(0:Int)<=1/\(1:Int)<=2147483647->K .tt bl) (h2:¬((0:Int)<=1/\(1:Int)<=2147483647)->K .ff bl):(S0 Tryz.prog).call 37 [.ag (otK ⟨5,1,0,2,[],[],[]⟩ [] 0 [] 0 [] 0)] bl K:=oP_p [] 0 [] 0 [] 0 ⟨rfl,rfl,rfl,rfl,rfl,rfl⟩ bl K (h1 (by decide))
theorem wk_waits {S:Sy}{bl:List Blk}{K:SV->List Blk->Prop}(hS:S0 Tryz.prog=S) (hK:K .tt bl):S.call 37 [wQ] bl K:=by
 subst hS;exact qgp (qrq wQ_sub (qrp (xs:=[.ag (otK wO [] 0 [] 0 [] 0)]))) (wO_p [] 0 [] 0 [] 0 wO_n bl K hK)
section
variable {S:Sy}{bl:List Blk}{K:SV->List Blk->Prop}{X:Ln}{os:List Ot}{se re ow:Int}{ss:List St}{w h3:Int}{sh:Bool}
theorem wk_own (hS:S0 Tryz.prog=S) (h:Is X os se re ow ss w h3 sh) (g:GdL X)
  (hK:∀ st,K (.ag [.sl (len bl) 7 (.l 0) (.l (ilen os)) none,.i .i64 (.l 4096),.v true 2 [] (.l 0),.v true 1 [] (.l 0),.i .i64 (.l se),.i .i64 (.l re),.i .i64 (.l ow),.sl (len bl+1) 11 (.l 0) (.l (ilen ss)) none,.i .u64 (.l w),.i .i64 (.l (-1)),.i .i64 (.l (-1)),.i .i64 (.l (-1)),.i .i64 (.l h3),.i .i64 (.l (-1)),.i .i64 (.l (-1)),.i .i64 (.l (-1)),.i .i64 (.l (-1)),Cz.ofB sh])
   (litsL (snoc (snoc bl (.r false false (.y st) 7 (cellsO os))) (.r false false (.y 0) 11 (cellsS ss))))):
  S.call 39 [lnQ os se re ow ss w h3 sh] bl K:=by
 subst hS;have e:=qkk (S:=S0 Tryz.prog) (l:=bl) (tm:=X.tm) (se:=X.se) (re:=X.re) (ow:=X.ow) (w:=wdI X.L) (H:=X.H) (sh:=X.sh) rfl (is_n h g) (K:=λx l'=>∃ st,x=.ag [.sl (len bl) 7 (.l 0) (.y (ilen X.os)) none,.i .i64 (.y X.tm),.v false 2 [] (.y 0),.v false 1 [] (.y 0),.i .i64 (.y X.se),.i .i64 (.y X.re),.i .i64 (.y X.ow),.sl (len bl+1) 11 (.l 0) (.y (ilen X.ss)) none,.i .u64 (.y (wdI X.L)),.i .i64 (.y (X.H 0)),.i .i64 (.y (X.H 1)),.i .i64 (.y (X.H 2)),.i .i64 (.y (X.H 3)),.i .i64 (.y (X.H 4)),.i .i64 (.y (X.H 5)),.i .i64 (.y (X.H 6)),.i .i64 (.y (X.H 7)),.b X.sh]/\l'=snoc (snoc bl (.r false false (.y st) 7 (cellsO X.os))) (.r false false (.y 0) 11 (cellsS X.ss))) (λst=>⟨st,rfl,rfl⟩);have e2:=call_lits (K:=K) (qae (K:=λx l'=>∃ st,x=.ag [.sl (len bl) 7 (.l 0) (.l (ilen os)) none,.i .i64 (.l 4096),.v true 2 [] (.l 0),.v true 1 [] (.l 0),.i .i64 (.l se),.i .i64 (.l re),.i .i64 (.l ow),.sl (len bl+1) 11 (.l 0) (.l (ilen ss)) none,.i .u64 (.l w),.i .i64 (.l (-1)),.i .i64 (.l (-1)),.i .i64 (.l (-1)),.i .i64 (.l h3),.i .i64 (.l (-1)),.i .i64 (.l (-1)),.i .i64 (.l (-1)),.i .i64 (.l (-1)),Cz.ofB sh]/\l'=snoc (snoc bl (.r false false (.y st) 7 (cellsO os))) (.r false false (.y 0) 11 (cellsS ss))) e (λx l' ⟨st,e1,e2⟩=>⟨_,by
   rw[e1,h.os,h.tm,h.se,h.re,h.ow,h.ss,h.w,h.h0,h.h1,h.h2,h.h3,h.h4,h.h5,h.h6,h.h7,h.sh];refine qja ?_
   repeat' (first|exact .nil|refine .cons ?_ ?_|exact qau rfl|exact sub_sl rfl rfl|exact qzamm rfl rfl|exact qzafv (x:=.b sh)),st,rfl,by rw[e2,h.os,h.ss]⟩)) (λx l' ⟨st,e1,e2⟩=>by subst e1 e2;exact hK st)
 refine qgp (.cons ?_ .nil) e2;rw[<-qfg h (Fo:=cellsO X.os) (no:=ilen X.os) (Fs:=cellsS X.ss) (ns:=ilen X.ss) (w':=wdI X.L) (by rw[h.os]) (by rw[h.os]) (by rw[h.ss]) (by rw[h.ss]) h.w];exact qwk
end
theorem k1_pl:plI kC.ss k6.id=some 0:=by rw[qob.ss];decide
theorem kC_pl:plR kC.ss 1=0:=by rw[qob.ss];decide
theorem kC_at:kC.ss[(0:Int).toNat]?=some sC:=by rw[qob.ss];rfl
def bsOf:List SV->List UInt8
 | []=>[]
 | .i .u8 (.l n)::r=>UInt8.ofNat n.toNat::bsOf r
 | _::r=>0::bsOf r
def bsChk:List SV->Bool
 | []=>true
 | .i .u8 (.l n)::r=>decide (0<=n/\n<256)&&bsChk r
 | _=>false
theorem bs_get:∀ {F:List SV}{q:Nat}{c:UInt8},bsChk F=true->(bsOf F)[q]?=some c->∃ z:Z,F[q]?=some (.i .u8 z)/\z.v=c.toNat:=by
 intro F
 induction F with
 | nil=>intro q c _ h;simp [bsOf] at h
 | cons x r ih=>
  intro q c hc h;have hx:∃ n:Int,x=.i .u8 (.l n)/\(0<=n/\n<256)/\bsChk r=true:=by
   unfold bsChk at hc;split at hc
   ·rename_i e;cases e
   ·rename_i n r' e
    cases e;rw[Bool.and_eq_true,decide_eq_true_eq] at hc;exact⟨n,rfl,hc.1,hc.2⟩
   ·cases hc
  obtain⟨n,rfl,hn,hr⟩:=hx;cases q with
  | zero=>
   simp only[bsOf,List.getElem?_cons_zero,Option.some.injEq] at h;subst h;refine⟨.l n,rfl,?_⟩;show n=_;simp only[UInt8.toNat_ofNat'];omega
  | succ q=>
   simp only[bsOf,List.getElem?_cons_succ] at h;exact ih hr h
theorem bs_len:∀ (F:List SV),(bsOf F).length=F.length
 | []=>rfl
 | x::r=>by
  cases x
  all_goals (try (simp only[bsOf,List.length_cons,bs_len r];done))
  rename_i k z;cases k<;>cases z<;>simp only[bsOf,List.length_cons,bs_len r]
theorem s_bsK {S:Sy}(hS:S0 Tryz.prog=S) {F:List SV}{n:Int}{K:List UInt8->Prop}(hc:bsChk F=true) (hn:n=ilen F) (h:K (bsOf F)):S.bs F 0 n K:=by
 subst hS hn;refine⟨Int.le_refl _,qaj _,_,⟨by rw[bs_len];unfold ilen;simp,λq c hq=>?_⟩,h⟩;obtain⟨z,h1,h2⟩:=bs_get hc hq;exact⟨z,by rw[show (0:Int).toNat+q=q by simp];exact h1,h2⟩
theorem s_brx {S:Sy}{x y:List UInt8}{k1 k2:Unit->Prop}(hS:S0 Tryz.prog=S) (h:k1 ()) (hd:(x==y)=true:=by decide):S.br (S.scmp .eq x y) k1 k2:=s_br hS (λ_=>h) (λe=>by subst hS;rw[scmp_eq,hd] at e;cases e)
structure VcH (f:VK->Env->List Blk->Prop) (K:VK) (e:Env) (l:List Blk):Prop where
 h:f K e l
theorem s_rgH {S:Sy}{ops:List AO}{vs:List SV}{l:List Blk}{f:VK->Env->List Blk->Prop}{K:VK}{kl mks:List Nat}(h:vrg S ops vs l λvs' l'=>VcH f K ⟨puts vs' kl .any,mks⟩ l'):vrg S ops vs l (rgK (seqK f K) kl mks):=by
 have e:(λvs' l'=>VcH f K ⟨puts vs' kl .any,mks⟩ l')=rgK (seqK f K) kl mks:=funext λ_=>funext λ_=>propext ⟨λh=>h.h,λh=>⟨h⟩⟩;rw[e] at h;exact h
theorem vrg_app {S:Sy}:∀ (a b:List AO) (vs:List SV) (l:List Blk) (K:List SV->List Blk->Prop),vrg S (a++b) vs l K=vrg S a vs l λvs' l'=>vrg S b vs' l' K:=by
 intro a
 induction a with
 | nil=>intros;rfl
 | cons o r ih=>intro b vs l K;simp only[List.cons_append,vrg,ih]
structure VrgH (S:Sy) (ops:List AO) (vs:List SV) (l:List Blk) (K:List SV->List Blk->Prop):Prop where
 h:vrg S ops vs l K
theorem s_vh0 {S:Sy}{vs:List SV}{l:List Blk}{K:List SV->List Blk->Prop}(h:K vs l):VrgH S [] vs l K:=⟨h⟩
theorem s_vh (n:Nat) {S:Sy}{ops:List AO}{vs:List SV}{l:List Blk}{K:List SV->List Blk->Prop}(h:vrg S (ops.take n) vs l λvs' l'=>VrgH S (ops.drop n) vs' l' K):VrgH S ops vs l K:=by
 have e:=(vrg_app (S:=S) (ops.take n) (ops.drop n) vs l K).symm;rw[List.take_append_drop] at e;have e2:(λvs' l'=>VrgH S (ops.drop n) vs' l' K)=λvs' l'=>vrg S (ops.drop n) vs' l' K:=funext λ_=>funext λ_=>propext ⟨λh=>h.h,λh=>⟨h⟩⟩;rw[e2,e] at h;exact⟨h⟩
theorem s_vseq {S:Sy}{cx:Cx}{a b:IR}{K:VK}{e:Env}{l:List Blk}(h:vc S cx a (seqK (vc S cx b) K) e l):vc S cx (.seq a b) K e l:=h
theorem s_vreg {S:Sy}{cx:Cx}{ops:List AO}{kl:List Nat}{K:VK}{e:Env}{l:List Blk}(h:VrgH S ops e.vs l (rgK K kl e.mks)):vc S cx (.reg ops kl) K e l:=h.h
theorem wakes_t:(S0 Tryz.prog).call 9 [] [] (λx _=>Sub x .tt):=by
 generalize hS:S0 Tryz.prog=S;refine qaa hS I.qte ?_;cbv
 skip
 refine qnt hS rfl I.qnn (by decide +kernel) ?_;cbv
 (repeat' (refine And.intro ?_ ?_))<;>cbv
 repeat' (first|(refine use_litv hS new_f .rfl rfl rfl rfl ?_;cbv)|(refine wk_open hS 0 k1_ok kN_is new_gd (noW rfl) kA_is kA_t ?_ ?_;(focus (cbv;refine .cons (.ag ?_) .nil;(repeat' (first|exact .nil|refine .cons ?_ ?_|exact .sub (qau rfl) rfl|exact .sub (qay rfl) rfl|exact .sub (qao rfl) rfl|refine .row rfl rfl ?_ rfl rfl|fail));done));cbv)|fail)
 refine id ?x;rotate_left
 ·exact ?x
 ·exact ?x
 repeat' (first|(refine qzamg hS kA_is gA (noW kA_is.os) (noG kA_is.os) kB_is kB_t ?_;cbv)|(refine qzamg hS kB_is gB (noW kB_is.os) (noG kB_is.os) qob kC_t ?_;cbv)|(refine qzamg hS qob gC (noW qob.os) (noG qob.os) kZ_is kZ_t ?_;cbv)|(refine wk_got hS ⟨by decide,by decide⟩ qob gC (noW qob.os) kD_is k_t.1 ?_;cbv)|(refine wk_put hS (.inr (.inl kD_is.os)) kD_is gD (noW kD_is.os) qzayv k_t.2.1 ?_;cbv)|(refine wk_put hS (.inr (.inr qzayv.os)) qzayv gE (oneW qzayv.os wO_p) kF_is k_t.2.2.1 ?_;cbv)|(refine qzamg hS qzayv gE (oneW qzayv.os wO_p) (oneG qzayv.os wO_g) kI_is kI_t ?_;cbv)|(refine wk_find hS qob gC (noW qob.os) kC_pl (by decide) kC_at ?_;cbv)|(refine wk_shut hS ⟨by decide,by decide⟩ (by decide) wk_wx qob gC (noW qob.os) kP_is k_t.2.2.2.1 ?_;cbv)|(refine wk_put hS (.inl kP_is.sh) kP_is gP (oneW kP_is.os oP_p) kPP_is k_t.2.2.2.2.1 ?_;cbv)|(refine wk_give hS ⟨by decide,by decide⟩ qob gC (noW qob.os) kQ_is k_t.2.2.2.2.2.1 ?_;cbv)|(refine wk_shift hS ⟨by decide,by decide⟩ qob gC (noW qob.os) kR_is rfl k_t.2.2.2.2.2.2.1 ?_;cbv)|fail)
 refine wk_change hS k6_ok rfl (by decide) qob k1_pl gC kU_is k_t.2.2.2.2.2.2.2 ?_ ?_
 ·cbv
  refine .cons (qja ?_) .nil
  repeat' (first|exact .nil|refine .cons ?_ ?_|exact .rfl|exact qpx (by decide) rfl rfl|fail)
 with_reducible refine s_rgH ?_
 cbv;refine⟨?_⟩
 with_reducible refine s_vseq (s_vseq (s_vreg ?_))
 repeat' (first|((with_reducible refine s_vh0 ?_);cbv)|((with_reducible refine s_vh 10 ?_);cbv)|((with_reducible refine s_brx hS ?_);cbv)|(refine qwn hS rfl ?_;try cbv)|(refine s_bsK hS (by decide) rfl ?_;cbv)|fail)
 refine qag hS rfl I.qnz (by decide +kernel) ?_;cbv
 repeat' (first
  | (refine wk_right hS kA_is gA (noW kA_is.os) ?_;cbv)
  | (refine qbg hS right_0 .rfl rfl rfl ?_;cbv)
  | (refine wk_waits hS ?_;cbv)
  | (refine qbg hS waits_7 .rfl rfl rfl ?_;cbv)
  | (refine wk_own hS qob gC ?_;intro st0;cbv)
  | (refine use_flit hS [21,22] same_cc ?_ rfl rfl ?_;(focus (cbv;refine .cons (.ag ?_) (.cons (.sub .rfl rfl) .nil);(repeat' (first|exact .nil|refine .cons ?_ ?_|exact .sub .rfl rfl|exact .sub (qau rfl) rfl|exact .sub (qbt rfl) rfl|exact .sub (qkt rfl) rfl|exact .sub (qzamm rfl rfl) rfl|refine .row rfl rfl ?_ rfl rfl|fail));done));cbv)
  | (refine qbg hS same_ab .rfl rfl rfl ?_;cbv)
  | fail)
 all_goals first
  | exact .rfl
end Wr
end Cz
namespace Cz
open Go Go.RowKit Go.Proofs
namespace Wr
open Fa Wg
theorem ot_in {o:Ot}(h:OtIn o) (hl:longB o=false):OtOk o:=by
 obtain⟨a,b,c,d⟩:=long_no hl;have e:=qzaro d;exact⟨h.k,h.st,h.sz,h.co,h.da,by omega,h.ps,by omega,by omega,by omega⟩
theorem in_n {os:List Ot}{tm:Int}{tr:List Tb.Fd}{zs:List Int}{se re ow:Int}{ss:List St}{w:Int}{H:Nat->Int}(h:LnIn os tm tr zs se re ow ss w H) (hg:grB os tr zs ss=false):
  LnN os tr zs ss (cellsO os) (ilen os) (Tb.cellsF tr) (ilen tr) (zs.flatMap i1) (ilen zs) (cellsS ss) (ilen ss):=by
 unfold grB at hg;simp only[Bool.or_eq_false_iff,decide_eq_false_iff_not] at hg;obtain⟨⟨⟨⟨g1,g2⟩,g3⟩,g4⟩,g5⟩:=hg;rw[List.any_eq_false] at g3 g4;refine⟨rfl,rfl,by omega,λo ho=>ot_in (h.os o ho) (by simpa using g3 o ho),rfl,rfl,by omega,by omega,rfl,rfl,by omega,rfl,rfl,by omega,λs hs=>?_⟩
 have:=g4 s hs
 simp only[decide_eq_true_eq] at this;have hs':=h.ss s hs;exact⟨hs'.id,hs'.st,hs'.se,hs'.re,hs'.ow,hs'.o,by omega,hs'.ur,hs'.sl⟩
section
variable {Fo:List SV}{no tm:Int}{Fr:List SV}{nr:Int}{Fz:List SV}{nz se re ow:Int}{Fs:List SV}{ns w:Int}{H:Nat->Int}{sh:Bool}{cut steps:Int}
theorem dgreat_t {os:List Ot}{tr:List Tb.Fd}{zs:List Int}{ss:List St}{t:Bool}{sv:SV}(a1:cellsO os=Fo) (a2:no=ilen os) (a3:Tb.cellsF tr=Fr) (a4:nr=ilen tr) (a5:nz=ilen zs) (a6:cellsS ss=Fs) (a7:ns=ilen ss) (b1:Tb.shortL tr) (b2:ilen tr<=140737488355328) (ht:grB os tr zs ss=t) (hs:Sub (.b t) sv) (hsv:refsB (λ_=>false) sv=true) (bl:List Blk) (K:SV->List Blk->Prop) (h:K sv bl):
  (S0 Tryz.prog).call 7 [.ag (lnK Fo no tm Fr nr Fz nz se re ow Fs ns w H sh)] bl K:=
 qai (qae (dgreat_f a1 a2 a3 a4 a5 a6 a7 b1 b2 ht) λx _ hx=>⟨_,hx.trans hs,.rfl⟩) rfl hsv h
theorem dright_t {os:List Ot}{tr:List Tb.Fd}{zs:List Int}{ss:List St}{t:Bool}{sv:SV}(hn:LnN os tr zs ss Fo no Fr nr Fz nz Fs ns) (hw0:0<=w) (hw1:w<18446744073709551616) (ht:t=true↔∃ L,w=wdI L/\GdL ⟨os,tm,tr,zs,se,re,ow,ss,L,H,sh⟩) (hs:Sub (.b t) sv) (hsv:refsB (λ_=>false) sv=true) (bl:List Blk) (K:SV->List Blk->Prop) (h:K sv bl):
  (S0 Tryz.prog).call 8 [.ag (lnK Fo no tm Fr nr Fz nz se re ow Fs ns w H sh)] bl K:=
 qai (qae (dRight_f hn hw0 hw1 (λo ho=>dwp_of (hn.oo o ho)) ht) λx _ hx=>⟨_,hx.trans hs,.rfl⟩) rfl hsv h
end
end Wr
end Cz
namespace Cz
open Go Go.RowKit Go.Proofs
namespace Wr
theorem qzayt (bl:List Blk) (K:SV->List Blk->Prop) (h:K .tt bl):(S0 Tryz.prog).call 9 [] bl K:=qai wakes_t rfl rfl h
end Wr
end Cz
