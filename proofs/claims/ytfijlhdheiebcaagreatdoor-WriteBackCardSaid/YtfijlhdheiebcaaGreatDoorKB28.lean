/- What the claims of this group lean on: WfB WgA WgB WgC WgD. No condition. -/
import Derived.Test.YtfijlhdheiebcaaGreatDoorKB26
set_option linter.unusedSimpArgs false
set_option linter.unusedVariables false
set_option maxRecDepth 100000
set_option maxHeartbeats 4000000
namespace Cz
open Go Go.RowKit Go.Proofs
namespace Wf
open Fa
abbrev FQ (k fl:Int) (st:Z) (dat:SV) (la inc co:Z) (prs:SV):SV:=.ag [.i .u8 (.l k),.i .u8 (.l fl),.i .i64 st,dat,.i .i64 (.l 0),.i .i64 la,.i .i64 inc,.i .u32 co,prs,.ff,.ff,.i .i64 (.l 0),.i .u8 (.l 0)]
abbrev n1:SV:=.v true 1 [] (.l 0)
abbrev n2:SV:=.v true 2 [] (.l 0)
theorem s_c8 {S:Sy}{a:Int}{K:Int->Prop}(hS:S0 Tryz.prog=S) (h:∀ r,r=a%256->K r):S.cv .u8 a K:=by
 refine s_cve hS _ ?_ (h _ rfl);simp [IntKind.wrap,IntKind.bits,IntKind.signed]
theorem s_bsB {S:Sy}(hS:S0 Tryz.prog=S) {l:List Int}{F:List SV}{n:Int}{x:List UInt8}{K:List UInt8->Prop}(hb:Hu.BOk l) (hF:cellsB l=F) (hn:n=ilen l) (hx:l.map (λv=>UInt8.ofNat v.toNat)=x) (h:K x):S.bs F 0 n K:=by
 subst hS hF hn hx;refine⟨Int.le_refl _,qaj _,_,⟨by unfold ilen;simp,λq c hc=>?_⟩,h⟩;rw[List.getElem?_map] at hc;obtain⟨v,hv,rfl⟩:=Option.map_eq_some_iff.1 hc;refine⟨.y v,?_,?_⟩
 ·rw[show (0:Int).toNat+q=q by simp]
  exact cellsB_get hv
 ·have:=hb v (List.mem_of_getElem? hv)
  show v=_;simp only[UInt8.toNat_ofNat'];omega
theorem qzanc {k fl:Int}{st:Z}{ld lp:Bool}{D Ps:List SV}{dn pn:Z}{la inc co:Z}{of f1 f2:SV}{B:List SV}{lb:Bool}{bn:Z}{pt:FuncId}{t:Bool}{F:SV}(hF:F=FQ k fl st (.v ld 1 D dn) la inc co (.v lp 2 Ps pn))
  (hk:∀ (bl:List Blk) (K:SV->List Blk->Prop),K (.ag [of,f1,f2,.fn (.func pt) [] []]) bl->(S0 Tryz.prog).call 113 [.i .u8 (.l k)] bl K)
  (hp:∀ (bl:List Blk) (K:SV->List Blk->Prop),K (.v lb 1 B bn) bl->(S0 Tryz.prog).call pt [F] bl K)
  (hq:∀ (bl:List Blk) (K:SV->List Blk->Prop),K (.tp [F,.ag [.ff,.i .i64 (.l 0),.i .u32 (.l 0)]]) bl->(S0 Tryz.prog).call 156 [.ag [.i .i64 (.l 0),.i .u8 (.l k),.i .u8 (.l fl),.i .i64 st],.v lb 1 B bn] bl K)
  (hs:∀ (bl:List Blk) (K:SV->List Blk->Prop),K (.b t) bl->(S0 Tryz.prog).call 157 [F,F] bl K):
  (S0 Tryz.prog).call 88 [F] [] (λx _=>Sub x (.b t)):=by
 subst hF;generalize hS:S0 Tryz.prog=S at *;refine qaa hS I.qzakn ?_;cbv;refine qnt hS rfl I.qzp (by decide +kernel) ?_;cbv
 repeat' (refine And.intro ?_ ?_)
 all_goals
  repeat' (first|(refine hk _ _ ?_;cbv)|(refine hp _ _ ?_;cbv)|(refine hq _ _ ?_;cbv)|(refine hs _ _ ?_;cbv)|fail)
 all_goals first
  | exact .rfl
theorem known_0:(S0 Tryz.prog).call 113 [.i .u8 (.l 0)] [] (λx _=>Sub x (.ag [.i .i64 (.l 1),.fn (.func 205) [] [],.fn (.func 206) [] [],.fn (.func 207) [] []])):=by
 generalize hS:S0 Tryz.prog=S;refine qaa hS I.qef ?_;cbv
 repeat' (first|(refine qaa hS I.qeg ?_;cbv)|(refine qaa hS I.qed ?_;cbv)|(refine qaa hS I.qee ?_;cbv)|(refine qaa hS I.qfo ?_;cbv)|(refine s_lk hS ?_;try cbv)|(refine s_mu hS ?_;try cbv)|fail)
 all_goals first
  | exact qja (.cons .rfl (.cons .rfl (.cons .rfl (.cons .rfl .nil))))
theorem qrx {S:Sy}{bl:List Blk}{K:SV->List Blk->Prop}(hS:S0 Tryz.prog=S) (hK:K (.ag [.i .i64 (.l 1),.fn (.func 205) [] [],.fn (.func 206) [] [],.fn (.func 207) [] []]) bl):S.call 113 [.i .u8 (.l 0)] bl K:=qbg hS known_0 .rfl rfl rfl hK
section
variable {b:List Int}{D:List SV}{n st:Int}
theorem puts_00 (hb:Hu.BOk b) (hD:cellsB b=D) (hn:n=ilen b) (h1:n<=16384):(S0 Tryz.prog).call 207 [FQ 0 0 (.y st) (.v false 1 D (.y n)) (.l 0) (.l 0) (.l 0) n2] [] (Tell (.v false 1 D (.y n))):=by
 have hpl:plains D=true:=hD▸qbv b;generalize hS:S0 Tryz.prog=S;refine qaa hS I.qpg ?_;cbv
 repeat' (first|(refine Wr.qzapa hS hD hn (by omega) ?_;cbv)|(refine qaa hS I.qrc ?_;cbv)|(refine qag hS rfl I.qmq (by decide +kernel) ?_;cbv)|fail)
 all_goals
  intro g
  first
   | exact .sub .rfl rfl
theorem puts_01 (hb:Hu.BOk b) (hD:cellsB b=D) (hn:n=ilen b) (h1:n<=16384):(S0 Tryz.prog).call 207 [FQ 0 1 (.y st) (.v false 1 D (.y n)) (.l 0) (.l 0) (.l 0) n2] [] (Tell (.v false 1 D (.y n))):=by
 have hpl:plains D=true:=hD▸qbv b;generalize hS:S0 Tryz.prog=S;refine qaa hS I.qpg ?_;cbv
 repeat' (first|(refine Wr.qzapa hS hD hn (by omega) ?_;cbv)|(refine qaa hS I.qrc ?_;cbv)|(refine qag hS rfl I.qmq (by decide +kernel) ?_;cbv)|fail)
 all_goals
  intro g
  first
   | exact .sub .rfl rfl
theorem take_00 (hb:Hu.BOk b) (hD:cellsB b=D) (hn:n=ilen b) (h1:n<=16384) (hs:1<=st/\st<=2147483647):(S0 Tryz.prog).call 156 [.ag [.i .i64 (.l 0),.i .u8 (.l 0),.i .u8 (.l 0),.i .i64 (.y st)],.v false 1 D (.y n)] [] (Tell (.tp [FQ 0 0 (.y st) (.v false 1 D (.y n)) (.l 0) (.l 0) (.l 0) n2,.ag [.ff,.i .i64 (.l 0),.i .u32 (.l 0)]])):=by
 have hpl:plains D=true:=hD▸qbv b;have h0:=qaj b;rw[<-hn] at h0;generalize hS:S0 Tryz.prog=S;refine qaa hS I.qgn ?_;cbv
 repeat' (first|(refine qac hS ?_ ?_<;>intro h<;>(try cbv)<;>try exact s_ab h)|(refine qax hS ?_;cbv)|(refine qrx hS ?_;cbv)|(refine Wr.qzapa hS hD hn (by omega) ?_;cbv)|(refine qaa hS I.qcw ?_;cbv)|(refine qaa hS I.qgm ?_;cbv)|(refine qaa hS I.qfn ?_;cbv)|(refine qaa hS I.qph ?_;cbv)|(refine qaa hS I.qnb ?_;cbv)|(refine qaa hS I.qzahs ?_;cbv)|(refine qaa hS I.qfp ?_;cbv)|(refine qbq hS I.qdv ?_;cbv)|(refine qag hS rfl I.qdt (by decide +kernel) ?_;cbv)|(refine qbd hS (c:=2147483648) rfl ?_;intro _ _;cbv)|fail)
 all_goals first
  | (exfalso;omega)
  | skip
 all_goals
  intro g
  repeat' (first|exact .nil|refine .cons ?_ ?_|(refine .tp ?_)|(refine .ag ?_)|exact .sub .rfl rfl|exact .sub (qau rfl) rfl|exact .nil (by decide) rfl|exact qzasg rfl rfl rfl rfl rfl|fail)
theorem take_01 (hb:Hu.BOk b) (hD:cellsB b=D) (hn:n=ilen b) (h1:n<=16384) (hs:1<=st/\st<=2147483647):(S0 Tryz.prog).call 156 [.ag [.i .i64 (.l 0),.i .u8 (.l 0),.i .u8 (.l 1),.i .i64 (.y st)],.v false 1 D (.y n)] [] (Tell (.tp [FQ 0 1 (.y st) (.v false 1 D (.y n)) (.l 0) (.l 0) (.l 0) n2,.ag [.ff,.i .i64 (.l 0),.i .u32 (.l 0)]])):=by
 have hpl:plains D=true:=hD▸qbv b;have h0:=qaj b;rw[<-hn] at h0;generalize hS:S0 Tryz.prog=S;refine qaa hS I.qgn ?_;cbv
 repeat' (first|(refine qac hS ?_ ?_<;>intro h<;>(try cbv)<;>try exact s_ab h)|(refine qax hS ?_;cbv)|(refine qrx hS ?_;cbv)|(refine Wr.qzapa hS hD hn (by omega) ?_;cbv)|(refine qaa hS I.qcw ?_;cbv)|(refine qaa hS I.qgm ?_;cbv)|(refine qaa hS I.qfn ?_;cbv)|(refine qaa hS I.qph ?_;cbv)|(refine qaa hS I.qnb ?_;cbv)|(refine qaa hS I.qzahs ?_;cbv)|(refine qaa hS I.qfp ?_;cbv)|(refine qbq hS I.qdv ?_;cbv)|(refine qag hS rfl I.qdt (by decide +kernel) ?_;cbv)|(refine qbd hS (c:=2147483648) rfl ?_;intro _ _;cbv)|fail)
 all_goals first
  | (exfalso;omega)
  | skip
 all_goals
  intro g
  repeat' (first|exact .nil|refine .cons ?_ ?_|(refine .tp ?_)|(refine .ag ?_)|exact .sub .rfl rfl|exact .sub (qau rfl) rfl|exact .nil (by decide) rfl|exact qzasg rfl rfl rfl rfl rfl|fail)
theorem same_00 {fl:Int}(hb:Hu.BOk b) (hD:cellsB b=D) (hn:n=ilen b):(S0 Tryz.prog).call 157 [FQ 0 fl (.y st) (.v false 1 D (.y n)) (.l 0) (.l 0) (.l 0) n2,FQ 0 fl (.y st) (.v false 1 D (.y n)) (.l 0) (.l 0) (.l 0) n2] [] (λx _=>Sub x (.b true)):=by
 obtain⟨x,hx⟩:∃ x,b.map (λv=>UInt8.ofNat v.toNat)=x:=⟨_,rfl⟩;generalize hS:S0 Tryz.prog=S;refine qaa hS I.qoh ?_;cbv
 repeat' (first|(refine qwn hS rfl ?_;try cbv)|(refine qac hS ?_ ?_<;>intro h<;>(try cbv)<;>try exact s_ab h)|(refine qax hS ?_;cbv)|(refine s_bsB hS hb hD hn hx ?_;cbv)|(refine qaa hS I.qgo ?_;cbv)|(refine qaa hS I.qch ?_;cbv)|fail)
 all_goals first
  | exact qay rfl
theorem ok_00 (hb:Hu.BOk b) (hD:cellsB b=D) (hn:n=ilen b) (h1:n<=16384) (hs:1<=st/\st<=2147483647):(S0 Tryz.prog).call 88 [FQ 0 0 (.y st) (.v false 1 D (.y n)) (.l 0) (.l 0) (.l 0) n2] [] (λx _=>Sub x (.b true)):=
 qzanc rfl (λbl K h=>qrx rfl h) (λbl K h=>qaq rfl (puts_00 hb hD hn h1) .rfl rfl h) (λbl K h=>qaq rfl (take_00 hb hD hn h1 hs) .rfl rfl h) (λbl K h=>qbg rfl (same_00 hb hD hn) .rfl rfl rfl h)
theorem ok_01 (hb:Hu.BOk b) (hD:cellsB b=D) (hn:n=ilen b) (h1:n<=16384) (hs:1<=st/\st<=2147483647):(S0 Tryz.prog).call 88 [FQ 0 1 (.y st) (.v false 1 D (.y n)) (.l 0) (.l 0) (.l 0) n2] [] (λx _=>Sub x (.b true)):=
 qzanc rfl (λbl K h=>qrx rfl h) (λbl K h=>qaq rfl (puts_01 hb hD hn h1) .rfl rfl h) (λbl K h=>qaq rfl (take_01 hb hD hn h1 hs) .rfl rfl h) (λbl K h=>qbg rfl (same_00 hb hD hn) .rfl rfl rfl h)
end
end Wf
end Cz
namespace Cz
open Go Go.RowKit Go.Proofs
namespace Wg
open Fa Wr
theorem rput_2 {n a b:Int}(h0:0<=n) (h1:n<65536) (ha:a=n/256%256) (hb:b=n%256):(S0 Tryz.prog).call 184 [.i .i64 (.y n),.i .i64 (.l 2)] [] (Tell (.tp [.v true 1 [.i .u8 (.y a),.i .u8 (.y b)] (.l 2),.i .i64 (.l 0)])):=by
 generalize hS:S0 Tryz.prog=S;refine qaa hS I.qfq ?_;cbv
 repeat' (first|(refine qac hS ?_ ?_<;>intro h<;>(try cbv)<;>try exact s_ab h)|(refine qdd hS ?_;try cbv)|(refine qax hS ?_;cbv)|(refine s_rm hS (by omega) ?_;intro _ _;cbv)|(refine s_qu hS (by omega) (by omega) (by decide) ?_;intro _ _;cbv)|fail)
 all_goals first
  | (exfalso;omega)
  | skip
 all_goals
  intro g
  repeat' (first|exact .nil|refine .cons ?_ ?_|(refine .tp ?_)|(refine .ag ?_)|exact .sub .rfl rfl|exact .sub (qau rfl) rfl|exact .nil (by decide) rfl|(refine .sub (qau ?_) rfl;(focus (simp only[Z.v];omega)))|(refine .row rfl rfl ?_ rfl rfl)|fail)
 all_goals trace_state
theorem rput_4 {n a b c d:Int}(h0:0<=n) (h1:n<4294967296) (ha:a=n/16777216%256) (hb:b=n/65536%256) (hc:c=n/256%256) (hd:d=n%256):(S0 Tryz.prog).call 184 [.i .i64 (.y n),.i .i64 (.l 4)] [] (Tell (.tp [.v true 1 [.i .u8 (.y a),.i .u8 (.y b),.i .u8 (.y c),.i .u8 (.y d)] (.l 4),.i .i64 (.l 0)])):=by
 generalize hS:S0 Tryz.prog=S;refine qaa hS I.qfq ?_;cbv
 repeat' (first|(refine qac hS ?_ ?_<;>intro h<;>(try cbv)<;>try exact s_ab h)|(refine qdd hS ?_;try cbv)|(refine qax hS ?_;cbv)|(refine s_rm hS (by omega) ?_;intro _ _;cbv)|(refine s_qu hS (by omega) (by omega) (by decide) ?_;intro _ _;cbv)|fail)
 all_goals first
  | (exfalso;omega)
  | skip
 all_goals
  intro g
  repeat' (first|exact .nil|refine .cons ?_ ?_|(refine .tp ?_)|(refine .ag ?_)|exact .sub .rfl rfl|exact .sub (qau rfl) rfl|exact .nil (by decide) rfl|(refine .sub (qau ?_) rfl;(focus (simp only[Z.v];omega)))|(refine .row rfl rfl ?_ rfl rfl)|fail)
 all_goals trace_state
theorem rtake_2 {B:List Int}{F:List SV}{n at' a b r:Int}(hF:cellsB B=F) (hn:n=ilen B) (hl:n<=100000000) (h0:0<=at') (h1:at'+2<=n) (ha:B[at'.toNat]?=some a) (hb:B[(at'+1).toNat]?=some b) (ea:0<=a/\a<256) (eb:0<=b/\b<256) (hr:r=a*256+b):(S0 Tryz.prog).call 170 [.v false 1 F (.y n),.i .i64 (.y at'),.i .i64 (.l 2)] [] (λx _=>Sub x (.tp [.i .i64 (.y r),.i .i64 (.l 0)])):=by
 generalize hS:S0 Tryz.prog=S;refine qaa hS I.qka ?_;cbv
 repeat' (first|(refine s_ck hS ?_;try cbv)|(refine qac hS ?_ ?_<;>intro h<;>(try cbv)<;>try exact s_ab h)|(refine s_ad hS ?_;intro _ _;try cbv)|(refine s_sb hS ?_;intro _ _;try cbv)|(refine qdd hS ?_;try cbv)|(refine qax hS ?_;cbv)|(refine qfx hS (enc:=by1) (l:=B) hF ha (by omega) (λ_=>rfl) (by omega) (by omega) rfl ?_;cbv)|(refine qfx hS (enc:=by1) (l:=B) hF hb (by omega) (λ_=>rfl) (by omega) (by omega) rfl ?_;cbv)|(refine qzr hS ?_ (by simp only[lo];omega) (by simp only[Cz.hi];omega);intro _ _;cbv)|fail)
 all_goals first
  | (exfalso;omega)
  | skip
 all_goals first
  | (refine qpw (.cons (qau ?_) (.cons .rfl .nil));(focus (simp only[Z.v];omega)))
theorem rtake_4 {B:List Int}{F:List SV}{n at' a b c d r:Int}(hF:cellsB B=F) (hn:n=ilen B) (hl:n<=100000000) (h0:0<=at') (h1:at'+4<=n) (ha:B[at'.toNat]?=some a) (hb:B[(at'+1).toNat]?=some b) (hc:B[(at'+2).toNat]?=some c) (hd:B[(at'+3).toNat]?=some d) (ea:0<=a/\a<256) (eb:0<=b/\b<256) (ec:0<=c/\c<256) (ed:0<=d/\d<256) (hr:r=a*16777216+b*65536+c*256+d):(S0 Tryz.prog).call 170 [.v false 1 F (.y n),.i .i64 (.y at'),.i .i64 (.l 4)] [] (λx _=>Sub x (.tp [.i .i64 (.y r),.i .i64 (.l 0)])):=by
 generalize hS:S0 Tryz.prog=S;refine qaa hS I.qka ?_;cbv
 repeat' (first|(refine s_ck hS ?_;try cbv)|(refine qac hS ?_ ?_<;>intro h<;>(try cbv)<;>try exact s_ab h)|(refine s_ad hS ?_;intro _ _;try cbv)|(refine s_sb hS ?_;intro _ _;try cbv)|(refine qdd hS ?_;try cbv)|(refine qax hS ?_;cbv)|(refine qfx hS (enc:=by1) (l:=B) hF ha (by omega) (λ_=>rfl) (by omega) (by omega) rfl ?_;cbv)|(refine qfx hS (enc:=by1) (l:=B) hF hb (by omega) (λ_=>rfl) (by omega) (by omega) rfl ?_;cbv)|(refine qfx hS (enc:=by1) (l:=B) hF hc (by omega) (λ_=>rfl) (by omega) (by omega) rfl ?_;cbv)|(refine qfx hS (enc:=by1) (l:=B) hF hd (by omega) (λ_=>rfl) (by omega) (by omega) rfl ?_;cbv)|(refine qzr hS ?_ (by simp only[lo];omega) (by simp only[Cz.hi];omega);intro _ _;cbv)|fail)
 all_goals first
  | (exfalso;omega)
  | skip
 all_goals first
  | (refine qpw (.cons (qau ?_) (.cons .rfl .nil));(focus (simp only[Z.v];omega)))
end Wg
end Cz
namespace Cz
open Go Go.RowKit Go.Proofs
namespace Wg
open Fa Wr
def b6 (p:Int×Int):List Int:=[p.1/256%256,p.1%256,p.2/16777216%256,p.2/65536%256,p.2/256%256,p.2%256]
def byp (ps:List (Int×Int)):List Int:=ps.flatMap b6
def PrIn (ps:List (Int×Int)):Prop:=∀ (i:Nat) (p:Int×Int),ps[i]?=some p->(0<=p.1/\p.1<65536)/\0<=p.2/\p.2<4294967296
theorem byp_len (ps:List (Int×Int)):ilen (byp ps)=6*ilen ps:=by
 unfold ilen byp
 induction ps with
 | nil=>rfl
 | cons x l ih=>simp only[List.flatMap_cons,b6,List.length_append,List.length_cons,List.length_nil] at ih ⊢;omega
theorem byp_at {ps:List (Int×Int)}{i:Nat}{p:Int×Int}(h:ps[i]?=some p) {k:Nat}(hk:k<6):(byp ps)[6*i+k]?=(b6 p)[k]?:=by
 unfold byp
 induction ps generalizing i with
 | nil=>simp at h
 | cons x ps ih=>
  rw[List.flatMap_cons];cases i with
  | zero=>
   simp only[List.getElem?_cons_zero,Option.some.injEq] at h;subst h;rw[List.getElem?_append_left (by show 6*0+k<6;omega)];simp
  | succ i=>
   simp only[List.getElem?_cons_succ] at h;rw[List.getElem?_append_right (by show 6<=_;omega),show (b6 x).length=6 from rfl,show 6*(i+1)+k-6=6*i+k by omega];exact ih h
theorem byp_z {ps:List (Int×Int)}{x:Int}{p:Int×Int}(h0:0<=x) (h:ps[x.toNat]?=some p) {k:Nat}(hk:k<6) {at':Int}(ha:at'=6*x+k):(byp ps)[at'.toNat]?=(b6 p)[k]?:=by
 rw[<-byp_at h hk,show at'.toNat=6*x.toNat+k by omega]
theorem pr_take {ps:List (Int×Int)}{x:Int}{p:Int×Int}(h0:0<=x) (h:ps[x.toNat]?=some p):ps.take (x+1).toNat=ps.take x.toNat++[p]:=by
 rw[show (x+1).toNat=x.toNat+1 by omega,List.take_add_one,h];rfl
theorem app_b6 {S:Sy}(hS:S0 Tryz.prog=S) {ps:List (Int×Int)}{p:Int×Int}{F:List SV}{a b c d e f:Int}(hF:cellsB (byp ps)=F) (ha:a=p.1/256%256) (hb:b=p.1%256) (hc:c=p.2/16777216%256) (hd:d=p.2/65536%256) (he:e=p.2/256%256) (hf:f=p.2%256):
  S.app (S.app F [.i .u8 (.y a),.i .u8 (.y b)]) [.i .u8 (.y c),.i .u8 (.y d),.i .u8 (.y e),.i .u8 (.y f)]=cellsB (byp (ps++[p])):=by
 subst hS hF ha hb hc hd he hf;rw[qfv,qfv];unfold cellsB byp;rw[List.flatMap_append,List.flatMap_append,List.append_assoc];rfl
theorem app_p1 {S:Sy}(hS:S0 Tryz.prog=S) {ps:List (Int×Int)}{p:Int×Int}{F:List SV}{a b:Int}(hF:cellsP ps=F) (ha:a=p.1) (hb:b=p.2):S.app F [.i .u16 (.y a),.i .u32 (.y b)]=cellsP (ps++[p]):=by
 subst hS hF ha hb;rw[qfv];unfold cellsP;rw[List.flatMap_append];rfl
theorem s_ckA {S:Sy}{a b:Int}{k:Unit->Prop}(hS:S0 Tryz.prog=S) (e:a=b) (h:k ()):S.chk (S.cmp .eq a b) k:=s_chk hS (by subst hS;rw[cmp_eq];exact decide_eq_true e) h
theorem putp_f {ps:List (Int×Int)}{Q G:List SV}{qn g:Int}(hQ:cellsP ps=Q) (hn:qn=ilen ps) (hl:qn<=100000) (hr:PrIn ps) (hG:cellsB (byp ps)=G) (hg:g=6*qn):
  (S0 Tryz.prog).call 183 [.v false 2 Q (.y qn)] [] (Tell (.v false 1 G (.y g))):=by
 have hn0:=qaj ps;rw[<-hn] at hn0;generalize hS:S0 Tryz.prog=S;refine qaa hS I.qoj ?_;cbv;refine qmi hS 3 1 (by omega) rfl ?_;cbv;refine qad hS 1 I.qkg (λx:Int×Int×Int×List SV=>0<=x.1/\x.1<=qn/\x.2.1=6*x.1/\cellsB (byp (ps.take x.1.toNat))=x.2.2.2) (λx=>[(4,.i .i64 (.y x.1)),(3,.sl 0 1 (.l 0) (.y x.2.1) none)])
  (λx=>[(0,.r false false (.y x.2.2.1) 1 x.2.2.2)]) (λx=>(qn-x.1).toNat) (0,0,0,[]) rfl ⟨⟨Int.le_refl _,hn0,rfl,rfl⟩,rfl,?_,?_,by cbv⟩ ?_
 ·cbv;exact s_qA
 ·cbv;exact s_qA
 intro x;obtain⟨x,m,st,F⟩:=x;intro hx;dsimp only at hx;cbv;obtain⟨g0,g1,g2,g3⟩:=hx;have hFl:ilen F=m:=by
  rw[<-g3,qsg,byp_len];unfold ilen;rw[List.length_take];unfold ilen at hn;omega
 refine s_br hS ?_ ?_<;>intro h'<;>cbv<;>simp only[<-hS,Int.ofNat_eq_natCast,cq,Bool.not_eq_true',Bool.not_eq_false',decide_eq_true_eq,decide_eq_false_iff_not,beq_iff_eq,beq_eq_false_iff_ne,ne_eq] at h'
 ·obtain⟨p,hy⟩:=qbi (l:=ps) (i:=x) (by omega) g0
  have hp:=hr _ _ hy;have ht:=pr_take g0 hy;obtain⟨p1,p2⟩:=p;dsimp only at hp;obtain⟨a,ea⟩:∃ r,r=p1/256%256:=⟨_,rfl⟩;obtain⟨b,eb⟩:∃ r,r=p1%256:=⟨_,rfl⟩;obtain⟨c,ec⟩:∃ r,r=p2/16777216%256:=⟨_,rfl⟩;obtain⟨d,ed⟩:∃ r,r=p2/65536%256:=⟨_,rfl⟩;obtain⟨e,ee⟩:∃ r,r=p2/256%256:=⟨_,rfl⟩;obtain⟨f,ef⟩:∃ r,r=p2%256:=⟨_,rfl⟩;have c2:=rput_2 hp.1.1 hp.1.2 ea eb;have c4:=rput_4 hp.2.1 hp.2.2 ec ed ee ef;have c1:S.sc (S.pl m 2) 1=S.flen (S.app F [SV.i IntKind.u8 (Z.y a),SV.i IntKind.u8 (Z.y b)]):=by subst hS;rw[qfv];show (m+2)*1=ilen (F++_);rw[ilen_app];show (m+2)*1=ilen F+2;omega
  repeat' (first|(refine s_ck hS ?_;try cbv)|(refine s_ad hS ?_;intro _ _;try cbv)|(refine qdd hS ?_;try cbv)|(refine s_ckA hS c1 ?_;cbv)|(refine qal hS (enc:=pr1) (l:=ps) hQ hy (λ_=>rfl) g0 (by omega) rfl ?_;cbv)|(refine qaq hS c2 .rfl rfl ?_;cbv)|(refine qaq hS c4 .rfl rfl ?_;cbv)|fail)
  rename_i r1 e1;have e8:r1=x+1:=e1;have e2:(m:Int)+2+4=6*(x+1):=by omega
  refine⟨(r1,S.pl (S.pl m 2) 4,S.flen (S.app F [SV.i IntKind.u8 (Z.y a),SV.i IntKind.u8 (Z.y b)]),S.app (S.app F [.i .u8 (.y a),.i .u8 (.y b)]) [.i .u8 (.y c),.i .u8 (.y d),.i .u8 (.y e),.i .u8 (.y f)]),by dsimp only;omega,⟨by dsimp only;omega,by dsimp only;omega,by subst hS;dsimp only;rw[e8];exact e2,by dsimp only;rw[e8,ht];exact (app_b6 hS g3 ea eb ec ed ee ef).symm⟩,rfl,?_,?_,by cbv⟩
  ·cbv;exact s_qA
  ·cbv;exact s_qA
 ·have hxn:x=qn:=by omega
  subst hxn;rw[List.take_of_length_le (by unfold ilen at hn;omega),hG] at g3;subst g3;have hp:plains G=true:=hG▸qbv _;refine λg=>.row rfl rfl (.fsub ?_ hp) hp (by simp only[Z.v];omega);rw[show (Z.l 0).v.toNat*1=0 from rfl,List.drop_zero,List.take_of_length_le]
  ·exact .rfl
  ·show G.length<=m.toNat*1
   unfold ilen at hFl;omega
theorem takep_f {ps:List (Int×Int)}{Q G:List SV}{qn g:Int}(hQ:cellsP ps=Q) (hn:qn=ilen ps) (hl:qn<=100000) (hr:PrIn ps) (hG:cellsB (byp ps)=G) (hg:g=6*qn):
  (S0 Tryz.prog).call 178 [.v false 1 G (.y g)] [] (Tell (.tp [.v false 2 Q (.y qn),.i .i64 (.l 0)])):=by
 have hn0:=qaj ps;rw[<-hn] at hn0;have hgl:g=ilen (byp ps):=by rw[byp_len];omega
 generalize hS:S0 Tryz.prog=S;refine qaa hS I.qnc ?_;cbv
 repeat' (first|(refine qac hS ?_ ?_<;>intro h<;>(try cbv)<;>try exact s_ab h)|(refine s_rm hS (by omega) ?_;intro _ _;cbv)|fail)
 refine qmi hS 4 2 (by omega) rfl ?_;cbv;refine qad hS 1 I.qiw (λx:Int×Int×Int×List SV=>0<=x.1/\x.1<=qn/\x.2.1=6*x.1/\cellsP (ps.take x.1.toNat)=x.2.2.2) (λx=>[(5,.i .i64 (.y x.2.1)),(4,.sl 0 2 (.l 0) (.y x.1) none)])
  (λx=>[(0,.r false false (.y x.2.2.1) 2 x.2.2.2)]) (λx=>(qn-x.1).toNat) (0,0,0,[]) rfl ⟨⟨Int.le_refl _,hn0,rfl,rfl⟩,rfl,?_,?_,by cbv⟩ ?_
 ·cbv;exact s_qA
 ·cbv;exact s_qA
 intro x;obtain⟨x,m,st,F⟩:=x;intro hx;dsimp only at hx;cbv;obtain⟨g0,g1,g2,g3⟩:=hx;have hFl:ilen F=2*x:=by
  rw[<-g3];unfold ilen;rw[cellsP_len,List.length_take];unfold ilen at hn;omega
 refine s_br hS ?_ ?_<;>intro h'<;>cbv<;>simp only[<-hS,Int.ofNat_eq_natCast,cq,Bool.not_eq_true',Bool.not_eq_false',decide_eq_true_eq,decide_eq_false_iff_not,beq_iff_eq,beq_eq_false_iff_ne,ne_eq] at h'
 ·obtain⟨p,hy⟩:=qbi (l:=ps) (i:=x) (by omega) g0
  have hp:=hr _ _ hy;have ht:=pr_take g0 hy;have y0:=byp_z g0 hy (k:=0) (by decide) (at':=m) (by omega);have y1:=byp_z g0 hy (k:=1) (by decide) (at':=m+1) (by omega);have y2:=byp_z g0 hy (k:=2) (by decide) (at':=m+2) (by omega);have y3:=byp_z g0 hy (k:=3) (by decide) (at':=m+2+1) (by omega);have y4:=byp_z g0 hy (k:=4) (by decide) (at':=m+2+2) (by omega);have y5:=byp_z g0 hy (k:=5) (by decide) (at':=m+2+3) (by omega);obtain⟨p1,p2⟩:=p;dsimp only at hp;have c2:=rtake_2 (r:=p1) hG hgl (by omega) (by omega) (by omega) y0 y1 (by dsimp only;omega) (by dsimp only;omega) (by dsimp only;omega);have c4:=rtake_4 (r:=p2) hG hgl (by omega) (by omega) (by omega) y2 y3 y4 y5 (by dsimp only;omega) (by dsimp only;omega) (by dsimp only;omega) (by dsimp only;omega) (by dsimp only;omega);obtain⟨m2,hm2⟩:∃ r,r=m+2:=⟨_,rfl⟩;rw[<-hm2] at c4;clear y0 y1 y2 y3 y4 y5
  repeat' (first|(refine s_ck hS ?_;try cbv)|(refine s_ad hS ?_;intro _ _;try cbv)|(refine qdd hS ?_;try cbv)|(refine qbg hS c2 .rfl rfl rfl ?_;cbv)|(refine qbg hS c4 (.cons .rfl (.cons (qau (by simp only[Z.v];omega)) (.cons .rfl .nil))) rfl rfl ?_;cbv)|fail)
  rename_i r1 e1 r2 e2;refine⟨(S.pl x (Int.ofNat 1),r2,S.flen F,S.app F [.i .u16 (.y p1),.i .u32 (.y p2)]),by subst hS;dsimp only;show (qn-(x+1)).toNat<_;omega,⟨by subst hS;show 0<=x+1;omega,by subst hS;show x+1<=qn;omega,by subst hS;show r2=6*(x+1);omega,by subst hS;show cellsP (ps.take (x+1).toNat)=_;rw[ht];exact (app_p1 rfl g3 rfl rfl).symm⟩,rfl,?_,?_,by cbv⟩
  ·cbv;exact s_qA
  ·cbv;exact s_qA
 ·have hxn:x=qn:=by omega
  subst hxn;rw[List.take_of_length_le (by unfold ilen at hn;omega),hQ] at g3;subst g3;have hp:plains Q=true:=hQ▸qzadb _;intro g;refine .tp (.cons (.row rfl rfl (.fsub ?_ hp) hp rfl) (.cons (.sub .rfl rfl) .nil));rw[show (Z.l 0).v.toNat*2=0 from rfl,List.drop_zero,List.take_of_length_le]
  ·exact .rfl
  ·show Q.length<=x.toNat*2
   unfold ilen at hFl;omega
end Wg
end Cz
namespace Cz
open Go Go.RowKit Go.Proofs
namespace Wg
open Fa Wr
def fc1 (p:Int×Int):Int:=if p.1=4 then 3 else 1
def fcL:List (Int×Int)->Int
 | []=>0
 | p::l=>if prB p=true then fcL l else fc1 p
theorem pr_drop {ps:List (Int×Int)}{x:Int}{p:Int×Int}(h0:0<=x) (h:ps[x.toNat]?=some p):ps.drop x.toNat=p::ps.drop (x+1).toNat:=by
 rw[show (x+1).toNat=x.toNat+1 by omega];exact List.drop_eq_getElem?_toList_append.trans (by rw[h];rfl)
theorem set_y {a v:Int}(h:prB (a,v)=true):(S0 Tryz.prog).call 180 [.ag [.i .u16 (.y a),.i .u32 (.y v)]] [] (λx _=>Sub x (.ag [.ff,.i .i64 (.l 0),.i .u32 (.l 0)])):=by
 have h1:=of_decide_eq_true h;dsimp only at h1;clear h;generalize hS:S0 Tryz.prog=S;refine qaa hS I.qlf ?_;cbv
 repeat' (first|(refine qac hS ?_ ?_<;>intro h<;>(try cbv)<;>try exact s_ab h)|(refine qaa hS I.qbc ?_;cbv)|fail)
 all_goals first
  | (exfalso;omega)
  | exact .rfl
theorem set_n {a v:Int}{c:Int}(h:prB (a,v)=false) (hc:fc1 (a,v)=c):(S0 Tryz.prog).call 180 [.ag [.i .u16 (.y a),.i .u32 (.y v)]] [] (λx _=>Sub x (.ag [.tt,.i .i64 (.l 0),.i .u32 (.y c)])):=by
 have h1:=of_decide_eq_false h;dsimp only at h1;clear h;have hc':(a=4->c=3)/\(a≠4->c=1):=by
  unfold fc1 at hc;dsimp only at hc;constructor
  ·intro e;rw[if_pos e] at hc;exact hc.symm
  ·intro e;rw[if_neg e] at hc;exact hc.symm
 clear hc;generalize hS:S0 Tryz.prog=S;refine qaa hS I.qlf ?_;cbv
 repeat' (first|(refine qac hS ?_ ?_<;>intro h<;>(try cbv)<;>try exact s_ab h)|(refine qaa hS I.qtc ?_;cbv)|fail)
 all_goals first
  | (exfalso;omega)
  | (refine qja (.cons .rfl (.cons .rfl (.cons (qau ?_) .nil)));(focus (simp only[Z.v];omega)))
theorem pairs_f {ps:List (Int×Int)}{Q:List SV}{qn:Int}(hQ:cellsP ps=Q) (hn:qn=ilen ps) (hl:qn<=100000):(S0 Tryz.prog).call 186 [.v false 2 Q (.y qn),.v false 2 Q (.y qn)] [] (λx _=>Sub x (.b true)):=by
 have hn0:=qaj ps;rw[<-hn] at hn0;generalize hS:S0 Tryz.prog=S;refine qaa hS I.qtd ?_;cbv
 repeat' (first|(refine qac hS ?_ ?_<;>intro h<;>(try cbv)<;>try exact s_ab h)|fail)
 refine qad hS 0 I.qnl (λx:Int=>0<=x/\x<=qn) (λx=>[(5,.i .i64 (.y x))]) (λ_=>[]) (λx=>(qn-x).toNat) 0 rfl ⟨⟨Int.le_refl _,hn0⟩,rfl,?_,?_,by cbv⟩ ?_
 ·(cbv;try exact s_qA)
 ·(cbv;try exact s_qA)
 intro x hx
 try dsimp only at hx
 cbv;obtain⟨g0,g1⟩:=hx;refine s_br hS ?_ ?_<;>intro h'<;>cbv<;>simp only[<-hS,Int.ofNat_eq_natCast,cq,Bool.not_eq_true',Bool.not_eq_false',decide_eq_true_eq,decide_eq_false_iff_not,beq_iff_eq,beq_eq_false_iff_ne,ne_eq] at h'
 ·obtain⟨p,hy⟩:=qbi (l:=ps) (i:=x) (by omega) g0
  obtain⟨p1,p2⟩:=p
  repeat' (first|(refine qwn hS rfl ?_;try cbv)|(refine s_ck hS ?_;try cbv)|(refine s_ad hS ?_;intro _ _;try cbv)|(refine qag hS rfl I.qny (by decide +kernel) ?_;cbv)|(refine qal hS (enc:=pr1) (l:=ps) hQ hy (λ_=>rfl) g0 (by omega) rfl ?_;cbv)|fail)
  rename_i r1 e1;refine⟨r1,by omega,⟨by omega,by omega⟩,rfl,by (cbv;try exact s_qA),by (cbv;try exact s_qA),by cbv⟩
 ·exact qay rfl
theorem val_y {ps:List (Int×Int)}{Q:List SV}{qn:Int}(hQ:cellsP ps=Q) (hn:qn=ilen ps) (hl:qn<=100000) (hp:ps.all prB=true) {y:SV}(hy:y=.v true 1 [] (.l 0)∨y=.re (.slice none 0 0)):
  (S0 Tryz.prog).call 123 [.ag [.i .u8 (.l 4),.i .u8 (.l 0),.i .i64 (.l 0),y,.i .i64 (.l 0),.i .i64 (.l 0),.i .i64 (.l 0),.i .u32 (.l 0),.v false 2 Q (.y qn),.ff,.ff,.i .i64 (.l 0),.i .u8 (.l 0)]] [] (λx _=>Sub x (.ag [.ff,.i .i64 (.l 0),.i .u32 (.l 0)])):=by
 have hn0:=qaj ps;rw[<-hn] at hn0;obtain⟨y',hy'⟩:∃ y',y'=y:=⟨_,rfl⟩;rcases hy with rfl|rfl
 all_goals
  clear hy';generalize hS:S0 Tryz.prog=S;refine qaa hS I.qgx ?_;cbv;refine qad hS 2 I.qeh (λx:Int=>0<=x/\x<=qn) (λx=>[(3,.i .i64 (.y x))]) (λ_=>[]) (λx=>(qn-x).toNat) 0 rfl ⟨⟨Int.le_refl _,hn0⟩,rfl,?_,?_,by cbv⟩ ?_
  ·(cbv;try exact s_qA)
  ·(cbv;try exact s_qA)
  intro x hx
  try dsimp only at hx
  cbv;obtain⟨g0,g1⟩:=hx;refine s_br hS ?_ ?_<;>intro h'<;>cbv<;>simp only[<-hS,Int.ofNat_eq_natCast,cq,Bool.not_eq_true',Bool.not_eq_false',decide_eq_true_eq,decide_eq_false_iff_not,beq_iff_eq,beq_eq_false_iff_ne,ne_eq] at h'
  ·obtain⟨p,hy⟩:=qbi (l:=ps) (i:=x) (by omega) g0
   have hb:=List.all_eq_true.1 hp _ (List.mem_of_getElem? hy);obtain⟨p1,p2⟩:=p;have c1:=set_y hb
   repeat' (first|(refine qwn hS rfl ?_;try cbv)|(refine s_ck hS ?_;try cbv)|(refine s_ad hS ?_;intro _ _;try cbv)|(refine qal hS (enc:=pr1) (l:=ps) hQ hy (λ_=>rfl) g0 (by omega) rfl ?_;cbv)|(refine qbg hS c1 .rfl rfl rfl ?_;cbv)|(refine qaa hS I.qbc ?_;cbv)|fail)
   rename_i r1 e1;refine⟨r1,by omega,⟨by omega,by omega⟩,rfl,by (cbv;try exact s_qA),by (cbv;try exact s_qA),by cbv⟩
  ·repeat' (first|(refine qaa hS I.qbc ?_;cbv)|fail)
   all_goals exact .rfl
theorem val_n {ps:List (Int×Int)}{Q:List SV}{qn c:Int}(hQ:cellsP ps=Q) (hn:qn=ilen ps) (hl:qn<=100000) (hp:ps.all prB=false) (hc:fcL ps=c) {y:SV}(hy:y=.v true 1 [] (.l 0)∨y=.re (.slice none 0 0)):
  (S0 Tryz.prog).call 123 [.ag [.i .u8 (.l 4),.i .u8 (.l 0),.i .i64 (.l 0),y,.i .i64 (.l 0),.i .i64 (.l 0),.i .i64 (.l 0),.i .u32 (.l 0),.v false 2 Q (.y qn),.ff,.ff,.i .i64 (.l 0),.i .u8 (.l 0)]] [] (λx _=>Sub x (.ag [.tt,.i .i64 (.l 0),.i .u32 (.y c)])):=by
 have hn0:=qaj ps;rw[<-hn] at hn0;rcases hy with rfl|rfl
 all_goals
  generalize hS:S0 Tryz.prog=S;refine qaa hS I.qgx ?_;cbv;refine qad hS 2 I.qeh (λx:Int=>0<=x/\x<=qn/\fcL (ps.drop x.toNat)=c/\(ps.drop x.toNat).all prB=false) (λx=>[(3,.i .i64 (.y x))]) (λ_=>[]) (λx=>(qn-x).toNat) 0 rfl ⟨⟨Int.le_refl _,hn0,hc,hp⟩,rfl,?_,?_,by cbv⟩ ?_
  ·(cbv;try exact s_qA)
  ·(cbv;try exact s_qA)
  intro x hx
  try dsimp only at hx
  cbv;obtain⟨g0,g1,g2,g3⟩:=hx;refine s_br hS ?_ ?_<;>intro h'<;>cbv<;>simp only[<-hS,Int.ofNat_eq_natCast,cq,Bool.not_eq_true',Bool.not_eq_false',decide_eq_true_eq,decide_eq_false_iff_not,beq_iff_eq,beq_eq_false_iff_ne,ne_eq] at h'
  ·obtain⟨p,hy⟩:=qbi (l:=ps) (i:=x) (by omega) g0
   obtain⟨p1,p2⟩:=p;rw[pr_drop g0 hy] at g2 g3;obtain⟨b,hb⟩:∃ b,prB (p1,p2)=b:=⟨_,rfl⟩;unfold fcL at g2;rw[List.all_cons,hb] at g3;rw[hb] at g2;cases b
   ·rw[if_neg Bool.false_ne_true] at g2
    have c1:=set_n hb g2
    repeat' (first|(refine s_ck hS ?_;try cbv)|(refine qal hS (enc:=pr1) (l:=ps) hQ hy (λ_=>rfl) g0 (by omega) rfl ?_;cbv)|(refine qbg hS c1 .rfl rfl rfl ?_;cbv)|(refine qaa hS I.qbc ?_;cbv)|(refine qzaqz hS ?_;try cbv)|fail)
    all_goals exact .rfl
   ·rw[if_pos rfl] at g2
    rw[Bool.true_and] at g3;have c1:=set_y hb
    repeat' (first|(refine qwn hS rfl ?_;try cbv)|(refine s_ck hS ?_;try cbv)|(refine s_ad hS ?_;intro _ _;try cbv)|(refine qal hS (enc:=pr1) (l:=ps) hQ hy (λ_=>rfl) g0 (by omega) rfl ?_;cbv)|(refine qbg hS c1 .rfl rfl rfl ?_;cbv)|(refine qaa hS I.qbc ?_;cbv)|fail)
    rename_i r1 e1;have e2:r1=x+1:=e1;subst e2;refine⟨x+1,by omega,⟨by omega,by omega,g2,g3⟩,rfl,by (cbv;try exact s_qA),by (cbv;try exact s_qA),by cbv⟩
  ·exfalso
   rw[List.drop_eq_nil_of_le (by unfold ilen at hn;omega)] at g3;cases g3
end Wg
end Cz
namespace Cz
open Go Go.RowKit Go.Proofs
namespace Wg
open Fa Wr
theorem spay_f {ps:List (Int×Int)}{Q G:List SV}{qn g:Int}(hQ:cellsP ps=Q) (hn:qn=ilen ps) (hl:qn<=2000) (hr:PrIn ps) (hG:cellsB (byp ps)=G) (hg:g=6*qn):
  (S0 Tryz.prog).call 125 [stF Q qn] [] (Tell (.v false 1 G (.y g))):=by
 have c1:=putp_f hQ hn (by omega) hr hG hg;unfold stF;generalize hS:S0 Tryz.prog=S;refine qaa hS I.qpo ?_;cbv
 repeat' (first|(refine qax hS ?_;cbv)|(refine qaq hS c1 .rfl rfl ?_;cbv)|(refine qaa hS I.qvk ?_;cbv)|(refine qaa hS I.qfq ?_;cbv)|fail)
 all_goals first
  | (intro g1;exact .sub .rfl rfl)
def f0:SV:=.ag [.i .u8 (.l 0),.i .u8 (.l 0),.i .i64 (.l 0),.re (.slice none 0 0),.i .i64 (.l 0),.i .i64 (.l 0),.i .i64 (.l 0),.i .u32 (.l 0),.re (.slice none 0 0),.ff,.ff,.i .i64 (.l 0),.i .u8 (.l 0)]
theorem spar_y {ps:List (Int×Int)}{Q G:List SV}{qn g:Int}(hQ:cellsP ps=Q) (hn:qn=ilen ps) (hl:qn<=2000) (hr:PrIn ps) (hp:ps.all prB=true) (hG:cellsB (byp ps)=G) (hg:g=6*qn):
  (S0 Tryz.prog).call 54 [.ag [.i .i64 (.l 0),.i .u8 (.l 4),.i .u8 (.l 0),.i .i64 (.l 0)],.v false 1 G (.y g)] [] (Tell (.tp [stF Q qn,.ag [.ff,.i .i64 (.l 0),.i .u32 (.l 0)]])):=by
 have c1:=takep_f hQ hn (by omega) hr hG hg;have c2:=val_y hQ hn (by omega) hp (y:=.re (.slice none 0 0)) (Or.inr rfl);have hn0:=qaj ps;rw[<-hn] at hn0;unfold stF;clear hr hp hQ hG hn;generalize hS:S0 Tryz.prog=S;refine qaa hS I.qih ?_;cbv
 repeat' (first|(refine qwn hS rfl ?_;try cbv)|(refine qac hS ?_ ?_<;>intro h<;>(try cbv)<;>try exact s_ab h)|(refine qaq hS c1 .rfl rfl ?_;cbv)|(refine qbg hS c2 .rfl rfl rfl ?_;cbv)|(refine s_rm hS (by omega) ?_;intro _ _;cbv)|(refine qaa hS I.qii ?_;cbv)|(refine qaa hS I.qif ?_;cbv)|(refine qaa hS I.qbc ?_;cbv)|(refine qaa hS I.qie ?_;cbv)|(refine qaa hS I.qlh ?_;cbv)|(refine qaa hS I.qjz ?_;cbv)|(refine qaa hS I.qlg ?_;cbv)|(refine qaa hS I.qli ?_;cbv)|(refine qag hS rfl I.qff (by decide +kernel) ?_;cbv)|(refine qag hS rfl I.qfe (by decide +kernel) ?_;cbv)|fail)
 all_goals first
  | (exfalso;omega)
  | skip
 all_goals
  intro g
  repeat' (first|exact .nil|refine .cons ?_ ?_|(refine .tp ?_)|(refine .ag ?_)|exact .sub .rfl rfl|exact .sub (qau rfl) rfl|exact .nil (by decide) rfl|fail)
 all_goals trace_state
end Wg
end Cz
