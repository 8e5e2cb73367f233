/- What the claims of this group lean on: WrN WrO WrP WrQ. No condition. -/
import Derived.Test.YtfijlhdheiebcaaGreatDoorKB20
set_option linter.unusedSimpArgs false
set_option linter.unusedVariables false
set_option maxRecDepth 100000
set_option maxHeartbeats 4000000
namespace Cz
open Go Go.RowKit Go.Proofs
namespace Wr
theorem dwin_f {w:Int}{t:Bool}(ht:wB w=t):(S0 Tryz.prog).call 27 [.i .i64 (.y w)] [] (λx _=>Sub x (.b t)):=by
 unfold wB at ht;generalize hS:S0 Tryz.prog=S;refine qaa hS I.qsx ?_;cbv
 repeat' (first|(refine qac hS ?_ ?_<;>intro h<;>(try cbv)<;>try exact s_ab h)|fail)
 all_goals subst ht
 all_goals first
  | (refine qao (decide_eq_false ?_);omega)
  | (refine qay (decide_eq_true ?_);omega)
  | (refine qgc ?_;subst hS;simp only[cr];rw[decide_eq_decide];omega)
theorem dans_f {x:Int}{t:Bool}(ht:ansB x=t):(S0 Tryz.prog).call 61 [.i .u8 (.y x)] [] (λy _=>Sub y (.b t)):=by
 unfold ansB at ht;generalize hS:S0 Tryz.prog=S;refine qaa hS I.qpn ?_;cbv
 repeat' (first|(refine qac hS ?_ ?_<;>intro h<;>(try cbv)<;>try exact s_ab h)|fail)
 all_goals subst ht
 all_goals first
  | (refine qao (decide_eq_false ?_);omega)
  | (refine qay (decide_eq_true ?_);omega)
  | (refine qgc ?_;subst hS;simp only[cr];rw[decide_eq_decide];omega)
section
variable {S:Sy}{l:List Blk}{K:SV->List Blk->Prop}
theorem quj (hS:S0 Tryz.prog=S) {w:Int}(t:Bool) (ht:wB w=t) (h:K (.b t) l):S.call 27 [.i .i64 (.y w)] l K:=by
 subst hS;exact qai (qae (dwin_f ht) λx _ hx=>⟨_,hx,.rfl⟩) rfl rfl h
theorem dans_u (hS:S0 Tryz.prog=S) {x:Int}(t:Bool) (ht:ansB x=t) (h:K (.b t) l):S.call 61 [.i .u8 (.y x)] l K:=by
 subst hS;exact qai (qae (dans_f ht) λx _ hx=>⟨_,hx,.rfl⟩) rfl rfl h
end
theorem s_rm {P:Program}{S:Sy}{k:IntKind}{a b:Int}{K:Int->Prop}(hS:S0 P=S) (h0:0<=a) (h:∀ r,r=a%b->K r):S.ar .rem k a b K:=qcg hS (a%b) (by simp only[arS];exact Int.tmod_eq_emod_of_nonneg h0) (h _ rfl)
theorem dright_f {s:St}{t:Bool}(ok:StOk s) (ht:stB s=t):(S0 Tryz.prog).call 59 [.ag (stC s)] [] (λx _=>Sub x (.b t)):=by
 obtain⟨id,st,se,re,ow,an,en,o,ur,ic,sl⟩:=s;obtain⟨k1,k2,k3,k4,k5,k6,k7,k8,k9⟩:=ok;unfold stB at ht;dsimp only at *;obtain⟨F,hF⟩:∃ F,cellsB o=F:=⟨_,rfl⟩;obtain⟨n,hn⟩:∃ n,n=ilen o:=⟨_,rfl⟩;have hn0:=qaj o;obtain⟨a,ha⟩:∃ a,ansB st=a:=⟨_,rfl⟩;obtain⟨w,hw⟩:∃ a,wB se=a:=⟨_,rfl⟩;unfold stC;dsimp only;rw[<-hn] at hn0 k7 ht;rw[ha,hw] at ht;rw[hF,<-hn];generalize hS:S0 Tryz.prog=S;refine qaa hS I.qsv ?_;cbv
 repeat' (first|(refine qac hS ?_ ?_<;>intro h<;>(try cbv)<;>try exact s_ab h)|(refine quj hS w hw ?_;cbv)|(refine dans_u hS a ha ?_;cbv)|(refine s_rm hS (by omega) ?_;intro _ _;cbv)|fail)
 all_goals
  subst ht
  first
   | (refine qao (decide_eq_false ?_);omega)
   | (refine qao (decide_eq_false ?_);simp_all;done)
   | (refine qay (decide_eq_true ?_);simp_all;omega)
   | skip
 refine qgc ?_;subst hS;show (!en)=_;cases en with
 | false=>
  refine (decide_eq_true ?_).symm;refine⟨by omega,by omega,by omega,by omega,by omega,by assumption,by omega,by omega,by omega,by omega,by omega,by omega,by omega,by omega,.inr ⟨by omega,rfl⟩⟩
 | true=>
  refine (decide_eq_false ?_).symm;rintro ⟨-,-,-,-,-,-,-,-,-,-,-,-,-,-,h|⟨-,h⟩⟩
  ·simp_all
  ·cases h
section
variable {S:Sy}{l:List Blk}{K:SV->List Blk->Prop}{F:List SV}{n:Int}
theorem dright_w (hS:S0 Tryz.prog=S) (s:St) (t:Bool) (ok:StOk s) (hF:cellsB s.o=F) (hn:n=ilen s.o) (ht:stB s=t) (h:K (.b t) l):S.call 59 [.ag (stK s F n)] l K:=by
 subst hF hn hS;exact qai (qae (dright_f ok ht) λx _ hx=>⟨_,hx,.rfl⟩) rfl rfl h
end
end Wr
end Cz
namespace Cz
open Go Go.RowKit Go.Proofs
namespace Wr
theorem dcan_f {w r:Int}(hr:canI w=r):(S0 Tryz.prog).call 46 [.i .i64 (.y w)] [] (λx _=>Sub x (.i .i64 (.y r))):=by
 obtain⟨t,ht⟩:∃ t,wB w=t:=⟨_,rfl⟩;generalize hS:S0 Tryz.prog=S;refine qaa hS I.qyo ?_;cbv
 repeat' (first|(refine qac hS ?_ ?_<;>intro h<;>(try cbv)<;>try exact s_ab h)|(refine quj hS t ht ?_;cbv)|fail)
 all_goals
  unfold canI at hr;unfold wB at ht;subst ht;simp only[decide_eq_true_eq,decide_eq_false_iff_not] at *;split at hr
  all_goals first
   | (refine qau ?_;simp only[Z.v];omega)
   | (exfalso;omega)
section
variable {S:Sy}{l:List Blk}{K:SV->List Blk->Prop}
theorem dcan_u (hS:S0 Tryz.prog=S) {w:Int}(r:Int) (hr:canI w=r) (h:K (.i .i64 (.y r)) l):S.call 46 [.i .i64 (.y w)] l K:=by
 subst hS;exact qai (qae (dcan_f hr) λx _ hx=>⟨_,hx,.rfl⟩) rfl rfl h
end
theorem dsend_f {s:St}{all:Int}{t:Bool}(ht:sendB s all=t):(S0 Tryz.prog).call 17 [.ag (stC s),.i .i64 (.y all)] [] (λx _=>Sub x (.b t)):=by
 obtain⟨id,st,se,re,ow,an,en,o,ur,ic,sl⟩:=s;unfold sendB at ht;dsimp only at *;obtain⟨F,hF⟩:∃ F,cellsB o=F:=⟨_,rfl⟩;obtain⟨n,hn⟩:∃ n,n=ilen o:=⟨_,rfl⟩;have hn0:=qaj o;obtain⟨a,haa⟩:∃ a,ansB st=a:=⟨_,rfl⟩;obtain⟨p,hp⟩:∃ a,canI se=a:=⟨_,rfl⟩;obtain⟨q,hq⟩:∃ a,canI all=a:=⟨_,rfl⟩;unfold stC;dsimp only;rw[<-hn] at hn0 ht;rw[haa,hp,hq] at ht;rw[hF,<-hn];generalize hS:S0 Tryz.prog=S;refine qaa hS I.qoi ?_;cbv
 repeat' (first|(refine qac hS ?_ ?_<;>intro h<;>(try cbv)<;>try exact s_ab h)|(refine dcan_u hS p hp ?_;cbv)|(refine dcan_u hS q hq ?_;cbv)|fail)
 all_goals subst ht
 all_goals clear hn hF hp hq
 all_goals unfold ansB at haa
 all_goals cases a
 all_goals simp only[decide_eq_true_eq,decide_eq_false_iff_not] at haa
 all_goals first
  | (exfalso;omega)
  | (refine qao ?_;simp [*];done)
  | (refine qgc ?_;subst hS;simp only[cmp_gt];simp [*];done)
  | (refine qgc ?_;simp [*];done)
  | (have hz:¬ 0<n:=(by omega);refine qgc ?_;simp [*];done)
  | (have hz:0<n:=(by omega);refine qgc ?_;subst hS;simp only[cmp_gt];simp [*];done)
  | (have hz:0<n:=(by omega);refine qao ?_;simp [*];done)
end Wr
end Cz
namespace Cz
open Go Go.RowKit Go.Proofs
namespace Wr
def p1 (y:Int×Int):List SV:=[.i .i64 (.y y.1),.i .i64 (.y y.2)]
def cells2 (l:List (Int×Int)):List SV:=l.flatMap p1
theorem cells2_len (l:List (Int×Int)):ilen (cells2 l)=2*ilen l:=by
 unfold ilen cells2
 induction l with
 | nil=>rfl
 | cons x l ih=>simp only[List.flatMap_cons,p1,List.length_append,List.length_cons,List.length_nil] at ih ⊢;omega
theorem qzath (l:List (Int×Int)):plains (cells2 l)=true:=by
 unfold cells2
 induction l with
 | nil=>rfl
 | cons x l ih=>simp only[List.flatMap_cons,p1,List.cons_append,List.nil_append,plains,plainV,ih];rfl
def dplc (w:Int) (k:Nat):Int×Int:=(w/2 ^ (7*k)%128%8,w/2 ^ (7*k)%128/8%8)
def dlst (w:Int):Nat->List (Int×Int)
 | 0=>[]
 | n+1=>dlst w n++[dplc w n]
theorem qok (w:Int) (n:Nat):(dlst w n).length=n:=by
 induction n with
 | zero=>rfl
 | succ n ih=>rw[dlst,List.length_append,ih];rfl
theorem dplace_f {w k r:Int}(h0:0<=w) (h1:w<18446744073709551616) (hk:0<=k/\k<=7) (hr:w/2 ^ (7*k).toNat%128=r):(S0 Tryz.prog).call 238 [.i .u64 (.y w),.i .i64 (.y k)] [] (λx _=>Sub x (.i .i64 (.y r))):=by
 generalize hS:S0 Tryz.prog=S;refine qaa hS I.qsy ?_;cbv
 repeat' (first|(refine s_ck hS ?_;try cbv)|(refine qdd hS ?_;try cbv)|(refine qzr hS ?_ (by simp only[lo];omega) (by simp only[hi];omega);intro _ _;cbv)|(refine s_shr hS (by simp only[IntKind.bits];omega) ?_;intro _ _;cbv)|(refine qku hS (c:=128) (m:=7) (by decide) ?_;intro _ _;cbv)|fail)
 rename_i r1 e1 r2 e2 r3 e3;refine qau ?_;simp only[Z.v];rw[e3,e2,e1];exact hr
section
variable {S:Sy}{l:List Blk}{K:SV->List Blk->Prop}
theorem dplace_u (hS:S0 Tryz.prog=S) {w k:Int}(r:Int) (h0:0<=w) (h1:w<18446744073709551616) (hk:0<=k/\k<=7) (hr:w/2 ^ (7*k).toNat%128=r) (h:K (.i .i64 (.y r)) l):S.call 238 [.i .u64 (.y w),.i .i64 (.y k)] l K:=by
 subst hS;exact qai (qae (dplace_f h0 h1 hk hr) λx _ hx=>⟨_,hx,.rfl⟩) rfl rfl h
end
theorem s_qu {P:Program}{S:Sy}{a b:Int}{K:Int->Prop}(hS:S0 P=S) (h0:0<=a) (h1:a<=9223372036854775807) (hb:0<b) (h:∀ r,r=a/b->K r):S.ar .quo .i64 a b K:=by
 have h2:0<=a/b:=Int.ediv_nonneg h0 (by omega);have h3:a/b<=a:=Int.ediv_le_self b h0;refine qcg hS (a/b) ?_ (h _ rfl);have e:arS .quo .i64 a b=IntKind.i64.wrap (a.tdiv b):=rfl;rw[e,Int.tdiv_eq_ediv_of_nonneg h0];exact qgy (by simp only[lo];omega) (by simp only[hi];omega)
theorem app_2 {S:Sy}(hS:S0 Tryz.prog=S) {A B:List (Int×Int)}{F G:List SV}(hF:cells2 A=F) (hG:G=cells2 B):S.app F G=cells2 (A++B):=by
 subst hS hF hG;rw[qfv];unfold cells2;rw[List.flatMap_append]
theorem dlist_f {w n:Int}(h0:0<=w) (h1:w<18446744073709551616) (hn:n=min (w/1152921504606846976) 8):
  (S0 Tryz.prog).call 187 [.i .u64 (.y w)] [] (Tell (.v false 2 (cells2 (dlst w n.toNat)) (.y n))):=by
 have hn0:0<=n/\n<=8:=by omega
 obtain⟨G,hG⟩:∃ G,cells2 (dlst w n.toNat)=G:=⟨_,rfl⟩;rw[hG];generalize hS:S0 Tryz.prog=S;refine qaa hS I.qve ?_;cbv;refine qmi hS 3 2 (by omega) rfl ?_;cbv;refine qad hS 1 I.qoo (λx:Int×Int×List SV=>0<=x.1/\x.1<=n/\cells2 (dlst w x.1.toNat)=x.2.2) (λx=>[(4,.i .i64 (.y x.1)),(3,.sl 0 2 (.l 0) (.y x.1) none)])
  (λx=>[(0,.r false false (.y x.2.1) 2 x.2.2)]) (λx=>(n-x.1).toNat) (0,0,[]) rfl ⟨⟨Int.le_refl _,hn0.1,rfl⟩,rfl,?_,?_,by cbv⟩ ?_
 ·cbv;exact s_qA
 ·cbv;exact s_qA
 intro x;obtain⟨x,st,F⟩:=x;intro hx;dsimp only at hx;cbv;obtain⟨g0,g1,g2⟩:=hx;obtain⟨c,hc⟩:∃ c,x.toNat=c:=⟨_,rfl⟩;have hFl:ilen F=2*x:=by rw[<-g2,cells2_len];unfold ilen;rw[qok];omega
 obtain⟨r,hr⟩:∃ r,w/2 ^ (7*x).toNat%128=r:=⟨_,rfl⟩;have hrb:0<=r/\r<128:=by omega
 repeat' (first|(refine s_ck hS ?_;try cbv)|(refine qac hS ?_ ?_<;>intro h<;>(try cbv)<;>try exact s_ab h)|(refine s_ad hS ?_;intro _ _;try cbv)|(refine qdd hS ?_;try cbv)|(refine qbd hS (c:=1152921504606846976) rfl ?_;intro _ _;cbv)|(refine s_mn hS ?_;intro _ _;cbv)|(refine dplace_u hS r h0 h1 (by omega) hr ?_;cbv)|(refine s_rm hS (by omega) ?_;intro _ _;cbv)|(refine s_qu hS (by omega) (by omega) (by decide) ?_;intro _ _;cbv)|fail)
 ·rename_i r1 e1 r2 e2 r3 e3 r4 e4 r5 e5 r6 e6
  have e7:S.app F [.i .i64 (.y r3),.i .i64 (.y r5)]=cells2 (dlst w (c+1)):=by
   rw[dlst];refine app_2 hS (by rw[<-hc];exact g2) ?_;have hcx:(7*x).toNat=7*c:=by omega
   rw[hcx] at hr;unfold dplc;rw[hr,<-e3,<-e4,<-e5];rfl
  have e8:r6=S.pl x (Int.ofNat 1):=by subst hS;exact e6
  have e9:S.pl x (Int.ofNat 1)=x+1:=by subst hS;rfl
  subst e8;refine⟨(S.pl x (Int.ofNat 1),S.flen F,S.app F [.i .i64 (.y r3),.i .i64 (.y r5)]),by dsimp only;rw[e9];omega,⟨by dsimp only;rw[e9];omega,by dsimp only;rw[e9];omega,by dsimp only;rw[e9,show (x+1).toNat=c+1 by omega];exact e7.symm⟩,rfl,?_,?_,by cbv⟩
  ·cbv;exact s_qA
  ·cbv;exact s_qA
 ·have hxn:x=n:=by omega
  subst hxn;rw[hG] at g2;subst g2;have hp:plains G=true:=hG▸qzath _;refine λg=>.row rfl rfl (.fsub ?_ hp) hp rfl;rw[show (Z.l 0).v.toNat*2=0 from rfl,List.drop_zero,List.take_of_length_le]
  ·exact .rfl
  ·show G.length<=x.toNat*2
   unfold ilen at hFl;omega
end Wr
end Cz
namespace Cz
open Go Go.RowKit Go.Proofs
namespace Wr
theorem or_mid {v lo x m:Nat}(hv:v%2 ^ 60=0) (hl:lo<2 ^ m) (hx:x%2 ^ m=0) (hs:x+lo<2 ^ 60):(v+lo) ||| x=v+lo+x:=by
 have h1:v ||| lo=v+lo:=or_low (m:=60) hv (by omega);have h2:x ||| lo=x+lo:=or_low (m:=m) hx hl;have h3:v ||| (x+lo)=v+(x+lo):=or_low (m:=60) hv hs;rw[<-h1,Nat.or_assoc,Nat.or_comm lo x,h2,h3];omega
section
variable {P:Program}{S:Sy}
theorem s_or3 (hS:S0 P=S) {a b v lw:Int}{m:Nat}{K:Int->Prop}(ha:a=v+lw) (hv0:0<=v) (hv:v%1152921504606846976=0) (hl0:0<=lw) (hl:lw<2 ^ m) (hb0:0<=b) (hb:b%2 ^ m=0) (hs:b+lw<1152921504606846976) (ht:v+lw+b<18446744073709551616)
  (h:∀ r,r=a+b->K r):S.ar .or .u64 a b K:=by
 refine qcg hS (a+b) ?_ (h _ rfl);subst ha;obtain⟨V,rfl⟩:∃ V:Nat,v=V:=⟨v.toNat,by omega⟩;obtain⟨A,rfl⟩:∃ V:Nat,lw=V:=⟨lw.toNat,by omega⟩;obtain⟨B,rfl⟩:∃ V:Nat,b=V:=⟨b.toNat,by omega⟩;have e0:arS .or .u64 ((V:Int)+A) B=IntKind.u64.wrap (BitVec.ofInt 64 ((V:Int)+A) ||| BitVec.ofInt 64 (B:Int)).toNat:=rfl;have e1:(BitVec.ofInt 64 ((V:Int)+A)).toNat=V+A:=by
  rw[show ((V:Int)+A)=((V+A:Nat):Int) by omega];exact qcc (by omega)
 have e2:(BitVec.ofInt 64 (B:Int)).toNat=B:=qcc (by omega);have hl':A<2 ^ m:=by exact_mod_cast hl
 have hb':B%2 ^ m=0:=by exact_mod_cast hb
 rw[e0,BitVec.toNat_or,e1,e2,or_mid (m:=m) (by omega) hl' hb' (by omega),qro (by omega)];omega
end
theorem low_next {l:List (Int×Int)}{x:Nat}{y:Int×Int}(hy:l[x]?=some y):lowI (l.take (x+1))=lowI (l.take x)+2 ^ (7*x)*cd y:=by
 have hl:=(List.getElem?_eq_some_iff.1 hy).1;rw[List.take_add_one,hy,qzagv,List.length_take,Nat.min_eq_left (by omega)];simp [lowI]
theorem dword_f {l:List (Int×Int)}{n w:Int}{F:List SV}(hl:Bd l) (hn:n=ilen l) (hn8:n<=8) (hF:cells2 l=F) (hw:wdI l=w):
  (S0 Tryz.prog).call 188 [.v false 2 F (.y n)] [] (λx _=>Sub x (.i .u64 (.y w))):=by
 have hn0:=qaj l;rw[<-hn] at hn0;have hle:∀ q:Int,q<n->q.toNat<=l.length:=λq hq=>by have:n=l.length:=hn;omega
 generalize hS:S0 Tryz.prog=S;refine qaa hS I.qvd ?_;cbv
 repeat' (first|(refine qdd hS ?_;try cbv)|(refine qgu hS (c:=1152921504606846976) rfl ?_ (by simp only[lo];omega) (by simp only[hi];omega);intro _ _;cbv)|fail)
 rename_i r0 e0;refine qad hS 0 I.qon (λx:Int×Int=>0<=x.1/\x.1<=n/\x.2=1152921504606846976*n+lowI (l.take x.1.toNat)) (λx=>[(4,.i .i64 (.y x.1)),(3,.i .u64 (.y x.2))]) (λ_=>[]) (λx=>(n-x.1).toNat) (0,r0) rfl
  ⟨⟨Int.le_refl _,hn0,by dsimp only;rw[show (0:Int).toNat=0 from rfl,List.take_zero,lowI];omega⟩,rfl,?_,?_,by cbv⟩ ?_
 ·cbv;exact s_qA
 ·cbv;try exact s_qA
 intro x;obtain⟨x,v⟩:=x;intro hx;dsimp only at hx;cbv;obtain⟨g0,g1,g2⟩:=hx;refine qac hS ?_ ?_<;>intro h<;>cbv
 ·obtain⟨⟨a,b⟩,hy⟩:=qbi (l:=l) (i:=x) (by omega) g0
  have hyb:=hl (a,b) (List.mem_of_getElem? hy);dsimp only at hyb;obtain⟨c,hc⟩:∃ c,x.toNat=c:=⟨_,rfl⟩;rw[hc] at hy g2;have hnx:=low_next hy;have hlb:=qzald (L:=l.take c) λz hz=>hl z (List.mem_of_mem_take hz);have hcl:c<=l.length:=hc▸hle x h;rw[List.length_take,Nat.min_eq_left hcl] at hlb;generalize lowI (l.take c)=A at *;obtain⟨M,hM⟩:∃ M,(2:Int) ^ (7*c)=M:=⟨_,rfl⟩;have hM0:1<=M/\M<=562949953421312:=by
   have hc7:c=0∨c=1∨c=2∨c=3∨c=4∨c=5∨c=6∨c=7:=by omega
   rw[<-hM];rcases hc7 with rfl|rfl|rfl|rfl|rfl|rfl|rfl|rfl<;>decide
  rw[hM] at hlb hnx;obtain⟨p,hp⟩:∃ p,cd (a,b)=p:=⟨_,rfl⟩;have hpe:p=64+8*b+a:=hp.symm;rw[hp] at hnx;obtain⟨Q,hQ⟩:∃ Q,M*p=Q:=⟨_,rfl⟩;have hQb:0<=Q/\Q+M<=128*M/\Q%M=0:=by
   rw[<-hQ];refine⟨Int.mul_nonneg (by omega) (by omega),?_,Int.mul_emod_right _ _⟩
   have:M*p<=M*127:=Int.mul_le_mul_of_nonneg_left (by omega) (by omega)
   omega
  have hy':l[x.toNat]?=some (a,b):=by rw[hc];exact hy
  have f1:∀ q:Int,q=7*x->(2:Int) ^ (min q.toNat 64)=M:=λq hq=>by rw[<-hM,hq];congr 1;omega
  have f2:∀ q,q=p->q*M=Q:=λq hq=>by rw[hq,Int.mul_comm,hQ]
  rw[<-hM] at hQb hlb
  repeat' (first|(refine s_ck hS ?_;try cbv)|(refine s_ad hS ?_;intro _ _;try cbv)|(refine qdd hS ?_;try cbv)|(refine qag hS rfl I.qpk (by decide +kernel) ?_;cbv)|(refine qal hS (enc:=p1) (l:=l) hF hy' (λ_=>rfl) g0 (by omega) rfl ?_;cbv)|(refine qzr hS ?_ (by simp only[lo];omega) (by simp only[hi];omega);intro _ _;cbv)|(refine qgu hS (c:=M) (f1 _ (by omega)) ?_ (by rw[f2 _ (by omega)];simp only[lo];omega) (by rw[f2 _ (by omega)];simp only[hi];omega);rw[f2 _ (by omega)];intro _ _;cbv)|(refine s_or3 hS (v:=1152921504606846976*n) (lw:=A) (m:=7*c) g2 (by omega) (by omega) hlb.1 hlb.2 (by omega) (by rename_i q hq;rw[hq];exact hQb.2.2) (by omega) (by omega) ?_;intro _ _;cbv)|fail)
  rename_i q1 u1 q2 u2 q3 u3 q4 u4 q5 u5 q6 u6 q7 u7;refine⟨(q7,q6),by dsimp only;omega,⟨by dsimp only;omega,by dsimp only;omega,?_⟩,rfl,?_,?_,by cbv⟩
  ·dsimp only
   rw[show q7.toNat=c+1 by omega,hnx,u6,u5,g2,hQ];omega
  ·cbv;exact s_qA
  ·cbv;try exact s_qA
 ·have hxn:x=n:=by omega
  have ht:l.take x.toNat=l:=qcs (by rw[hxn,hn];exact Int.le_refl _);rw[ht] at g2;refine qau ?_;simp only[Z.v];rw[g2,<-hw,wdI,hn]
end Wr
end Cz
