/- What the claims of this group lean on: H1 H2 H3 T2 CzBa Tb1 Tb4 Tb9 TbG Pa1 PaP Fa1. No condition. -/
import Derived.Test.YtfijlhdheiebcaaGreatDoorKB5
import Derived.Test.YtfijlhdheiebcaaGreatDoorKB6
import Derived.Test.YtfijlhdheiebcaaGreatDoorKB7
import Derived.Test.YtfijlhdheiebcaaGreatDoorKB8
import Derived.Test.YtfijlhdheiebcaaGreatDoorKB9
import Derived.Test.YtfijlhdheiebcaaGreatDoorKB10
import Derived.Test.YtfijlhdheiebcaaGreatDoorKB12
import Derived.Calls
set_option linter.unusedSimpArgs false
set_option linter.unusedVariables false
set_option maxRecDepth 100000
set_option maxHeartbeats 4000000
namespace Hu
def valB:List Bool->Nat:=List.foldl (λn b=>2*n+b.toNat) 0
def bitsN:Nat->Nat->List Bool
 | 0,_=>[]
 | m+1,n=>bitsN m (n/2)++[n%2==1]
def packs:Nat->List Bool->List Int
 | 0,_=>[]
 | n+1,bs=>(valB (bs.take 8):Int)::packs n (bs.drop 8)
def pack (bs:List Bool):List Int:=packs (bs.length/8) bs
def BOk (l:List Int):Prop:=∀ v∈l,0<=v/\v<256
def five:List Nat:=[45,47,48,49,50,51,97,99,101,105,110,111,114,115,116,117]
def six:List Nat:=[46,52,53,54,55,56,57,58,98,100,102,103,104,108,109,112]
def seven:List Nat:=[65,66,67,68,69,70,71,72,106,107,113,118,119,120,121,122]
def cls (c:Nat):Nat:=if five.contains c then 5 else if six.contains c then 6 else if seven.contains c then 7 else 11
def cnt (m c:Nat):Nat:=((List.range c).filter λx=>cls x==m).length
def base (m:Nat):Nat:=if m=5 then 0 else if m=6 then 32 else if m=7 then 96 else 1792
def codeOf (c:Nat):Nat:=base (cls c)+cnt (cls c) c
def cod (c:Nat):List Bool:=bitsN (cls c) (codeOf c)
def enc (b:List Int):List Bool:=b.flatMap λv=>cod v.toNat
def pad (n:Nat):Nat:=(8-n%8)%8
def padded (bs:List Bool):List Bool:=bs++List.replicate (pad bs.length) true
def put (b:List Int):List Int:=pack (padded (enc b))
def nbits (b:List Int):Nat:=(enc b).length
end Hu
namespace Cz
open Go Go.RowKit Go.Proofs
def by1 (v:Int):List SV:=[.i .u8 (.y v)]
def cellsB (l:List Int):List SV:=l.flatMap by1
theorem qbv (l:List Int):plains (cellsB l)=true:=by
 induction l with
 | nil=>rfl
 | cons v l ih=>simpa [cellsB,by1,plains,plainV] using ih
theorem qex (l:List Int):cellsB l=l.map λv=>.i .u8 (.y v):=by
 induction l with
 | nil=>rfl
 | cons u l ih=>simp only[cellsB,List.flatMap_cons,List.map_cons] at ih ⊢;rw[ih];rfl
theorem cellsB_get {l:List Int}{q:Nat}{v:Int}(h:l[q]?=some v):(cellsB l)[q]?=some (.i .u8 (.y v)):=by
 rw[qex,List.getElem?_map,h];rfl
end Cz
namespace Cz
open Go Go.RowKit Go.Proofs
end Cz
namespace Cz
open Go Go.RowKit Go.Proofs
end Cz
namespace Cz
open Go Go.RowKit Go.Proofs
end Cz
namespace Cz
open Go Go.RowKit Go.Proofs
end Cz
namespace Cz
open Go Go.RowKit Go.Proofs
end Cz
namespace Cz
open Go Go.RowKit Go.Proofs
end Cz
namespace Cz
open Go Go.RowKit Go.Proofs
def bitsI (b:List Int) (k:Int):Int:=Hu.nbits (b.take k.toNat)
end Cz
namespace Cz
open Go Go.RowKit Go.Proofs
end Cz
namespace Cz
open Go Go.RowKit Go.Proofs
theorem qsg (l:List Int):ilen (cellsB l)=ilen l:=by rw[qex];simp [ilen]
end Cz
namespace Cz
open Go Go.RowKit Go.Proofs
end Cz
namespace Cz
open Go Go.RowKit Go.Proofs
end Cz
namespace Cz
open Go Go.RowKit Go.Proofs
theorem nc (n:Nat):NatCast.natCast n=(n:Int):=rfl
end Cz
namespace Cz
open Go Go.RowKit Go.Proofs
def shortB (b:List Int):Bool:=decide ((bitsI b (ilen b)+7)/8<ilen b)
end Cz
namespace Cz
open Go Go.RowKit Go.Proofs
end Cz
namespace Cz
open Go Go.RowKit Go.Proofs
end Cz
namespace Cz
open Go Go.RowKit Go.Proofs
def sept:Nat->Int->List Int
 | 0,_=>[]
 | f+1,q=>if q<128 then [q] else (q%128+128)::sept f (q/128)
def putI (n p up:Int):List Int:=if n<p-1 then [up-up%p+n] else (up-up%p+(p-1))::sept 5 (n-(p-1))
end Cz
namespace Cz
open Go Go.RowKit Go.Proofs
end Cz
namespace Cz
open Go Go.RowKit Go.Proofs
def byS (x:List UInt8):List Int:=x.map λc=>(c.toNat:Int)
theorem ilen_app {α:Type}(a b:List α):ilen (a++b)=ilen a+ilen b:=by unfold ilen;simp
def plainT (b:List Int):List Int:=putI (ilen b) 128 0++b
def packT (b:List Int):List Int:=putI (ilen (Hu.put b)) 128 128++Hu.put b
def bestT (b:List Int):List Int:=if shortB b then packT b else plainT b
end Cz
namespace Cz
open Go Go.RowKit Go.Proofs
end Cz
namespace Cz
open Go Go.RowKit Go.Proofs
end Cz
namespace Cz
open Go Go.RowKit Go.Proofs
end Cz
namespace Cz
open Go Go.RowKit Go.Proofs
namespace Tb
abbrev Fd:=List UInt8×List UInt8
def stL:List Fd:=
  [([58,109,101,116,104,111,100],[71,69,84]),
  ([58,109,101,116,104,111,100],[80,79,83,84]),
  ([58,112,97,116,104],[47]),
  ([58,115,99,104,101,109,101],[104,116,116,112]),
  ([58,115,99,104,101,109,101],[104,116,116,112,115]),
  ([58,115,116,97,116,117,115],[50,48,48]),
  ([58,115,116,97,116,117,115],[50,48,52]),
  ([58,115,116,97,116,117,115],[52,48,52]),
  ([58,115,116,97,116,117,115],[53,48,48]),
  ([97,99,99,101,112,116],[]),
  ([99,111,110,116,101,110,116,45,108,101,110,103,116,104],[]),
  ([99,111,110,116,101,110,116,45,116,121,112,101],[]),
  ([99,111,111,107,105,101],[]),
  ([100,97,116,101],[]),
  ([104,111,115,116],[]),
  ([108,111,99,97,116,105,111,110],[]),
  ([112,114,105,111,114,105,116,121],[]),
  ([112,114,105,111,114,105,116,121],[117,61,49]),
  ([115,101,114,118,101,114],[]),
  ([117,115,101,114,45,97,103,101,110,116],[])]
def szF (f:Fd):Int:=ilen f.1+ilen f.2+32
theorem qzafu (f:Fd):32<=szF f:=by have:=qaj f.1;have:=qaj f.2;unfold szF;omega
def fullL:List Fd->Int
 | []=>0
 | f::r=>szF f+fullL r
theorem qsa:∀ l:List Fd,0<=fullL l
 | []=>by simp [fullL]
 | f::r=>by have:=qzafu f;have:=qsa r;simp only[fullL];omega
theorem qzahk:∀ l m:List Fd,fullL (l++m)=fullL l+fullL m
 | [],m=>by simp [fullL]
 | f::r,m=>by simp only[List.cons_append,fullL,qzahk r m];omega
theorem qna:∀ l:List Fd,32*ilen l<=fullL l
 | []=>by simp [fullL,ilen]
 | f::r=>by have:=qzafu f;have:=qna r;simp only[fullL,ilen,List.length_cons] at *;omega
theorem qqr {l:List Fd}{i:Int}{f:Fd}(h:l[i.toNat]?=some f) (h0:0<=i):fullL (l.take (i+1).toNat)=fullL (l.take i.toNat)+szF f:=by
 rw[take_next h h0,qzahk];simp [fullL]
theorem qju (l:List Fd) (n:Nat):fullL (l.take n)<=fullL l:=by
 conv=>rhs;rw[<-List.take_append_drop n l]
 rw[qzahk]
 have:=qsa (l.drop n);omega
theorem qzavs {l:List Fd}{i:Nat}{f:Fd}(h:l[i]?=some f):szF f<=fullL l:=by
 have h1:=qju l (i+1);have h2:=qqr (i:=i) (by simpa using h) (by omega);have h3:=qsa (l.take i);rw[show ((i:Int)+1).toNat=i+1 by omega] at h2;simp only[Int.toNat_natCast] at h2;omega
def rightL (mx:Int) (l:List Fd):Bool:=decide (0<=mx/\mx<=4096/\fullL l<=mx)
def evN (mx:Int) (l:List Fd):Nat->Nat
 | 0=>0
 | n+1=>if fullL (l.take (n+1))<=mx then n+1 else evN mx l n
def evL (mx:Int) (l:List Fd):List Fd:=l.take (evN mx l l.length)
theorem evN_stop {mx:Int}{l:List Fd}{n:Nat}(h:fullL (l.take n)<=mx):evN mx l n=n:=by
 cases n with
 | zero=>rfl
 | succ n=>rw[evN,if_pos h]
theorem evN_next {mx:Int}{l:List Fd}{n:Nat}(h:¬fullL (l.take (n+1))<=mx):evN mx l (n+1)=evN mx l n:=by rw[evN,if_neg h]
theorem evN_full {mx:Int}{l:List Fd}(h0:0<=mx):∀ n,fullL (l.take (evN mx l n))<=mx
 | 0=>by simpa [evN,fullL] using h0
 | n+1=>by
  by_cases h:fullL (l.take (n+1))<=mx
  ·rw[evN_stop h];exact h
  ·rw[evN_next h];exact evN_full h0 n
theorem qzatc {mx:Int}{l:List Fd}(h0:0<=mx):fullL (evL mx l)<=mx:=evN_full h0 _
abbrev Tab:=Int×List Fd
def allF (l:List Fd):List Fd:=stL++l
def fstI (p:Fd->Bool):List Fd->Int->Int
 | [],_=>0
 | x::r,i=>if p x then i else fstI p r (i+1)
def findR (l:List Fd) (f:Fd):Int×Bool:=
 if fstI (λx=>x==f) (allF l) 1≠0 then (fstI (λx=>x==f) (allF l) 1,true) else (fstI (λx=>x.1==f.1) (allF l) 1,false)
end Tb
end Cz
namespace Cz
open Go Go.RowKit Go.Proofs
namespace Tb
def fdE (f:Fd):List SV:=[.s f.1,.s f.2]
def cellsF (l:List Fd):List SV:=l.flatMap fdE
theorem qri (l:List Fd):plains (cellsF l)=true:=qge (λ_=>rfl) l
def tabV (mx:Int) (l:List Fd):SV:=.ag [.i .i64 (.y mx),.v false 2 (cellsF l) (.y (ilen l))]
theorem cells_take (l:List Fd) (n:Nat):(cellsF l).take (n*2)=cellsF (l.take n):=by
 induction l generalizing n with
 | nil=>simp [cellsF]
 | cons f l ih=>
  cases n with
  | zero=>simp [cellsF]
  | succ n=>
   have:=ih n
   simp only[cellsF,List.flatMap_cons,fdE,List.take_succ_cons] at this ⊢;rw[show (n+1)*2=n*2+1+1 by omega];simp only[List.cons_append,List.nil_append,List.take_succ_cons];rw[this]
theorem row_tab {l':List Blk}{g:Nat->Nat}{ks:List (Option Nat)}{k:Nat}{len:Z}{cap:Option Z}{lit:Bool}{st:Z}{F:List SV}{lit':Bool}{n:Z}{l:List Fd}{m:Nat}(hB:l'[k]?=some (.r false lit st 2 F)) (hk:kpOf ks k=none)
  (hF:F=cellsF l) (hm:len.v=m) (hn:len.v=n.v):Fz l' g ks (.sl k 2 (.l 0) len cap) (.v lit' 2 (cellsF (l.take m)) n):=by
 refine qzasg hB hk ?_ (qri _) hn;rw[hF,show (Z.l 0).v.toNat*2=0 from rfl,List.drop_zero,show len.v.toNat=m by omega,cells_take]
inductive TabC (bl:List Blk):List SV->Int->List Fd->Prop where
 | v {z n:Z}{lit:Bool}{F:List SV}{mx:Int}{l:List Fd}(hz:z.v=mx) (hF:cellsF l=F) (hn:n.v=ilen l):TabC bl [.i .i64 z,.v lit 2 F n] mx l
 | nil {z:Z}{mx:Int}(hz:z.v=mx):TabC bl [.i .i64 z,.re (.slice none 0 0)] mx []
 | row {z n st:Z}{k:Nat}{lit:Bool}{cap:Option Z}{F:List SV}{mx:Int}{l l0:List Fd}(hz:z.v=mx) (hB:lget bl k=.r false lit st 2 F) (hF:cellsF l0=F) (hl:l=l0.take n.v.toNat) (hn:n.v=ilen l):TabC bl [.i .i64 z,.sl k 2 (.l 0) n cap] mx l
theorem TabC.fz {bl:List Blk}{cs:List SV}{mx:Int}{l:List Fd}(h:TabC bl cs mx l) {g:Nat->Nat}:FzL bl g [] [.ag cs] [tabV mx l]:=by
 cases h with
 | v hz hF hn=>exact .cons (.ag (.cons (.sub (qau hz) rfl) (.cons (.sub (qzamm hF.symm hn) rfl) .nil))) .nil
 | nil hz=>exact .cons (.ag (.cons (.sub (qau hz) rfl) (.cons (.sub (qpx (by decide) rfl rfl) rfl) .nil))) .nil
 | @row z n st k lit cap F mx l l0 hz hB hF hl hn=>
  subst hl;refine .cons (.ag (.cons (.sub (qau hz) rfl) (.cons (row_tab (qas hB (by simp)) rfl hF.symm ?_ hn) .nil))) .nil
  have:=qaj (l0.take n.v.toNat)
  omega
theorem rowF {S:Sy}(hS:S0 Tryz.prog=S) {l:List Fd}{F:List SV}(hF:cellsF l=F) {q:Int}{a b:List UInt8}{K:SV->Prop}(hv:l[q.toNat]?=some (a,b)) (h0:0<=q) (h:K (.ag [.s a,.s b])):S.rd F q 2 0 2 true K:=
 qal hS (enc:=fdE) hF hv (λ_=>rfl) h0 (Nat.le_refl _) rfl h
theorem rowF1 {S:Sy}(hS:S0 Tryz.prog=S) {l:List Fd}{F:List SV}(hF:cellsF l=F) {q:Int}{a b:List UInt8}{K:SV->Prop}(hv:l[q.toNat]?=some (a,b)) (h0:0<=q) (h:K (.s a)):S.rd F q 2 0 1 false K:=
 qal hS (enc:=fdE) hF hv (λ_=>rfl) h0 (by decide) rfl h
theorem rowF2 {S:Sy}(hS:S0 Tryz.prog=S) {l:List Fd}{F:List SV}(hF:cellsF l=F) {q:Int}{a b:List UInt8}{K:SV->Prop}(hv:l[q.toNat]?=some (a,b)) (h0:0<=q) (h:K (.s b)):S.rd F q 2 1 1 false K:=
 qal hS (enc:=fdE) hF hv (λ_=>rfl) h0 (by decide) rfl h
theorem size_f {a b:List UInt8}{n:Int}(hn:n=szF (a,b)) (h:n<=1000000000000000000):(S0 Tryz.prog).call 150 [.ag [.s a,.s b]] [] (λy _=>Sub y (.i .i64 (.y n))):=by
 generalize hS:S0 Tryz.prog=S;have g1:=qaj a;have g2:=qaj b;have hn':n=ilen a+ilen b+32:=hn;refine qaa hS I.qzaoq ?_;cbv
 repeat' (first|(refine qzawr hS ?_;intro _ _;try cbv)|fail)
 refine qau ?_;simp only[Z.v];omega
theorem rsize_f {a b:List UInt8}{n:Int}(hn:n=szF (a,b)) (h:n<=1000000000000000000):(S0 Tryz.prog).call 124 [.ag [.s a,.s b]] [] (λy _=>Sub y (.i .i64 (.y n))):=by
 generalize hS:S0 Tryz.prog=S;have g1:=qaj a;have g2:=qaj b;have hn':n=ilen a+ilen b+32:=hn;refine qaa hS I.qvi ?_;cbv
 repeat' (first|(refine s_sta hS ?_;intro _ _;try cbv)|(refine qzawr hS ?_;intro _ _;try cbv)|fail)
 refine qau ?_;simp only[Z.v];omega
section
variable {S:Sy}{bl:List Blk}{K:SV->List Blk->Prop}
theorem size_u (hS:S0 Tryz.prog=S) {a b:List UInt8}(h:szF (a,b)<=1000000000000000000) (hK:∀ n,n=szF (a,b)->K (.i .i64 (.y n)) bl):S.call 150 [.ag [.s a,.s b]] bl K:=
 qbg hS (size_f rfl h) .rfl rfl rfl (hK _ rfl)
theorem rsize_u (hS:S0 Tryz.prog=S) {a b:List UInt8}(h:szF (a,b)<=1000000000000000000) (hK:∀ n,n=szF (a,b)->K (.i .i64 (.y n)) bl):S.call 124 [.ag [.s a,.s b]] bl K:=
 qbg hS (rsize_f rfl h) .rfl rfl rfl (hK _ rfl)
end
theorem full_f {mx:Int}{l:List Fd}{n:Int}(hn:n=fullL l) (h:n<=100000000):(S0 Tryz.prog).call 192 [tabV mx l] [] (λy _=>Sub y (.i .i64 (.y n))):=by
 generalize hF:cellsF l=F;obtain⟨m,hm⟩:∃ m,m=ilen l:=⟨_,rfl⟩;have hlen:=qna l;have h0:=qaj l;unfold tabV;rw[hF,<-hm];generalize hS:S0 Tryz.prog=S;refine qaa hS I.qyk ?_;cbv;refine qad hS 1 I.qzabb (λx:Int×Int=>0<=x.1/\x.1<=m/\x.2=fullL (l.take x.1.toNat)) (λx=>[(2,.i .i64 (.y x.2)),(8,.i .i64 (.y x.1))]) (λ_=>[]) (λx=>(m-x.1).toNat) (0,0) rfl
  ⟨⟨Int.le_refl _,by omega,rfl⟩,rfl,?_,?_,by cbv⟩ ?_
 ·cbv;all_goals exact s_sA
 ·cbv;all_goals exact s_bA
 intro x;obtain⟨i,s⟩:=x;intro hx;dsimp only at hx;cbv;obtain⟨k0,k1,k2⟩:=hx;have hs0:=qsa (l.take i.toNat);have hs1:=qju l i.toNat;rw[<-k2] at hs0 hs1;refine qac hS ?_ ?_<;>intro h<;>cbv
 ·obtain⟨⟨a,b⟩,hp⟩:=qbi (l:=l) (i:=i) (by omega) k0
  have hsz:=qzavs hp;have hsp:=qzafu (a,b);have hnx:=qqr hp k0;rw[<-k2] at hnx;have hs2:=qju l (i+1).toNat
  repeat' (first|(refine s_st hS ?_;try cbv)|(refine s_sta hS ?_;intro _ _;try cbv)|(refine rowF hS hF hp (by omega) ?_;cbv)|(refine size_u hS (by omega) λn1 hn1=>?_;cbv)|fail)
  rename_i s2 hs2 i2 hi2;refine⟨(i2,s2),by dsimp only;omega,⟨by dsimp only;omega,by dsimp only;omega,by dsimp only;rw[hs2,hi2,hnx];omega⟩,rfl,?_,?_,by cbv⟩
  ·cbv;all_goals exact s_sA
  ·cbv;all_goals exact s_bA
 ·refine qau ?_
  simp only[Z.v];rw[hn,k2,qcs (by omega)]
theorem rfull_f {mx:Int}{l:List Fd}{n:Int}(hn:n=fullL l) (h:n<=100000000):(S0 Tryz.prog).call 56 [tabV mx l] [] (λy _=>Sub y (.i .i64 (.y n))):=by
 generalize hF:cellsF l=F;obtain⟨m,hm⟩:∃ m,m=ilen l:=⟨_,rfl⟩;have hlen:=qna l;have h0:=qaj l;unfold tabV;rw[hF,<-hm];generalize hS:S0 Tryz.prog=S;refine qaa hS I.qvj ?_;cbv;refine qad hS 1 I.qor (λx:Int×Int=>0<=x.1/\x.1<=m/\x.2=fullL (l.take x.1.toNat)) (λx=>[(3,.i .i64 (.y x.2)),(4,.i .i64 (.y x.1))]) (λ_=>[]) (λx=>(m-x.1).toNat) (0,0) rfl
  ⟨⟨Int.le_refl _,by omega,rfl⟩,rfl,?_,?_,by cbv⟩ ?_
 ·cbv;all_goals exact s_sA
 ·cbv;all_goals exact s_bA
 intro x;obtain⟨i,s⟩:=x;intro hx;dsimp only at hx;cbv;obtain⟨k0,k1,k2⟩:=hx;have hs0:=qsa (l.take i.toNat);have hs1:=qju l i.toNat;rw[<-k2] at hs0 hs1;refine qac hS ?_ ?_<;>intro h<;>cbv
 ·obtain⟨⟨a,b⟩,hp⟩:=qbi (l:=l) (i:=i) (by omega) k0
  have hsz:=qzavs hp;have hsp:=qzafu (a,b);have hnx:=qqr hp k0;rw[<-k2] at hnx;have hs2:=qju l (i+1).toNat
  repeat' (first|(refine s_st hS ?_;try cbv)|(refine s_sta hS ?_;intro _ _;try cbv)|(refine rowF hS hF hp (by omega) ?_;cbv)|(refine rsize_u hS (by omega) λn1 hn1=>?_;cbv)|fail)
  rename_i s2 hs2 i2 hi2;refine⟨(i2,s2),by dsimp only;omega,⟨by dsimp only;omega,by dsimp only;omega,by dsimp only;rw[hs2,hi2,hnx];omega⟩,rfl,?_,?_,by cbv⟩
  ·cbv;all_goals exact s_sA
  ·cbv;all_goals exact s_bA
 ·refine qau ?_
  simp only[Z.v];rw[hn,k2,qcs (by omega)]
section
variable {S:Sy}{bl:List Blk}{K:SV->List Blk->Prop}{cs:List SV}{mx:Int}{l:List Fd}
theorem full_u (hS:S0 Tryz.prog=S) (hc:TabC bl cs mx l) (h:fullL l<=100000000) (hK:∀ n,n=fullL l->K (.i .i64 (.y n)) bl):S.call 192 [.ag cs] bl K:=
 qzaft hS (full_f rfl h) hc.fz rfl rfl (hK _ rfl)
theorem rfull_u (hS:S0 Tryz.prog=S) (hc:TabC bl cs mx l) (h:fullL l<=100000000) (hK:∀ n,n=fullL l->K (.i .i64 (.y n)) bl):S.call 56 [.ag cs] bl K:=
 qzaft hS (rfull_f rfl h) hc.fz rfl rfl (hK _ rfl)
end
theorem qzave {mx:Int}{l:List Fd}{t:Bool}(ht:rightL mx l=t) (hb:fullL l<=100000000):(S0 Tryz.prog).call 142 [tabV mx l] [] (λy _=>Sub y (.b t)):=by
 generalize hF:cellsF l=F;obtain⟨m,hm⟩:∃ m,m=ilen l:=⟨_,rfl⟩;unfold tabV;rw[hF,<-hm];generalize hS:S0 Tryz.prog=S;refine qaa hS I.quh ?_;cbv;refine qag hS rfl I.qmp (by decide +kernel) ?_;cbv
 repeat' (first|(refine qac hS ?_ ?_<;>intro h<;>(try cbv)<;>try exact s_ab h)|(refine full_u hS (.v rfl hF hm) hb λn1 hn1=>?_;cbv)|fail)
 all_goals first|refine qgc ?_|refine qay ?_|refine qao ?_
 all_goals (rw[<-ht];simp only[<-hS,Int.ofNat_eq_natCast,cr,rightL,decide_eq_true_eq,decide_eq_false_iff_not,decide_eq_decide] at *;omega)
theorem qzana {mx:Int}{l:List Fd}{t:Bool}(ht:rightL mx l=t) (hb:fullL l<=100000000):(S0 Tryz.prog).call 25 [tabV mx l] [] (λy _=>Sub y (.b t)):=by
 generalize hF:cellsF l=F;obtain⟨m,hm⟩:∃ m,m=ilen l:=⟨_,rfl⟩;unfold tabV;rw[hF,<-hm];generalize hS:S0 Tryz.prog=S;refine qaa hS I.qtb ?_;cbv;refine qag hS rfl I.qnx (by decide +kernel) ?_;cbv
 repeat' (first|(refine qac hS ?_ ?_<;>intro h<;>(try cbv)<;>try exact s_ab h)|(refine rfull_u hS (.v rfl hF hm) hb λn1 hn1=>?_;cbv)|fail)
 all_goals first|refine qgc ?_|refine qay ?_|refine qao ?_
 all_goals (rw[<-ht];simp only[<-hS,Int.ofNat_eq_natCast,cr,rightL,decide_eq_true_eq,decide_eq_false_iff_not,decide_eq_decide] at *;omega)
end Tb
end Cz
namespace Cz
open Go Go.RowKit Go.Proofs
namespace Tb
def shortL (l:List Fd):Prop:=∀ f,f∈l->ilen f.1<=140737488355328/\ilen f.2<=140737488355328
theorem full_short {l:List Fd}(h:shortL l):fullL l<=281474976710688*ilen l:=by
 induction l with
 | nil=>simp [fullL,ilen]
 | cons f l ih=>
  have h1:=h f (List.mem_cons_self ..);have h2:=ih λg hg=>h g (List.mem_cons_of_mem _ hg);simp only[fullL,szF,ilen,List.length_cons] at *;omega
end Tb
end Cz
namespace Cz
open Go Go.RowKit Go.Proofs
namespace Tb
section
variable {S:Sy}{bl:List Blk}{K:SV->List Blk->Prop}{cs:List SV}{mx mx' e n:Int}{l l':List Fd}{F:List SV}{a b:List UInt8}
theorem right_l (hS:S0 Tryz.prog=S) (hc:TabC bl cs mx l) {t:Bool}(ht:rightL mx l=t) (h:fullL l<=100000000) (hK:K (ofB t) bl):S.call 142 [.ag cs] bl K:=
 qzaft hS (call_lit (qzave ht h)) hc.fz rfl (by cases t<;>rfl) hK
end
abbrev fa:Fd:=([97],[49])
abbrev fb:Fd:=([98],[50])
theorem right_ev {mx:Int}{l:List Fd}(h0:0<=mx) (h1:mx<=4096):rightL mx (evL mx l)=true:=decide_eq_true ⟨h0,h1,qzatc h0⟩
end Tb
end Cz
namespace Cz
open Go Go.RowKit Go.Proofs
namespace Tb
section
variable {S:Sy}{bl:List Blk}{K:SV->List Blk->Prop}{cs:List SV}{mx mx' e n:Int}{l l':List Fd}{F:List SV}{a b:List UInt8}
theorem rright_g (hS:S0 Tryz.prog=S) (hc:TabC bl cs mx l) {t:Bool}(ht:rightL mx l=t) (h:fullL l<=100000000) (hK:K (.b t) bl):S.call 25 [.ag cs] bl K:=
 qzaft hS (qzana ht h) hc.fz rfl rfl hK
end
end Tb
end Cz
namespace Cz
open Go Go.RowKit Go.Proofs
namespace Pa
def upP (w:Int):Int:=if w=1 then 64 else if w=2 then 16 else 0
def powP (w:Int):Int:=if w=1 then 64 else 16
end Pa
end Cz
namespace Cz
open Go Go.RowKit Go.Proofs
namespace Pa
open Tb
abbrev Fd:=Tb.Fd
def nmB (i:Int) (b:List UInt8) (w:Int):List Int:=putI i (powP w) (upP w)++bestT (byS b)
def fldB (f:Fd) (w:Int):List Int:=putI 0 (powP w) (upP w)++bestT (byS f.1)++bestT (byS f.2)
def idxB (i:Int):List Int:=putI i 128 128
def sizB (n:Int):List Int:=putI n 32 32
def ckN:List UInt8:=[99,111,111,107,105,101]
def wayP (mx:Int) (f:Fd):Int:=if f.1=ckN then 2 else if szF f<=mx then 1 else 3
def ownB (i:Int) (f:Fd) (w:Int):List Int:=if 0<i then nmB i f.2 w else fldB f w
def fieldB (mx:Int) (l:List Fd) (f:Fd):List Int:=if (Tb.findR l f).2=true then idxB (Tb.findR l f).1 else ownB (Tb.findR l f).1 f (wayP mx f)
def addP (mx:Int) (l:List Fd) (f:Fd):Bool:=decide ((Tb.findR l f).2=false/\wayP mx f=1)
def fieldL (mx:Int) (l:List Fd) (f:Fd):List Fd:=if addP mx l f=true then evL mx (f::l) else l
def blockB (mx:Int):List Fd->List Fd->List Int
 | _,[]=>[]
 | l,f::fs=>fieldB mx l f++blockB mx (fieldL mx l f) fs
def blockL (mx:Int):List Fd->List Fd->List Fd
 | l,[]=>l
 | l,f::fs=>blockL mx (fieldL mx l f) fs
theorem qzata {mx:Int}{l:List Fd}{f:Fd}(h:rightL mx l=true):rightL mx (fieldL mx l f)=true:=by
 unfold fieldL;have h':=of_decide_eq_true h;split
 ·exact decide_eq_true ⟨h'.1,h'.2.1,qzatc h'.1⟩
 ·exact h
theorem qzaik {mx:Int}:∀ {fs l:List Fd},rightL mx l=true->rightL mx (blockL mx l fs)=true
 | [],l,h=>h
 | f::fs,l,h=>by simp only[blockL];exact qzaik (qzata h)
end Pa
end Cz
namespace Cz
open Go Go.RowKit Go.Proofs
namespace Fa
theorem s_lit {S:Sy}{op:BK}{k:IntKind}{a b:Int}{K:Int->Prop}(hS:S0 Tryz.prog=S) (h:K (arS op k a b)) (hd:decide (a=a/\b=b)=true:=by decide):S.ar op k a b K:=qcg hS _ rfl h
theorem s_lic {S:Sy}{k:IntKind}{a:Int}{K:Int->Prop}(hS:S0 Tryz.prog=S) (h:K (k.wrap a)) (hd:decide (a=a)=true:=by decide):S.cv k a K:=s_cve hS _ rfl h
theorem s_brc {S:Sy}{op:BK}{a b:Int}{k1 k2:Unit->Prop}(hS:S0 Tryz.prog=S) (h:if op.cmpLit a b=true then k1 () else k2 ()) (hd:decide (a=a/\b=b)=true:=by decide):S.br (S.cmp op a b) k1 k2:=by
 subst hS;rw[show (S0 Tryz.prog).cmp op a b=op.cmpLit a b by cases op<;>rfl];cases hc:op.cmpLit a b with
 | true=>rw[hc,if_pos rfl] at h;exact⟨λ_=>h,λe=>(by cases e)⟩
 | false=>rw[hc,if_neg (by simp)] at h;exact⟨λe=>(by cases e),λ_=>h⟩
theorem s_nl {S:Sy}{n:Int}{k1 k2:Unit->Prop}(hS:S0 Tryz.prog=S) (h:k2 ()) (hd:decide (n=0)=false:=by decide):S.nil n k1 k2:=s_nil hS (λe=>by rw[decide_eq_false_iff_not] at hd;exact absurd e hd) h
end Fa
end Cz
