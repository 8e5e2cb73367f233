/- What the claims of this group lean on: WrR WrS WrT WrU WrV WrW. No condition. -/
import Derived.Test.YtfijlhdheiebcaaGreatDoorKB21
set_option linter.unusedSimpArgs false
set_option linter.unusedVariables false
set_option maxRecDepth 100000
set_option maxHeartbeats 4000000
namespace Cz
open Go Go.RowKit Go.Proofs
namespace Wr
section
variable {S:Sy}{l:List Blk}{K:SV->List Blk->Prop}
theorem dlist_u (hS:S0 Tryz.prog=S) {w:Int}(L:List (Int×Int)) (F:List SV) (n:Int) (h0:0<=w) (h1:w<18446744073709551616) (hn:n=min (w/1152921504606846976) 8) (hL:dlst w n.toNat=L) (hF:cells2 L=F) (h:K (.v false 2 F (.y n)) l):S.call 187 [.i .u64 (.y w)] l K:=by
 subst hL hF;exact qaq hS (dlist_f h0 h1 hn) (.cons .rfl .nil) rfl h
theorem dword_u (hS:S0 Tryz.prog=S) {L:List (Int×Int)}{n:Int}{F:List SV}(w:Int) (hl:Bd L) (hn:n=ilen L) (hn8:n<=8) (hF:cells2 L=F) (hw:wdI L=w) (h:K (.i .u64 (.y w)) l):S.call 188 [.v false 2 F (.y n)] l K:=by
 subst hS;exact qai (qae (dword_f hl hn hn8 hF hw) λx _ hx=>⟨_,hx,.rfl⟩) rfl rfl h
end
def PrOk (L:List (Int×Int)) (m:Nat):Prop:=∀ i k y z,i<m->k<i->L[k]?=some y->L[i]?=some z->y.1≠z.1/\y.2<=z.2
theorem qzawf (w:Int):∀ n,Bd (dlst w n)
 | 0=>λx hx=>by cases hx
 | n+1=>λx hx=>by
  rw[dlst,List.mem_append] at hx;rcases hx with hx|hx
  ·exact qzawf w n x hx
  ·simp only[List.mem_cons,List.not_mem_nil,or_false] at hx
   subst hx;unfold dplc;dsimp only;omega
theorem dwr_f {w n:Int}{L:List (Int×Int)}{t:Bool}(h0:0<=w) (h1:w<18446744073709551616) (hn:n=min (w/1152921504606846976) 8) (hL:dlst w n.toNat=L) (ht:t=true↔wdI L=w/\PrOk L L.length):
  (S0 Tryz.prog).call 127 [.i .u64 (.y w)] [] (λx _=>Sub x (.b t)):=by
 have hn0:0<=n/\n<=8:=by omega
 have hlen:L.length=n.toNat:=by rw[<-hL,qok]
 have hil:n=ilen L:=by unfold ilen;omega
 have hbd:Bd L:=hL▸qzawf w _;obtain⟨F,hF⟩:∃ F,cells2 L=F:=⟨_,rfl⟩;obtain⟨v,hv⟩:∃ v,wdI L=v:=⟨_,rfl⟩;rw[hv,hlen] at ht;have hff:¬ (v=w/\PrOk L n.toNat)->t=false:=λh=>Bool.eq_false_iff.2 λe=>h (ht.1 e);generalize hS:S0 Tryz.prog=S;refine qaa hS I.qsz ?_;cbv
 repeat' (first|(refine qac hS ?_ ?_<;>intro h<;>(try cbv)<;>try exact s_ab h)|(refine dlist_u hS L F n h0 h1 hn hL hF ?_;cbv)|(refine dword_u hS v hbd hil hn0.2 hF hv ?_;cbv)|fail)
 ·refine qao (hff λh=>?_)
  have:=h.1
  contradiction
 refine qad hS 0 I.qnj (λx:Int=>0<=x/\x<=n/\PrOk L x.toNat) (λx=>[(4,.i .i64 (.y x))]) (λ_=>[]) (λx=>(n-x).toNat) 0 rfl ⟨⟨Int.le_refl _,hn0.1,λi k y z hi=>by omega⟩,rfl,?_,?_,by cbv⟩ ?_
 ·cbv;all_goals exact s_sA
 ·cbv;try all_goals exact s_bA
 intro x hx;cbv;obtain⟨g0,g1,g2⟩:=hx;refine s_br hS ?_ ?_<;>intro h'<;>cbv<;>simp only[<-hS,Int.ofNat_eq_natCast,cq,Bool.not_eq_true',Bool.not_eq_false',decide_eq_true_eq,decide_eq_false_iff_not,beq_iff_eq,beq_eq_false_iff_ne,ne_eq] at h'
 ·obtain⟨⟨a,b⟩,hx⟩:=qbi (l:=L) (i:=x) (by omega) g0
  refine qad hS 0 I.qni (λk:Int=>0<=k/\k<=x/\∀ q y,q<k.toNat->L[q]?=some y->y.1≠a/\y.2<=b) (λk=>[(5,.i .i64 (.y k))]) (λ_=>[]) (λk=>(x-k).toNat) 0 rfl ⟨⟨Int.le_refl _,g0,λq y hq=>by omega⟩,rfl,?_,?_,by cbv⟩ ?_
  ·cbv;all_goals exact s_sA
  ·cbv;try all_goals exact s_bA
  intro k hk;cbv;obtain⟨j0,j1,j2⟩:=hk;refine qac hS ?_ ?_<;>intro hk<;>cbv
  ·obtain⟨⟨c,d⟩,hk2⟩:=qbi (l:=L) (i:=k) (by omega) j0
   repeat' (first|(refine s_ck hS ?_;try cbv)|(refine qac hS ?_ ?_<;>intro h<;>(try cbv)<;>try exact s_ab h)|(refine s_ad hS ?_;intro _ _;try cbv)|(refine qag hS rfl I.qnv (by decide +kernel) ?_;cbv)|(refine qal hS (enc:=p1) (l:=L) hF hx (λ_=>rfl) g0 (by omega) rfl ?_;cbv)|(refine qal hS (enc:=p1) (l:=L) hF hk2 (λ_=>rfl) j0 (by omega) rfl ?_;cbv)|fail)
   ·refine qao (hff λhh=>?_)
    have:=hh.2 x.toNat k.toNat (c,d) (a,b) (by omega) (by omega) hk2 hx
    exact this.1 h
   ·refine qao (hff λhh=>?_)
    have:=(hh.2 x.toNat k.toNat (c,d) (a,b) (by omega) (by omega) hk2 hx).2
    dsimp only at this;omega
   ·rename_i r1 e1
    refine⟨r1,by omega,⟨by omega,by omega,λq y hq hy=>?_⟩,rfl,?_,?_,by cbv⟩
    ·by_cases e:q=k.toNat
     ·subst e
      rw[hk2] at hy;cases hy;exact⟨by assumption,by dsimp only;omega⟩
     ·exact j2 q y (by omega) hy
    ·cbv;all_goals exact s_sA
    ·cbv;try all_goals exact s_bA
  ·repeat' (first|(refine s_ad hS ?_;intro _ _;try cbv)|fail)
   rename_i r1 e1;refine⟨r1,by omega,⟨by omega,by omega,λi q y z hi hq hy hz=>?_⟩,rfl,?_,?_,by cbv⟩
   ·by_cases e:i=x.toNat
    ·subst e
     rw[hx] at hz;cases hz;exact j2 q y (by omega) hy
    ·exact g2 i q y z (by omega) hq hy hz
   ·cbv;all_goals exact s_sA
   ·cbv;try all_goals exact s_bA
 ·skip
  refine qay (ht.2 ⟨by omega,?_⟩);rw[show n.toNat=x.toNat by omega];exact g2
end Wr
end Cz
namespace Cz
open Go Go.RowKit Go.Proofs
namespace Wr
theorem pr_good {L:List (Int×Int)}(hb:Bd L) (hl:ilen L<=8) (h:PrOk L L.length):Good L:=by
 refine⟨hl,hb,?_,?_⟩
 ·unfold List.Nodup
  rw[List.pairwise_map,List.pairwise_iff_getElem];intro i j hi hj hij;exact (h j i L[i] L[j] hj hij (List.getElem?_eq_getElem hi) (List.getElem?_eq_getElem hj)).1
 ·rw[List.pairwise_iff_getElem]
  intro i j hi hj hij;exact (h j i L[i] L[j] hj hij (List.getElem?_eq_getElem hi) (List.getElem?_eq_getElem hj)).2
theorem good_pr {L:List (Int×Int)}(h:Good L):PrOk L L.length:=by
 intro i k y z hi hk hy hz;obtain⟨hk1,rfl⟩:=List.getElem?_eq_some_iff.1 hy;obtain⟨hi1,rfl⟩:=List.getElem?_eq_some_iff.1 hz;have h1:=h.nd;unfold List.Nodup at h1;rw[List.pairwise_map,List.pairwise_iff_getElem] at h1;have h2:=h.srt;rw[List.pairwise_iff_getElem] at h2;exact⟨h1 k i hk1 hi1 hk,h2 k i hk1 hi1 hk⟩
theorem dlst_at (w:Int):∀ (n k:Nat),k<n->(dlst w n)[k]?=some (dplc w k)
 | 0,_,h=>by omega
 | n+1,k,h=>by
  rw[dlst];by_cases e:k=n
  ·subst e
   rw[List.getElem?_append_right (by rw[qok];omega),qok];simp
  ·rw[List.getElem?_append_left (by rw[qok];omega)]
   exact dlst_at w n k (by omega)
theorem qzaaw {L:List (Int×Int)}(hb:Bd L) (hl:ilen L<=8):dlst (wdI L) L.length=L:=by
 refine List.ext_getElem? λk=>?_;by_cases h:k<L.length
 ·rw[dlst_at _ _ _ h,List.getElem?_eq_getElem h]
  have h1:=plc_wd hb hl (List.getElem?_eq_getElem h);have h2:=qzawk hb (List.getElem_mem h);unfold dplc;have e:(7*((k:Nat):Int)).toNat=7*k:=by omega
  unfold plc at h1;rw[e] at h1;rw[h1,h2.1,h2.2]
 ·rw[List.getElem?_eq_none (by rw[qok];omega),List.getElem?_eq_none (by omega)]
end Wr
end Cz
namespace Cz
open Go Go.RowKit Go.Proofs
namespace Wr
section
variable {S:Sy}{l:List Blk}{K:SV->List Blk->Prop}
theorem dwr_u (hS:S0 Tryz.prog=S) {L:List (Int×Int)}{w:Int}(hL:Good L) (hw:w=wdI L) (h:K .tt l):S.call 127 [.i .u64 (.y w)] l K:=by
 obtain⟨p1,p2,p3,p4⟩:=qds hL.bd hL.len;rw[<-hw] at p1 p2 p3 p4;have hn:ilen L=min (w/1152921504606846976) 8:=by rw[p1];have:=hL.len;omega
 have hd:dlst w (ilen L).toNat=L:=by rw[hw];exact qzaaw hL.bd hL.len
 subst hS;exact qai (qae (dwr_f (t:=true) p3 p4 hn hd ⟨λ_=>⟨hw.symm,good_pr hL⟩,λ_=>rfl⟩) λx _ hx=>⟨.tt,hx.trans (qbt rfl),.rfl⟩) rfl rfl h
theorem dlist_g (hS:S0 Tryz.prog=S) {L:List (Int×Int)}{w:Int}(F:List SV) (n:Int) (hL:Good L) (hw:w=wdI L) (hF:cells2 L=F) (hn:n=ilen L) (h:K (.v false 2 F (.y n)) l):S.call 187 [.i .u64 (.y w)] l K:=by
 obtain⟨p1,p2,p3,p4⟩:=qds hL.bd hL.len;rw[<-hw] at p1 p2 p3 p4;refine dlist_u hS L F n p3 p4 (by rw[p1,hn];have:=hL.len;omega) ?_ hF h;rw[hw,hn];exact qzaaw hL.bd hL.len
end
theorem dmany_f {L:List (Int×Int)}{w n:Int}(hL:Good L) (hw:w=wdI L) (hn:n=ilen L):(S0 Tryz.prog).call 189 [.i .u64 (.y w)] [] (λx _=>Sub x (.i .i64 (.y n))):=by
 obtain⟨F,hF⟩:∃ F,cells2 L=F:=⟨_,rfl⟩;generalize hS:S0 Tryz.prog=S;refine qaa hS I.qvf ?_;cbv
 repeat' (first|(refine dwr_u hS hL hw ?_;cbv)|(refine dlist_g hS F n hL hw hF hn ?_;cbv)|fail)
 all_goals exact s_sA
section
variable {S:Sy}{l:List Blk}{K:SV->List Blk->Prop}
theorem dmany_u (hS:S0 Tryz.prog=S) {L:List (Int×Int)}{w:Int}(n:Int) (hL:Good L) (hw:w=wdI L) (hn:n=ilen L) (h:K (.i .i64 (.y n)) l):S.call 189 [.i .u64 (.y w)] l K:=by
 subst hS;exact qai (qae (dmany_f hL hw hn) λx _ hx=>⟨_,hx,.rfl⟩) rfl rfl h
end
theorem dat_f {L:List (Int×Int)}{w k a b:Int}(hL:Good L) (hw:w=wdI L) (h0:0<=k) (hk:L[k.toNat]?=some (a,b)):(S0 Tryz.prog).call 131 [.i .u64 (.y w),.i .i64 (.y k)] [] (λx _=>Sub x (.tp [.i .i64 (.y a),.i .i64 (.y b),.tt])):=by
 obtain⟨F,hF⟩:∃ F,cells2 L=F:=⟨_,rfl⟩;obtain⟨n,hn⟩:∃ n,n=ilen L:=⟨_,rfl⟩;have hkn:k<n:=by
  have:=(List.getElem?_eq_some_iff.1 hk).1
  unfold ilen at hn;omega
 generalize hS:S0 Tryz.prog=S;refine qaa hS I.qzaas ?_;cbv
 repeat' (first|(refine s_ck hS ?_;try cbv)|(refine qac hS ?_ ?_<;>intro h<;>(try cbv)<;>try exact s_ab h)|(refine dmany_u hS n hL hw hn ?_;cbv)|(refine dlist_g hS F n hL hw hF hn ?_;cbv)|(refine qag hS rfl I.qsk (by decide +kernel) ?_;cbv)|(refine qal hS (enc:=p1) (l:=L) hF hk (λ_=>rfl) h0 (by omega) rfl ?_;cbv)|fail)
 all_goals first
  | (exfalso;omega)
  | exact s_qA
end Wr
end Cz
namespace Cz
open Go Go.RowKit Go.Proofs
namespace Wr
section
variable {S:Sy}{l:List Blk}{K:SV->List Blk->Prop}
theorem dat_u (hS:S0 Tryz.prog=S) {L:List (Int×Int)}{w k a b:Int}(hL:Good L) (hw:w=wdI L) (h0:0<=k) (hk:L[k.toNat]?=some (a,b)) (h:K (.tp [.i .i64 (.y a),.i .i64 (.y b),.tt]) l):S.call 131 [.i .u64 (.y w),.i .i64 (.y k)] l K:=by
 subst hS;exact qai (qae (dat_f hL hw h0 hk) λx _ hx=>⟨_,hx,.rfl⟩) rfl rfl h
end
theorem dfind_f {L:List (Int×Int)}{w s k:Int}{t:Bool}(hL:Good L) (hw:w=wdI L) (hk:findK L s=k) (ht:findB L s=t):
  (S0 Tryz.prog).call 128 [.i .u64 (.y w),.i .i64 (.y s)] [] (λx _=>Sub x (.tp [.i .i64 (.y k),.b t])):=by
 obtain⟨n,hn⟩:∃ n,n=ilen L:=⟨_,rfl⟩;have hn0:=qaj L;have hn8:=hL.len;rw[<-hn] at hn0 hn8;generalize hS:S0 Tryz.prog=S;refine qaa hS I.qvg ?_;cbv;refine qad hS 0 I.qop (λx:Int=>0<=x/\x<=n/\∀ j:Nat,j<x.toNat->∀ y,L[j]?=some y->y.1≠s) (λx=>[(6,.i .i64 (.y x))]) (λ_=>[]) (λx=>(n-x).toNat) 0 rfl ⟨⟨Int.le_refl _,hn0,λj hj=>by omega⟩,rfl,?_,?_,by cbv⟩ ?_
 ·cbv;all_goals exact s_sA
 ·cbv;try all_goals exact s_bA
 intro x hx;cbv;obtain⟨g0,g1,g2⟩:=hx;refine dmany_u hS n hL hw hn ?_;cbv;refine s_br hS ?_ ?_<;>intro h'<;>cbv<;>simp only[<-hS,Int.ofNat_eq_natCast,cq,Bool.not_eq_true',Bool.not_eq_false',decide_eq_true_eq,decide_eq_false_iff_not,beq_iff_eq,beq_eq_false_iff_ne,ne_eq] at h'
 ·obtain⟨⟨a,b⟩,hy⟩:=qbi (l:=L) (i:=x) (by omega) g0
  repeat' (first|(refine qac hS ?_ ?_<;>intro h<;>(try cbv)<;>try exact s_ab h)|(refine s_ad hS ?_;intro _ _;try cbv)|(refine dat_u hS hL hw g0 hy ?_;cbv)|fail)
  ·have hf:=qzalj (s:=s) hy h (λj hj z hz=>g2 j (by omega) z hz)
   have hk':k=x:=by rw[<-hk];unfold findK;rw[hf];simp;omega
   have ht':t=true:=by rw[<-ht];unfold findB;rw[hf];rfl
   subst hk' ht'
   all_goals exact s_sA
  ·rename_i r1 e1
   refine⟨r1,by omega,⟨by omega,by omega,λj hj z hz=>?_⟩,rfl,?_,?_,by cbv⟩
   ·by_cases e:j=x.toNat
    ·subst e
     rw[hy] at hz;cases hz;exact h
    ·exact g2 j (by omega) z hz
   ·cbv;all_goals exact s_sA
   ·cbv;try all_goals exact s_bA
 ·skip
  have hf:findP L s=none:=qzalk λj z hz=>g2 j (by have:=(List.getElem?_eq_some_iff.1 hz).1;unfold ilen at hn;omega) z hz;have hk':k=0:=by rw[<-hk];unfold findK;rw[hf]
  have ht':t=false:=by rw[<-ht];unfold findB;rw[hf];rfl
  subst hk' ht'
  all_goals exact s_sA
end Wr
end Cz
namespace Cz
open Go Go.RowKit Go.Proofs
namespace Wr
def hldI (H:Nat->Int) (s:Int):Int:=if H 0=s then 0 else if H 1=s then 1 else if H 2=s then 2 else if H 3=s then 3 else if H 4=s then 4 else if H 5=s then 5 else if H 6=s then 6 else if H 7=s then 7 else -1
theorem dholds_f {H:Nat->Int}{w s k:Int}(hs:0<=s/\s<=7) (hk:hldI H s=k):(S0 Tryz.prog).call 130 [rdyV w H,.i .i64 (.y s)] [] (λx _=>Sub x (.i .i64 (.y k))):=by
 unfold rdyV rdyC;generalize hS:S0 Tryz.prog=S;refine qaa hS I.qsu ?_;cbv
 repeat' (first|(refine qac hS ?_ ?_<;>intro h<;>(try cbv)<;>try exact s_ab h)|(refine qax hS ?_;cbv)|(refine qaa hS I.qgw ?_;cbv)|fail)
 all_goals
  unfold hldI at hk;simp only[*,if_true,if_false] at hk
  first
   | (refine qau ?_;simp only[Z.v];omega)
   | (exfalso;omega)
end Wr
end Cz
namespace Cz
open Go Go.RowKit Go.Proofs
namespace Wr
def HOk (L:List (Int×Int)) (H:Nat->Int) (n:Nat):Prop:=∀ u,u<n->H u=-1∨(findB L (H u)=false/\(0<=H u/\H u<=7)/\hldI H (H u)=Int.ofNat u)
theorem lt8 {p:Nat->Prop}(h0:p 0) (h1:p 1) (h2:p 2) (h3:p 3) (h4:p 4) (h5:p 5) (h6:p 6) (h7:p 7) (j:Nat) (hj:j<8):p j:=by
 have:j=0∨j=1∨j=2∨j=3∨j=4∨j=5∨j=6∨j=7:=by omega
 rcases this with rfl|rfl|rfl|rfl|rfl|rfl|rfl|rfl<;>assumption
theorem qzalg {H:Nat->Int}{s k:Int}(h:hldI H s=k):(k=-1/\∀ j,j<8->H j≠s)∨(∃ c:Nat,c<8/\k=Int.ofNat c/\H c=s/\∀ j,j<c->H j≠s):=by
 unfold hldI at h;by_cases h0:H 0=s
 ·rw[if_pos h0] at h;exact .inr ⟨0,by omega,h.symm,h0,λj hj=>by omega⟩
 rw[if_neg h0] at h;by_cases h1:H 1=s
 ·rw[if_pos h1] at h;exact .inr ⟨1,by omega,h.symm,h1,λj hj=>by (have:j=0:=by omega);subst this;assumption⟩
 rw[if_neg h1] at h;by_cases h2:H 2=s
 ·rw[if_pos h2] at h;exact .inr ⟨2,by omega,h.symm,h2,λj hj=>by (have:j=0∨j=1:=by omega);rcases this with rfl|rfl<;>assumption⟩
 rw[if_neg h2] at h;by_cases h3:H 3=s
 ·rw[if_pos h3] at h;exact .inr ⟨3,by omega,h.symm,h3,λj hj=>by (have:j=0∨j=1∨j=2:=by omega);rcases this with rfl|rfl|rfl<;>assumption⟩
 rw[if_neg h3] at h;by_cases h4:H 4=s
 ·rw[if_pos h4] at h;exact .inr ⟨4,by omega,h.symm,h4,λj hj=>by (have:j=0∨j=1∨j=2∨j=3:=by omega);rcases this with rfl|rfl|rfl|rfl<;>assumption⟩
 rw[if_neg h4] at h;by_cases h5:H 5=s
 ·rw[if_pos h5] at h;exact .inr ⟨5,by omega,h.symm,h5,λj hj=>by (have:j=0∨j=1∨j=2∨j=3∨j=4:=by omega);rcases this with rfl|rfl|rfl|rfl|rfl<;>assumption⟩
 rw[if_neg h5] at h;by_cases h6:H 6=s
 ·rw[if_pos h6] at h;exact .inr ⟨6,by omega,h.symm,h6,λj hj=>by (have:j=0∨j=1∨j=2∨j=3∨j=4∨j=5:=by omega);rcases this with rfl|rfl|rfl|rfl|rfl|rfl<;>assumption⟩
 rw[if_neg h6] at h;by_cases h7:H 7=s
 ·rw[if_pos h7] at h;exact .inr ⟨7,by omega,h.symm,h7,λj hj=>by (have:j=0∨j=1∨j=2∨j=3∨j=4∨j=5∨j=6:=by omega);rcases this with rfl|rfl|rfl|rfl|rfl|rfl|rfl<;>assumption⟩
 rw[if_neg h7] at h;exact .inl ⟨h.symm,lt8 h0 h1 h2 h3 h4 h5 h6 h7⟩
theorem mem_allT {L:List (Int×Int)}{H:Nat->Int}{y:Int×Int}:∀ {n:Nat},y∈allT L H n->(∃ k,k<n/\0<=H k/\y=(H k,Int.ofNat k))∨(y∈L/\∃ k,k<n/\y.2=Int.ofNat k)
 | 0,h=>by simp [allT] at h
 | n+1,h=>by
  rw[allT,List.mem_append,List.mem_append] at h;rcases h with h|h|h
  ·rcases mem_allT h with ⟨k,a,b⟩|⟨a,k,b,c⟩
   ·exact .inl ⟨k,by omega,b⟩
   ·exact .inr ⟨a,k,by omega,c⟩
  ·unfold hldU at h
   split at h
   ·rename_i h0
    simp only[List.mem_cons,List.not_mem_nil,or_false] at h;exact .inl ⟨n,by omega,h0,h⟩
   ·cases h
  ·unfold slU at h
   rw[List.mem_map] at h;obtain⟨s,hs,rfl⟩:=h;exact .inr ⟨qzs.1 hs,n,by omega,rfl⟩
theorem good_to {L:List (Int×Int)}{H:Nat->Int}(hL:Good L) (h:HOk L H 8):GoodR L H:=by
 refine⟨hL,λk hk=>(h k hk).imp id λx=>x.2.1,?_⟩;have nf:∀ u,u<8->0<=H u->∀ y∈L,y.1≠H u:=λu hu h0 y hy e=>by
  rcases h u hu with e1|e1
  ·omega
  ·exact qyq e1.1 (List.mem_map.2 ⟨y,hy,e⟩)
 have nh:∀ u k,u<8->k<u->0<=H u->H k≠H u:=λu k hu hk h0=>by
  rcases h u hu with e1|e1
  ·omega
  ·rcases qzalg e1.2.2 with ⟨a,b⟩|⟨c,_,c1,_,c3⟩
   ·exact b k (by omega)
   ·exact c3 k (by have:=Int.ofNat.inj c1;omega)
 have hs:∀ n l,(slU n l).map (·.1)=l:=λn l=>by
  unfold slU
  induction l with
  | nil=>rfl
  | cons a l ih=>simp only[List.map_cons] at ih ⊢;rw[ih]
 have main:∀ n,n<=8->((allT L H n).map (·.1)).Nodup:=by
  intro n
  induction n with
  | zero=>intro _;simp [allT]
  | succ n ih=>
   intro hn;rw[allT,List.map_append,List.nodup_append];refine⟨ih (by omega),?_,?_⟩
   ·rw[List.map_append,List.nodup_append,hs]
    refine⟨?_,?_,?_⟩
    ·unfold hldU;split<;>simp
    ·unfold rowU;exact ((List.filter_sublist (l:=L)).map _).nodup hL.nd
    ·intro a ha b hb e
     unfold hldU at ha;split at ha
     ·rename_i h0
      simp only[List.map_cons,List.map_nil,List.mem_cons,List.not_mem_nil,or_false] at ha;exact nf n (by omega) h0 _ (qzs.1 hb) (by dsimp only;rw[<-e,ha])
     ·cases ha
   ·intro a ha b hb e
    obtain⟨y,hy,rfl⟩:=List.mem_map.1 ha;rw[List.map_append,hs,List.mem_append] at hb;have hb':(0<=H n/\b=H n)∨(b,Int.ofNat n)∈L:=by
     rcases hb with hb|hb
     ·unfold hldU at hb
      split at hb
      ·rename_i h0
       simp only[List.map_cons,List.map_nil,List.mem_cons,List.not_mem_nil,or_false] at hb;exact .inl ⟨h0,hb⟩
      ·cases hb
     ·exact .inr (qzs.1 hb)
    rcases mem_allT hy with ⟨k,k1,k2,rfl⟩|⟨y1,k,k1,k2⟩
    ·dsimp only at e
     rcases hb' with ⟨b1,b2⟩|b1
     ·exact nh n k (by omega) k1 b1 (e.trans b2)
     ·exact nf k (by omega) k2 _ b1 e.symm
    ·rcases hb' with ⟨b1,b2⟩|b1
     ·exact nf n (by omega) b1 y y1 (e.trans b2)
     ·have:=qzank hL.nd y1 b1 e
      rw[this] at k2
      have:=Int.ofNat.inj k2
      omega
 exact main 8 (Nat.le_refl _)
theorem qzase {L:List (Int×Int)}{H:Nat->Int}(hR:GoodR L H):HOk L H 8:=by
 intro u hu;rcases hR.held u hu with e|e
 ·exact .inl e
 ·refine .inr ⟨?_,e,?_⟩
  ·cases hf:findB L (H u) with
   | false=>rfl
   | true=>
    obtain⟨y,hy,h1⟩:=List.mem_map.1 (qzaff.1 hf);have h2:=qzank hR.nd ((qzaae hR.w).2 (.inr hy)) (qle hu e.1) h1;have hnd:((grp L H u).map (·.1)).Nodup:=by
     have hs:(grp L H u).Sublist (allR L H):=by rw[qkh hu];exact (List.sublist_append_left _ _).trans (List.sublist_append_right _ _)
     exact (hs.map _).nodup hR.nd
    unfold grp hldU at hnd;rw[if_pos e.1,List.map_append] at hnd;exact absurd rfl ((List.nodup_append.1 hnd).2.2 (H u) (by simp) (H u) (List.mem_map.2 ⟨(H u,Int.ofNat u),List.mem_map.2 ⟨H u,qzs.2 (by rw[<-h2];exact hy),rfl⟩,rfl⟩))
  ·rcases qzalg (H:=H) (s:=H u) rfl with ⟨_,b⟩|⟨c,c0,c1,c2,_⟩
   ·exact absurd rfl (b u hu)
   ·have h2:=qzank hR.nd (qle c0 (by omega)) (qle hu e.1) c2
    rw[c1];exact congrArg Prod.snd h2
theorem of_held {L:List (Int×Int)}{H:Nat->Int}{s:Int}{c:Nat}(hR:GoodR L H) (hc:c<8) (h:H c=s) (hs:0<=s):ofK (allR L H) s=Int.ofNat c/\ofB (allR L H) s=true:=by
 have:=qzagu hR.nd (qle hc (by omega))
 rw[h] at this;exact⟨this.2,this.1⟩
theorem of_word {L:List (Int×Int)}{H:Nat->Int}{s:Int}{c:Nat}{u:Int}(hR:GoodR L H) (hn:∀ j,j<8->H j≠s) (hf:findB L s=true) (hk:findK L s=Int.ofNat c) (hy:L[c]?=some (s,u)):ofK (allR L H) s=u/\ofB (allR L H) s=true:=by
 have:=qzagu hR.nd ((qzaae hR.w).2 (.inr (List.mem_of_getElem? hy)))
 exact⟨this.2,this.1⟩
theorem of_none {L:List (Int×Int)}{H:Nat->Int}{s:Int}(hR:GoodR L H) (hs:0<=s) (hn:∀ j,j<8->H j≠s) (hf:findB L s=false):ofK (allR L H) s=0/\ofB (allR L H) s=false:=by
 have hb:ofB (allR L H) s=false:=by
  cases h:ofB (allR L H) s with
  | false=>rfl
  | true=>
   obtain⟨y,hy,h1⟩:=List.mem_map.1 (qwy.1 h);rcases (qzaae hR.w).1 hy with ⟨k,k1,k2,rfl⟩|h2
   ·exact absurd h1 (hn k k1)
   ·exact absurd (List.mem_map.2 ⟨y,h2,h1⟩) (qyq hf)
 refine⟨?_,hb⟩;unfold ofB at hb;unfold ofK;cases e:atR (allR L H) s with
 | none=>rfl
 | some u=>rw[e] at hb;cases hb
theorem find_at {L:List (Int×Int)}{s:Int}(hf:findB L s=true):∃ (c:Nat) (u:Int),findK L s=Int.ofNat c/\L[c]?=some (s,u):=by
 unfold findB at hf;unfold findK;cases e:findP L s with
 | none=>rw[e] at hf;cases hf
 | some c=>
  unfold findP at e;rw[List.findIdx?_eq_some_iff_getElem] at e;obtain⟨h1,h2,_⟩:=e;have h3:L[c].1=s:=by simpa using h2
  exact⟨c,L[c].2,rfl,by rw[List.getElem?_eq_getElem h1,<-h3]⟩
end Wr
end Cz
