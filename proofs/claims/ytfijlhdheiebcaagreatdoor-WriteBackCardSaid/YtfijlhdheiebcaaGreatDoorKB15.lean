/- What the claims of this group lean on: Wr3. No condition. -/
import Derived.Test.YtfijlhdheiebcaaGreatDoorKB14
set_option linter.unusedSimpArgs false
set_option linter.unusedVariables false
set_option maxRecDepth 100000
set_option maxHeartbeats 4000000
namespace Cz
open Go Go.RowKit Go.Proofs
namespace Wr
theorem parted_f {w k a b M:Int}(h0:0<=w) (h1:w<18446744073709551616) (hk:0<=k/\k<=8) (hM:M=2 ^ (7*k).toNat) (ha:a=w%1152921504606846976%M) (hb:b=w%1152921504606846976-a):
  (S0 Tryz.prog).call 240 [.i .u64 (.y w),.i .i64 (.y k)] [] (λx _=>Sub x (.tp [.i .u64 (.y a),.i .u64 (.y b)])):=by
 have hM0:1<=M/\M<=72057594037927936:=by
  rw[hM];have h2:=pow_56 (n:=k.toNat) (by omega);have h3:(7*k).toNat=7*k.toNat:=by omega
  have h4:(2:Int) ^ 56=72057594037927936:=by decide
  have h5:(0:Int)<2 ^ (7*k.toNat):=Int.pow_pos (by decide);rw[h3];omega
 generalize hS:S0 Tryz.prog=S;refine qaa hS I.qzakh ?_;cbv
 repeat' (first|(refine s_ck hS ?_;try cbv)|(refine s_sb hS ?_;intro _ _;try cbv)|(refine s_low60 hS h0 h1 ?_;intro _ _;cbv)|(refine qzr hS ?_ (by simp only[lo];omega) (by simp only[hi];omega);intro _ _;cbv)|(refine qgu hS (c:=M) (by rw[hM];simp only[IntKind.bits];congr 1;omega) ?_ (by simp only[lo];omega) (by simp only[hi];omega);intro _ _;cbv)|(refine qku hS (c:=M) (m:=(7*k).toNat) ⟨by omega,hM.symm,by simp only[IntKind.bits];omega⟩ ?_;intro _ _;cbv)|(refine s_xorlow hS (M:=M) (m:=(7*k).toNat) hM.symm (by omega) (by omega) (by assumption) ?_;intro _ _;cbv)|fail)
 rename_i r1 e1 r2 e2 r3 e3 r4 e4 r5 e5 r6 e6;have q1:a=r5:=by rw[ha,e5,e1]
 have q2:b=r6:=by rw[hb,e6,e1,q1]
 subst q1 q2
 all_goals exact s_sA
section
variable {S:Sy}{l:List Blk}{K:SV->List Blk->Prop}
theorem qzn (hS:S0 Tryz.prog=S) {w s:Int}{L:List (Int×Int)}(hw:w=wdI L) (hL:Good L) (k:Int) (t:Bool) (hk:findK L s=k) (ht:findB L s=t) (h:K (.tp [.i .i64 (.y k),.b t]) l):S.call 239 [.i .u64 (.y w),.i .i64 (.y s)] l K:=by
 subst hS;exact qai (qae (wfind_f hL hw hk ht) λx _ hx=>⟨_,hx,.rfl⟩) rfl rfl h
theorem qzanj (hS:S0 Tryz.prog=S) {w k:Int}(M:Int) (h0:0<=w) (h1:w<18446744073709551616) (hk:0<=k/\k<=8) (hM:M=2 ^ (7*k).toNat)
  (h:∀ a b,a=w%1152921504606846976%M->b=w%1152921504606846976-a->K (.tp [.i .u64 (.y a),.i .u64 (.y b)]) l):S.call 240 [.i .u64 (.y w),.i .i64 (.y k)] l K:=by
 subst hS;exact qai (qae (parted_f h0 h1 hk hM rfl rfl) λx _ hx=>⟨_,hx,.rfl⟩) rfl rfl (h _ _ rfl rfl)
end
theorem wout_f {L:List (Int×Int)}{w s w':Int}{t:Bool}(hL:Good L) (hw:w=wdI L) (hw':w'=wdI (outL L s)) (ht:findB L s=t):
  (S0 Tryz.prog).call 190 [.i .u64 (.y w),.i .i64 (.y s)] [] (λx _=>Sub x (.tp [.i .u64 (.y w'),.b t])):=by
 obtain⟨p1,p2,p3,p4⟩:=qds hL.bd hL.len;rw[<-hw] at p1 p2 p3 p4;obtain⟨k,hk⟩:∃ k,findK L s=k:=⟨_,rfl⟩;cases t with
 | false=>
  have e:w'=w:=by rw[hw',out_none ht,hw]
  subst e;generalize hS:S0 Tryz.prog=S;refine qaa hS I.qzahp ?_;cbv;refine qzn hS hw hL k false hk ht ?_;cbv
  repeat' (first|(refine qac hS ?_ ?_<;>intro h<;>(try cbv)<;>try exact s_ab h)|fail)
  all_goals exact s_sA
 | true=>
  have hf:∃ q,findP L s=some q:=by
   unfold findB at ht;cases h:findP L s with
   | none=>rw[h] at ht;cases ht
   | some q=>exact⟨q,rfl⟩
  obtain⟨q,hq⟩:=hf;have hkq:k=(q:Int):=by rw[<-hk];unfold findK;rw[hq];rfl
  obtain⟨y,hy,hys,ho,hql⟩:=out_at hL hq;have hn8:=hL.len;have hlen:ilen L=L.length:=rfl;obtain⟨c1,c2,c3⟩:=wd_cut hL (k:=q) (by omega);obtain⟨d1,d2,d3⟩:=wd_cut hL (k:=q+1) (by omega);have hcy:=cd_bd hL.bd (List.mem_of_getElem? hy);have hdrop:lowI (L.drop q)=cd y+128*lowI (L.drop (q+1)):=by
   obtain⟨hq',e⟩:=List.getElem?_eq_some_iff.1 hy;rw[List.drop_eq_getElem_cons hq',e];rfl
  have hw2:w'=1152921504606846976*(ilen L-1)+(lowI (L.take q)+2 ^ (7*q)*lowI (L.drop (q+1))):=by
   rw[hw',ho];unfold wdI;rw[qzagv,List.length_take,Nat.min_eq_left (by omega)]
   have:ilen (L.take q++L.drop (q+1))=ilen L-1:=by unfold ilen;simp;omega
   rw[this]
  rw[<-hw] at c1;generalize hA:lowI (L.take q)=A at *;generalize hB:lowI (L.drop (q+1))=B at *;rw[hdrop] at c1 c3;generalize hC:cd y=C at *;generalize hN:ilen L=n at *;have hq7:q=0∨q=1∨q=2∨q=3∨q=4∨q=5∨q=6∨q=7:=by omega
  have hb3:B<2 ^ (7*(7-q)):=by
   have h1:(2:Int) ^ (7*(L.length-(q+1)))<=2 ^ (7*(7-q)):=by
    have:(2:Nat) ^ (7*(L.length-(q+1)))<=2 ^ (7*(7-q)):=Nat.pow_le_pow_right (by omega) (by omega)
    exact_mod_cast this
   omega
  obtain⟨M,hM⟩:∃ M:Int,M=2 ^ (7*q):=⟨_,rfl⟩;have hMk:M=2 ^ (7*k).toNat:=by rw[hM,hkq];congr 1
  have hM1:∀ b,b=7*k->(2:Int) ^ (min b.toNat 64)=M:=λb hb=>by rw[hM,hb,hkq];congr 1;omega
  have hM2:∀ b,b=7*(k+1)->(2:Int) ^ (min b.toNat 64)=M*128:=λb hb=>by
   rw[hM,hb,hkq,show (128:Int)=2 ^ 7 by decide,<-Int.pow_add];congr 1;omega
  have hk0:0<=k/\k<=7:=by omega
  have hn1:1<=n:=by omega
  rw[<-hM] at c1 c2 hw2;have hB0:=d3.1;clear d1 d2 hdrop ho hy hys hq hw' d3 c3;rcases hq7 with rfl|rfl|rfl|rfl|rfl|rfl|rfl|rfl
  all_goals
   simp only[Nat.mul_zero,Nat.reduceMul,Int.pow_zero,Int.reducePow,Nat.reduceSub] at hM hb3;clear hlen hql;generalize hS:S0 Tryz.prog=S;refine qaa hS I.qzahp ?_;cbv;refine qzn hS hw hL k true hk ht ?_;cbv
   repeat' (first|(refine s_ck hS ?_;try cbv)|(refine qac hS ?_ ?_<;>intro h<;>(try cbv)<;>try exact s_ab h)|(refine s_ad hS ?_;intro _ _;try cbv)|(refine s_sb hS ?_;intro _ _;try cbv)|(refine qzanj hS M p3 p4 (by omega) hMk ?_;intro a b ha hb;cbv)|(refine qbd hS (c:=1152921504606846976) rfl ?_;intro _ _;cbv)|(refine qgu hS (c:=1152921504606846976) rfl ?_ (by simp only[lo];omega) (by simp only[hi];omega);intro _ _;cbv)|(refine qzr hS ?_ (by simp only[lo];omega) (by simp only[hi];omega);intro _ _;cbv)|(refine qbd hS (c:=M*128) (hM2 _ (by omega)) ?_;intro _ _;cbv)|(refine qgu hS (c:=M) (hM1 _ (by omega)) ?_ (by simp only[lo];subst hM;omega) (by simp only[hi];subst hM;omega);intro _ _;cbv)|(refine qwm hS (c:=1152921504606846976) (m:=60) rfl (by omega) (by omega) (by subst hM;omega) (by subst hM;omega) (by simp only[hi];subst hM;omega) ?_;intro _ _;cbv)|(refine qwm hS (c:=M) (m:=(7*k).toNat) hMk.symm (by subst hM;omega) (by subst hM;omega) (by subst hM;omega) (by subst hM;omega) (by simp only[hi];subst hM;omega) ?_;intro _ _;cbv)|fail)
   exact qpw (.cons (qau (by simp only[Z.v];subst hM;omega)) (.cons (qay rfl) .nil))
end Wr
end Cz
