/- What the claims of this group lean on: CzNb Fa0 WsG WkA. No condition. -/
import Derived.Test.YtfijlhdheiebcaaGreatDoorKB12
set_option linter.unusedSimpArgs false
set_option linter.unusedVariables false
set_option maxRecDepth 100000
namespace Cz
open Go Go.RowKit
section
variable {P:Program}{l:List Blk}
theorem Rel.reblk {N:Nat->Prop}{W0 W:World}{ρ:Nms}(hR:Rel P N W0 ρ l W) {k:Nat}{cs cs':List SV}(hB:l[k]?=some (.c cs)) (hlen:cs'.length=cs.length)
  (hd:∀ (q:Nat) (x':SV),cs'[q]?=some x'->∃ x,cs[q]?=some x/\∀ v,den ρ x v->den ρ x' v):Rel P N W0 ρ (l.set k (.c cs')) W:=by
 have hk:=(List.getElem?_eq_some_iff.1 hB).1;have hat:∀ (j:Nat) (B:Blk),(l.set k (.c cs'))[j]?=some B->B.wr=true->∃ B0,l[j]?=some B0/\B0.wr=true:=by
  intro j B h hw;by_cases e:j=k
  ·subst e;exact⟨_,hB,rfl⟩
  ·rw[List.getElem?_set_ne (λh=>e h.symm)] at h;exact⟨B,h,hw⟩
 refine⟨hR.below,hR.le,λj hj=>hR.out j (by simpa using hj),hR.ids,λj B h=>?_,λj j' B vw vw' a a' h hw hne hv hv' ha ha'=>?_,λj B vw a h hw hv ha=>?_,hR.qN,hR.fin,λj B vw a h hw hv ha=>?_⟩
 ·by_cases e:j=k
  ·subst e
   rw[List.getElem?_set_self hk] at h;simp only[Option.some.injEq] at h;subst h;obtain⟨b,h1,h2,h3⟩:=hR.blk j _ hB;refine⟨b,by rw[h1,hlen],?_,by rw[hlen];exact h3⟩;refine⟨by rw[hlen];exact h2.1,λhb=>by (cases hb),λq x' hq hx'=>?_⟩;obtain⟨x,hx,hdx⟩:=hd q x' hx';obtain⟨a,v,g1,g2,g3⟩:=h2.2.2 q x (by simpa [hlen] using hq) hx;exact⟨a,v,g1,g2,hdx v g3⟩
  ·rw[List.getElem?_set_ne (λh=>e h.symm)] at h
   exact hR.blk j B h
 ·obtain⟨B0,g1,g2⟩:=hat j B h hw
  exact hR.sep j j' B0 vw vw' a a' g1 g2 hne hv hv' ha ha'
 ·obtain⟨B0,g1,g2⟩:=hat j B h hw
  exact hR.own j B0 vw a g1 g2 hv ha
 ·obtain⟨B0,g1,g2⟩:=hat j B h hw
  exact hR.fsep j B0 vw a g1 g2 hv ha
theorem qcf {S:Sy}(hS:S0 P=S) (k q sz:Nat) {cs:List SV}{cx:Cx}{b:IR}{K:VK}{e:Env}(hsz:0<sz) (hB:lget l k=.c cs) (hq:nth cs q=.re (.slice none 0 0))
  (h:S.loop cx b e (snoc (lset l k (.c (put cs q (nilRow l sz)))) (.r false true (.l 0) sz [])) K):S.loop cx b e l K:=by
 subst hS;have hB':=qas hB (by simp);have hk:=(List.getElem?_eq_some_iff.1 hB').1;rw[qdm,qbj] at h;intro c kl hc N W0 ρ rr a W hs hr hm;have hle:Le l.length ρ (upd ρ l.length [⟨none,0,0⟩]):=qrw (Nat.le_refl _);have hE:EnvOk (upd ρ l.length [⟨none,0,0⟩]) e.vs a.tmps:=hs.env.le hle hs.rel.out;have hM:MkOk (upd ρ l.length [⟨none,0,0⟩]) e.mks a.defers:=MkOk.le hle hs.rel.out _ _ hs.mks;have hG:=hs.rel.ghost false hsz;have hR:=hG.reblk (k:=k) (cs:=cs) (cs':=put cs q (nilRow l sz)) (by rw[List.getElem?_append_left hk];exact hB') (by rw[qes,List.length_set]) (by
  intro j x' hx';by_cases hj:j=q
  ·subst hj
   have hlt:j<cs.length:=by have:=(List.getElem?_eq_some_iff.1 hx').1;rw[qes,List.length_set] at this;exact this
   rw[qes,List.getElem?_set_self hlt] at hx';simp only[Option.some.injEq] at hx';subst hx';refine⟨_,List.getElem?_eq_getElem hlt,λv hd=>?_⟩
   have:cs[j]=.re (.slice none 0 0):=by rw[qfy,List.getD_eq_getElem?_getD,List.getElem?_eq_getElem hlt] at hq;exact hq
   rw[this] at hd;simp only[den] at hd;rw[hd.1];exact qzaln (by rw[qam];simp)
  ·rw[qes,List.getElem?_set_ne (λe=>hj e.symm)] at hx'
   exact⟨x',hx',λ_ h=>h⟩)
 rw[List.set_append_left _ _ hk] at hR;exact Wp.mono (h c kl hc N W0 _ rr a W ⟨hR,hE,hM⟩ (hr.le (qrw hm)) (by simp;omega)) λ_ _ _ q=>q.le (qrw hm)
end
theorem s_qA {p:Prop}(h:p:=by repeat' (first|exact trivial|exact SubB.rfl|exact Sub.rfl|refine And.intro ?_ ?_|(exact SubB.c (by with_reducible assumption))|refine SubB.c ?_|exact SubB.r .rfl rfl rfl|exact SubB.r .rfl rfl (by assumption)|exact SubM.nil|refine SubM.cons ?_ ?_ ?_|refine SubB.m ?_|exact qlm|exact SubL.nil|refine SubL.cons ?_ ?_|exact qau rfl|refine qpw ?_|refine qja ?_|exact sub_sl rfl rfl|exact qzamm rfl rfl|exact qay rfl|exact qao rfl|exact qbt rfl|exact qkt rfl|(refine qau ?_;simp only[Z.v];omega)|(refine qgc ?_;assumption)|(refine qay ?_;assumption)|(refine qao ?_;assumption))):p:=h
end Cz
namespace Cz
open Go Go.RowKit
def litB:Blk->Blk
 | .r ro _ st sz F=>.r ro true st sz F
 | B=>B
section
variable {P:Program}{N:Nat->Prop}{W0 W:World}{ρ:Nms}{l:List Blk}
theorem litB_ok {k:Nat}{B:Blk}(h:BlkOk P N W ρ k B):BlkOk P N W ρ k (litB B):=by
 cases B<;>try exact h
 obtain⟨h1,h2,_,h4⟩:=h;exact⟨h1,h2,(λe=>nomatch e),h4⟩
theorem litB_wr (B:Blk):(litB B).wr=B.wr:=by
 cases B<;>try rfl
 rename_i ro lit st sz F;cases ro<;>rfl
def litsL:List Blk->List Blk
 | []=>[]
 | B::r=>litB B::litsL r
theorem qzagw:∀ (l:List Blk),(litsL l).length=l.length
 | []=>rfl
 | _::r=>by simp only[litsL,List.length_cons,qzagw r]
theorem qzanm:∀ {l:List Blk}{k:Nat}{B':Blk},(litsL l)[k]?=some B'->∃ B,l[k]?=some B/\B'=litB B
 | [],k,B',h=>by simp [litsL] at h
 | B::r,0,B',h=>by
  simp only[litsL,List.getElem?_cons_zero,Option.some.injEq] at h;exact⟨B,by simp,h.symm⟩
 | B::r,k+1,B',h=>by
  simp only[litsL,List.getElem?_cons_succ] at h ⊢;exact qzanm h
theorem Rel.lits (h:Rel P N W0 ρ l W):Rel P N W0 ρ (litsL l) W:=by
 have hw:∀ (k:Nat) (B':Blk),(litsL l)[k]?=some B'->B'.wr=true->∃ B:Blk,l[k]?=some B/\B.wr=true:=by
  intro k B' hB hw;obtain⟨B,h1,rfl⟩:=qzanm hB;exact⟨B,h1,by rwa[litB_wr] at hw⟩
 refine⟨h.below,h.le,λk hk=>h.out k (by rwa[qzagw] at hk),h.ids,λk B' hB=>?_,?_,?_,h.qN,h.fin,?_⟩
 ·obtain⟨B,h1,rfl⟩:=qzanm hB
  exact litB_ok (h.blk k B h1)
 ·intro k k' B' vw vw' a a' hB hr hne hv hv' ha ha'
  obtain⟨B,h1,h2⟩:=hw k B' hB hr;exact h.sep k k' B vw vw' a a' h1 h2 hne hv hv' ha ha'
 ·intro k B' vw a hB hr hv ha
  obtain⟨B,h1,h2⟩:=hw k B' hB hr;exact h.own k B vw a h1 h2 hv ha
 ·intro k B' vw a hB hr hv ha
  obtain⟨B,h1,h2⟩:=hw k B' hB hr;exact h.fsep k B vw a h1 h2 hv ha
theorem call_lits {g:FuncId}{args:List SV}{K K':SV->List Blk->Prop}(h:(S0 P).call g args l K') (hK:∀ sv l',K' sv l'->K sv (litsL l')):(S0 P).call g args l K:=by
 intro N W0 ρ W vals hR hd;refine NextR.mono ?_ (h N W0 ρ W vals hR hd);rintro v W' ⟨ρ',x,l',hx,hle,hll,hR',hdv⟩;exact⟨ρ',x,litsL l',hK _ _ hx,hle,by rw[qzagw];exact hll,hR'.lits,hdv⟩
def LessL:List Blk->List Blk->Prop
 | [],[]=>True
 | B::l,B'::l'=>SubB B B'/\LessL l l'
 | _,_=>False
theorem LessL.len:∀ {l l2:List Blk},LessL l l2->l2.length=l.length
 | [],[],_=>rfl
 | [],_::_,h=>h.elim
 | _::_,[],h=>h.elim
 | _::_,_::_,h=>by simp only[List.length_cons,LessL.len h.2]
theorem LessL.at:∀ {l l2:List Blk},LessL l l2->∀ (k:Nat) (B':Blk),l2[k]?=some B'->∃ B,l[k]?=some B/\SubB B B'
 | [],[],_,k,B',h=>by simp at h
 | [],_::_,h,_,_,_=>h.elim
 | _::_,[],h,_,_,_=>h.elim
 | B::l,C::l2,h,0,B',hB=>by
  simp only[List.getElem?_cons_zero,Option.some.injEq] at hB;subst hB;exact⟨B,by simp,h.1⟩
 | B::l,C::l2,h,k+1,B',hB=>by
  simp only[List.getElem?_cons_succ] at hB ⊢;exact LessL.at h.2 k B' hB
theorem Rel.less {l2:List Blk}(h:Rel P N W0 ρ l W) (hl:LessL l l2):Rel P N W0 ρ l2 W:=by
 have hw:∀ (k:Nat) (B':Blk),l2[k]?=some B'->B'.wr=true->∃ B:Blk,l[k]?=some B/\B.wr=true:=by
  intro k B' hB hw;obtain⟨B,h1,h2⟩:=hl.at k B' hB;exact⟨B,h1,(qme h2 (h.blk k B h1)).2 hw⟩
 refine⟨h.below,h.le,λk hk=>h.out k (by rwa[hl.len] at hk),h.ids,λk B' hB=>?_,?_,?_,h.qN,h.fin,?_⟩
 ·obtain⟨B,h1,h2⟩:=hl.at k B' hB
  exact (qme h2 (h.blk k B h1)).1
 ·intro k k' B' vw vw' a a' hB hr hne hv hv' ha ha'
  obtain⟨B,h1,h2⟩:=hw k B' hB hr;exact h.sep k k' B vw vw' a a' h1 h2 hne hv hv' ha ha'
 ·intro k B' vw a hB hr hv ha
  obtain⟨B,h1,h2⟩:=hw k B' hB hr;exact h.own k B vw a h1 h2 hv ha
 ·intro k B' vw a hB hr hv ha
  obtain⟨B,h1,h2⟩:=hw k B' hB hr;exact h.fsep k B vw a h1 h2 hv ha
theorem s_less {S:Sy}(hS:S0 P=S) {l2:List Blk}{g:FuncId}{args:List SV}{K:SV->List Blk->Prop}(hl:LessL l l2) (h:S.call g args l2 K):S.call g args l K:=by
 subst hS;intro N W0 ρ W vals hR hd;refine NextR.mono ?_ (h N W0 ρ W vals (hR.less hl) hd);intro v W' hp;unfold OpPost at hp ⊢;rwa[hl.len] at hp
end
end Cz
namespace Cz
open Go Go.RowKit
def frB (B:Blk):Blk:=match B with
 | .r ro false st sz F=>.r ro false st sz F
 | _=>.dead
def frsh (k sz:Nat) (F:List SV) (l:List Blk):List Blk:=(l.map frB).set k (.r false false (.l 0) sz F)
theorem frB_wr {B:Blk}(h:(frB B).wr=true):frB B=B:=by
 unfold frB at *;split at h
 ·rfl
 ·cases h
section
variable {P:Program}{l:List Blk}
theorem call_fresh {K:SV->List Blk->Prop}{g:FuncId}{args:List SV}
  (hF:(S0 P).call g args [] (λx l'=>∃ (k sz:Nat) (z:Z) (lit:Bool) (st:Z) (F pre post:List SV),x=.ag (pre++.sl k sz (.l 0) z none::post)/\refsBL (λi=>!Nat.beq i k) pre=true/\refsBL (λi=>!Nat.beq i k) post=true /\
   l'[k]?=some (.r false lit st sz F)/\plains F=true/\z.v.toNat*sz=F.length/\K x (frsh k sz F l'))):(S0 P).call g args [] K:=by
 intro N W0 ρ W vals hR hd;refine NextR.mono ?_ (hF N W0 ρ W vals hR hd);rintro v W' ⟨ρ',x,l',⟨k,sz,z,lit,st,F,pre,post,rfl,hpre,hpost,hB,hp,hfull,hK⟩,hle,hll,hR',hdv⟩;have hk:=(List.getElem?_eq_some_iff.1 hB).1;obtain⟨hsz,hvs,_,hown⟩:=hR'.blk k _ hB;obtain⟨cur,hcur,hcn,hown2,hcap,hall⟩:=hown rfl;simp only[den] at hdv;obtain⟨vs,hv,hdl⟩:=hdv;obtain⟨u,hu,du⟩:=qbk pre.length (.sl k sz (.l 0) z none) hdl (by simp);simp only[den] at du;obtain⟨h0,h1,vw,hvw,hin,hs⟩:=du;have e0:(Z.l 0).v.toNat=0:=rfl;rw[e0,Nat.zero_add] at hin;have hvF:=(hvs vw hvw).1;have hvn:vw.n=F.length:=by omega
 have hsame:vw.base=cur.base/\vw.cap=cur.cap:=by
  rcases hall vw hvw with h2|⟨_,h2,_⟩
  ·exact h2
  ·omega
 let ρ2:Nms:=⟨λi=>if i=k then [vw] else ρ' i,ρ'.fz,ρ'.q⟩
 have hk2:ρ2 k=[vw]:=by simp [ρ2]
 have ho2:∀ i,i≠k->ρ2 i=ρ' i:=λi hi=>by simp [ρ2,hi]
 have hsub:∀ i vw',vw'∈ρ2 i->vw'∈ρ' i:=λi vw' hv'=>by
  by_cases e:i=k
  ·subst e
   rw[hk2,List.mem_singleton] at hv';subst hv';exact hvw
  ·rw[ho2 i e] at hv';exact hv'
 have hlen:(frsh k sz F l').length=l'.length:=by simp [frsh]
 have hat:∀ (i:Nat) (B:Blk),(frsh k sz F l')[i]?=some B->(i=k/\B=.r false false (.l 0) sz F)∨(i≠k/\∃ B0,l'[i]?=some B0/\B=frB B0):=by
  intro i B h;unfold frsh at h;by_cases e:i=k
  ·subst e
   rw[List.getElem?_set_self (by simpa using hk)] at h;exact .inl ⟨rfl,(Option.some.inj h).symm⟩
  ·rw[List.getElem?_set_ne (λh=>e h.symm),List.getElem?_map] at h
   obtain⟨B0,h2,h3⟩:=Option.map_eq_some_iff.1 h;exact .inr ⟨e,B0,h2,h3.symm⟩
 have hwr:∀ (i:Nat) (B:Blk),(frsh k sz F l')[i]?=some B->B.wr=true->∃ B0,l'[i]?=some B0/\B0.wr=true:=by
  intro i B h hw;rcases hat i B h with ⟨rfl,rfl⟩|⟨_,B0,h2,rfl⟩
  ·exact⟨_,hB,rfl⟩
  ·rw[frB_wr hw] at hw
   exact⟨B0,h2,hw⟩
 refine⟨ρ2,_,frsh k sz F l',hK,⟨λi hi=>absurd hi (Nat.not_lt_zero i),hle.fz,hle.fq,hle.q⟩,by simp,⟨hR'.below,hR'.le,?_,?_,?_,?_,?_,hR'.qN,hR'.fin,?_⟩,?_⟩
 ·intro i hi
  rw[hlen] at hi;rw[ho2 i (by omega)];exact hR'.out i hi
 ·exact λi vw' a hv' ha=>hR'.ids i vw' a (hsub i vw' hv') ha
 ·intro i B h
  rcases hat i B h with ⟨rfl,rfl⟩|⟨e,B0,h2,rfl⟩
  ·refine⟨hsz,λvw' hv'=>?_,λ_ y hy=>qbw hp y hy,λ_=>⟨vw,by rw[hk2];simp,hvn,λvw' hv'=>?_,by rw[hsame.2,hvn,<-hcn];exact hcap,λvw' hv'=>?_⟩⟩
   ·rw[hk2,List.mem_singleton] at hv';subst hv'
    exact ViewOk.plain (ρ:=ρ') ρ2 (λ_ _ _ h=>h) hp (hvs _ hvw)
   ·rw[hk2,List.mem_singleton] at hv';subst hv';exact hown2 _ hvw
   ·rw[hk2,List.mem_singleton] at hv';subst hv';exact .inl ⟨rfl,rfl⟩
  ·have hb:=hR'.blk i B0 h2
   unfold frB;split
   ·rename_i ro st' sz' F'
    obtain⟨g1,g2,g3,g4⟩:=hb;have hpF:plains F'=true:=qwt λx hx=>g3 rfl x hx;refine⟨g1,λvw' hv'=>?_,g3,λhro=>?_⟩
    ·rw[ho2 i e] at hv'
     exact ViewOk.plain (ρ:=ρ') ρ2 (λ_ _ _ h=>h) hpF (g2 _ hv')
    ·rw[ho2 i e]
     exact g4 hro
   ·trivial
 ·intro i i' B vw1 vw2 a a' h hw hne hv' hv'' ha ha'
  obtain⟨B0,h2,h3⟩:=hwr i B h hw;exact hR'.sep i i' B0 vw1 vw2 a a' h2 h3 hne (hsub _ _ hv') (hsub _ _ hv'') ha ha'
 ·intro i B vw1 a h hw hv' ha
  obtain⟨B0,h2,h3⟩:=hwr i B h hw;exact hR'.own i B0 vw1 a h2 h3 (hsub _ _ hv') ha
 ·intro i B vw1 a h hw hv' ha o
  obtain⟨B0,h2,h3⟩:=hwr i B h hw;exact hR'.fsep i B0 vw1 a h2 h3 (hsub _ _ hv') ha o
 ·simp only[den]
  refine⟨vs,hv,?_⟩;have hren:∀ (xs:List SV) (us:List Value),refsBL (λi=>!Nat.beq i k) xs=true->denL ρ' xs us->denL ρ2 xs us:=λxs us hr hd=>by
   have:=qlj (ok:=λi=>!Nat.beq i k) (f:=id) (ρ:=ρ') (ρ':=ρ2) (λ_ _ _ h=>h) (λi hi vw' hv'=>by
    have:i≠k:=λe=>by simp [e] at hi
    show vw'∈ρ2 i;rw[ho2 i this];exact hv') xs us hr hd
   rwa[qqa] at this
  refine qcx (qan hdl) λq y hy=>?_;obtain⟨w,hw,dw⟩:=qbk q y hdl hy;refine⟨w,hw,?_⟩;by_cases e:q=pre.length
  ·subst e
   simp only[List.getElem?_append_right (Nat.le_refl _),Nat.sub_self,List.getElem?_cons_zero,Option.some.injEq] at hy;subst hy;rw[hu] at hw;cases hw;simp only[den];exact⟨h0,h1,vw,by rw[hk2];simp,by rw[e0,Nat.zero_add];exact hin,hs⟩
  ·have hr:refsB (λi=>!Nat.beq i k) y=true:=by
    rcases Nat.lt_or_ge q pre.length with h2|h2
    ·rw[List.getElem?_append_left h2] at hy
     exact qml hpre q y hy
    ·rw[List.getElem?_append_right h2] at hy
     obtain⟨q',hq'⟩:∃ q',q-pre.length=q'+1:=⟨q-pre.length-1,by omega⟩;rw[hq',List.getElem?_cons_succ] at hy;exact qml hpost q' y hy
   have:=hren [y] [w] (by simp only[refsBL,hr,Bool.and_self]) (by simp only[denL];exact⟨dw,trivial⟩)
   simp only[denL] at this;exact this.1
end
section
variable {P:Program}{l:List Blk}
theorem use_keptZ {S:Sy}(hS:S0 P=S) {Z:(Nat->Int)->Prop}{g:FuncId}{args args':List SV}{rows:List (Nat×List SV)}{y:Nat->SV}{K:SV->List Blk->Prop}(hF:(S0 P).call g args' [] (KeptZ Z rows y)) (ha:SubL args args')
  (hr:refsBL (λ_=>false) args'=true) (hg:goodRows rows) (hK:∀ sts,Z sts->K (y (len l)) (snocs l (rowBs sts rows 0))):S.call g args l K:=by
 subst hS;refine qgp ha (qzace hF hr hg λsts hz=>?_)
 have:=hK sts hz
 rwa[qno,qbs] at this
end
end Cz
namespace Cz
open Go Go.RowKit
theorem qzavi:∀ (x:SV),plainV (lit x)=plainV x
 | .b x=>by cases x<;>rfl
 | .i _ _=>rfl
 | .ag _=>rfl
 | .tp _=>rfl
 | .tt=>rfl
 | .ff=>rfl
 | .s _=>rfl
 | .p _ _=>rfl
 | .pe _ _ _ _=>rfl
 | .pv _ _ _ _ _=>rfl
 | .v _ _ _ _=>rfl
 | .sl _ _ _ _ _=>rfl
 | .fn _ _ _=>rfl
 | .yl _=>rfl
 | .m _=>rfl
 | .re _=>rfl
 | .un=>rfl
 | .any=>rfl
theorem qzaci:∀ (xs:List SV),plains (litL xs)=plains xs
 | []=>rfl
 | x::xs=>by simp only[litL,plains];rw[qzavi,qzaci xs]
mutual
theorem qzahw:∀ (x:SV) (ρ:Nms) (v:Value),den ρ (lit x) v->den ρ x v
 | .b x,_,_,d=>by cases x<;>simpa [lit,ofB,den] using d
 | .i _ _,_,_,d=>by simpa [lit,den,Z.v] using d
 | .ag cs,ρ,v,d=>by
  simp only[den,lit] at d ⊢;obtain⟨vs,e,r⟩:=d;exact⟨vs,e,qzaax cs ρ _ r⟩
 | .tp cs,ρ,v,d=>by
  simp only[den,lit] at d ⊢;obtain⟨vs,e,r⟩:=d;exact⟨vs,e,qzaax cs ρ _ r⟩
 | .tt,_,_,d=>d
 | .ff,_,_,d=>d
 | .s _,_,_,d=>d
 | .p _ _,_,_,d=>d
 | .pe _ _ _ _,_,_,d=>d
 | .pv _ _ _ _ _,_,_,d=>d
 | .v lt sz F n,ρ,v,d=>by
  simp only[den,lit] at d ⊢;obtain⟨h0,h1,h2,h3,h4⟩:=d;exact⟨h0,h1,by rw[qzann] at h2;exact h2,by rw[<-qzaci];exact h3,h4.imp (λ⟨b,o,c,e,hc,hb,r⟩=>⟨b,o,c,e,hc,hb,qzalp F ρ b o r⟩) id⟩
 | .sl _ _ _ _ _,_,_,d=>d
 | .fn _ _ _,_,_,d=>d
 | .yl _,_,_,d=>d
 | .m _,_,_,d=>d
 | .re _,_,_,d=>d
 | .un,_,_,d=>d
 | .any,_,_,d=>d
theorem qzaax:∀ (xs:List SV) (ρ:Nms) (vs:List Value),denL ρ (litL xs) vs->denL ρ xs vs
 | [],_,[],d=>d
 | [],_,_::_,d=>by simp [denL,litL] at d
 | _::_,_,[],d=>by simp [denL,litL] at d
 | x::xs,ρ,v::vs,d=>by
  simp only[denL,litL] at d ⊢;exact⟨qzahw x ρ v d.1,qzaax xs ρ vs d.2⟩
theorem qzalp:∀ (xs:List SV) (ρ:Nms) (b o:Nat),denF ρ (litL xs) b o->denF ρ xs b o
 | [],_,_,_,_=>by simp [denF]
 | x::xs,ρ,b,o,d=>by
  simp only[denF,litL] at d ⊢;obtain⟨⟨u,e,d1⟩,d2⟩:=d;exact⟨⟨u,e,qzahw x ρ u d1⟩,qzalp xs ρ b (o+1) d2⟩
end
theorem qwk {x:SV}:Sub (lit x) x:=⟨λρ v d=>qzahw x ρ v d⟩
theorem qrp:∀ {xs:List SV},SubL (litL xs) xs
 | []=>.nil
 | _::_=>.cons qwk qrp
theorem qrq:∀ {xs ys zs:List SV},SubL xs ys->SubL ys zs->SubL xs zs
 | _,_,_,.nil,.nil=>.nil
 | _,_,_,.cons h hs,.cons g gs=>.cons (h.trans g) (qrq hs gs)
theorem qzayu:∀ {xs ys:List SV},SubL xs ys->∀ {ρ:Nms}{b o:Nat},denF ρ xs b o->denF ρ ys b o
 | _,_,.nil,_,_,_,d=>d
 | _,_,.cons h hs,_,_,_,d=>by
  simp only[denF] at d ⊢;obtain⟨⟨u,e,d1⟩,d2⟩:=d;exact⟨⟨u,e,h.of _ _ d1⟩,qzayu hs d2⟩
theorem subl_len:∀ {xs ys:List SV},SubL xs ys->xs.length=ys.length
 | _,_,.nil=>rfl
 | _,_,.cons _ hs=>by simp [subl_len hs]
theorem sub_vl {lit lit':Bool}{sz:Nat}{F F':List SV}{n n':Z}(h:SubL F F') (hp:plains F'=true) (hn:n.v=n'.v):Sub (.v lit sz F n) (.v lit' sz F' n'):=⟨λρ v d=>by
 simp only[den] at d ⊢;rw[<-hn,<-subl_len h];obtain⟨h0,h1,h2,h3,h4⟩:=d;exact⟨h0,h1,h2,hp,h4.imp (λ⟨b,o,c,e,hc,hb,r⟩=>⟨b,o,c,e,hc,hb,qzayu h r⟩) id⟩⟩
section
variable {P:Program}{l:List Blk}
theorem qpv {S:Sy}(hS:S0 P=S) {g:FuncId}{args args':List SV}{y z:SV}{K:SV->List Blk->Prop}(hF:(S0 P).call g args' [] (Tell y)) (ha:SubL args (litL args'))
  (hr:refsBL (λ_=>false) args'=true) (hz:lit y=z) (hK:K z l):S.call g args l K:=by
 subst hS hz;exact qae (qaq rfl hF (qrq ha qrp) hr (K:=λx l'=>x=y/\l'=l) ⟨rfl,rfl⟩) λx l' h=>⟨lit y,h.1▸qzafv,h.2▸hK⟩
theorem use_litv {S:Sy}(hS:S0 P=S) {g:FuncId}{args args':List SV}{y z:SV}{K:SV->List Blk->Prop}(hF:(S0 P).call g args' [] (λx _=>Sub x y)) (ha:SubL args (litL args'))
  (hr:refsBL (λ_=>false) args'=true) (hs:refsB (λ_=>false) y=true) (hz:lit y=z) (hK:K z l):S.call g args l K:=by
 subst hS hz;exact qae (qbg rfl hF (qrq ha qrp) hr hs (K:=λx l'=>x=y/\l'=l) ⟨rfl,rfl⟩) λx l' h=>⟨lit y,h.1▸qzafv,h.2▸hK⟩
theorem use_flit {S:Sy}(hS:S0 P=S) (fs:List Nat) {g:FuncId}{args args':List SV}{y z:SV}{K:SV->List Blk->Prop}(hF:(S0 P).call g args' [] (Tell y)) (ha:FzL l id (others fs (len l)) args args')
  (hr:refsBL (λ_=>false) args'=true) (hz:lit y=z) (hK:K z (frzL fs 0 l)):S.call g args l K:=by
 subst hS hz;exact qae (use_frz rfl fs (rows:=[]) (y:=λ_=>y) (qae hF λx l' h=>⟨x,.rfl,[],trivial,λm=>h _⟩) ha hr trivial (K:=λx l'=>x=y/\l'=frzL fs 0 l) (λ_=>⟨rfl,rfl⟩)) λx l' h=>⟨lit y,h.1▸qzafv,h.2▸hK⟩
end
end Cz
