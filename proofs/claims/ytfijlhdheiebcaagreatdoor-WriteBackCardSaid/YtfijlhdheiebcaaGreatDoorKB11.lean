/- What the claims of this group lean on: E4. No condition. -/
import Derived.Test.YtfijlhdheiebcaaGreatDoorKB3
import Derived.ProofKit
import Derived.OpenShut
import Derived.Deep.Slices
import Derived.Carry
import Derived.SizedLaws
set_option linter.unusedSimpArgs false
set_option linter.unusedVariables false
namespace Cz
open Go Go.RowKit
mutual
theorem ren_id:∀ (x:SV),ren id x=x
 | .tt=>rfl
 | .ff=>rfl
 | .b _=>rfl
 | .i _ _=>rfl
 | .s _=>rfl
 | .p _ _=>rfl
 | .pe _ _ _ _=>rfl
 | .pv _ _ _ _ _=>rfl
 | .v _ _ _ _=>rfl
 | .sl _ _ _ _ _=>rfl
 | .ag cs=>by simp only[ren,qqa cs]
 | .tp cs=>by simp only[ren,qqa cs]
 | .fn _ a c=>by simp only[ren,qqa a,qqa c]
 | .yl _=>rfl
 | .m _=>rfl
 | .re _=>rfl
 | .un=>rfl
 | .any=>rfl
theorem qqa:∀ (xs:List SV),renL id xs=xs
 | []=>rfl
 | x::xs=>by simp only[renL,ren_id x,qqa xs]
end
def takeB:Nat->List Blk->List Blk
 | 0,_=>[]
 | _+1,[]=>[]
 | n+1,b::l=>b::takeB n l
theorem qzaeu:∀ (n:Nat) (l:List Blk),takeB n l=l.take n
 | 0,_=>by simp [takeB]
 | _+1,[]=>by simp [takeB]
 | n+1,b::l=>by simp [takeB,qzaeu n l]
def low (m:Nat):Nat->Bool:=λk=>Nat.blt k m
def gcM (m:Nat):List (SV×SV)->Bool
 | []=>true
 | (k,v)::r=>refsB (low m) k&&refsB (low m) v&&gcM m r
def gcB (m:Nat):Blk->Bool
 | .c cs=>refsBL (low m) cs
 | .r _ lit _ _ F=>match lit with|true=>refsBL (low m) F|false=>true
 | .m es=>gcM m es
 | .it km _ _=>Nat.blt km m
 | .lp vs _ _ _ _=>refsBL (low m) vs
 | _=>true
def gcBs (m:Nat):List Blk->Bool
 | []=>true
 | b::l=>gcB m b&&gcBs m l
def gcN (m:Nat):List Nat->Bool
 | []=>true
 | k::l=>Nat.blt k m&&gcN m l
def gcOk (m:Nat) (e:Env) (l:List Blk):Bool:=Nat.ble m (len l)&&refsBL (low m) e.vs&&gcN m e.mks&&gcBs m (takeB m l)
def res (m:Nat) (ρ:Nms):Nms:=⟨λk=>if k<m then ρ k else [],ρ.fz,ρ.q⟩
theorem fz_res (m:Nat) (ρ:Nms):FzLe ρ (res m ρ):=λ_ _ _ h=>h
section
variable {P:Program}{N:Nat->Prop}{W0 W:World}{ρ:Nms}{l:List Blk}
theorem qzahx {m:Nat}{x:SV}{v:Value}(hr:refsB (low m) x=true) (hd:den ρ x v):den (res m ρ) x v:=by
 have:=qzaov (ok:=low m) (f:=id) (ρ:=ρ) (ρ':=res m ρ) (fz_res m ρ) (λk hk vw hv=>by
  simp only[low,Nat.blt_eq] at hk;simpa [res,hk] using hv) x v hr hd
 rwa[ren_id] at this
theorem qml {ok:Nat->Bool}:∀ {xs:List SV},refsBL ok xs=true->∀ (q:Nat) (x:SV),xs[q]?=some x->refsB ok x=true
 | [],_,q,x,h=>by simp at h
 | y::ys,h,0,x,hx=>by
  simp only[refsBL,Bool.and_eq_true] at h;simp only[List.getElem?_cons_zero,Option.some.injEq] at hx;subst hx;exact h.1
 | y::ys,h,q+1,x,hx=>by
  simp only[refsBL,Bool.and_eq_true] at h;exact qml h.2 q x (by simpa using hx)
theorem env_res {m:Nat}{vs:List SV}{t:Array Value}(hr:refsBL (low m) vs=true) (h:EnvOk ρ vs t):EnvOk (res m ρ) vs t:=λq x hx=>
 let ⟨v,e,d⟩:=h q x hx
 ⟨v,e,qzahx (qml hr q x hx) d⟩
theorem view_res {m:Nat}{F:List SV}{vw:View}(hr:∀ x∈F,refsB (low m) x=true) (h:ViewOk W ρ F vw):ViewOk W (res m ρ) F vw:=by
 refine⟨h.1,h.2.1,λq x hq hx=>?_⟩;obtain⟨a,v,e,c,d⟩:=h.2.2 q x hq hx;exact⟨a,v,e,c,qzahx (hr x (List.mem_of_getElem? hx)) d⟩
theorem qzavj {ok:Nat->Bool}{x:SV}(h:plainV x=true):refsB ok x=true:=by
 cases x<;>simp [plainV] at h<;>rfl
theorem qzakx {ok:Nat->Bool}{xs:List SV}(h:refsBL ok xs=true):∀ x∈xs,refsB ok x=true:=by
 intro x hx;obtain⟨q,hq⟩:=List.getElem?_of_mem hx;exact qml h q x hq
theorem map_res {m:Nat}:∀ {es:List (SV×SV)}{es':List MapEntry},gcM m es=true->MapRel ρ es es'->MapRel (res m ρ) es es'
 | [],[],_,h=>h
 | [],_::_,_,h=>h
 | (_,_)::_,[],_,h=>h
 | (k,v)::r,e::es,hg,h=>by
  simp only[gcM,Bool.and_eq_true] at hg;exact⟨qzahx hg.1.1 h.1,qzahx hg.1.2 h.2.1,map_res hg.2 h.2.2⟩
theorem blk_res {m k:Nat}{B:Blk}(hk:k<m) (hg:gcB m B=true) (h:BlkOk P N W ρ k B):BlkOk P N W (res m ρ) k B:=by
 have e:res m ρ k=ρ k:=by simp [res,hk]
 cases B with
 | c cs=>
  obtain⟨b,e1,hv,ho⟩:=h;exact⟨b,e.trans e1,view_res (qzakx hg) hv,ho⟩
 | r ro lit st sz F=>
  obtain⟨h0,hv,hp,ho⟩:=h;refine⟨h0,?_,hp,?_⟩
  ·rw[e]
   intro vw hm;refine view_res ?_ (hv vw hm);cases lit with
   | true=>exact qzakx hg
   | false=>exact λx hx=>qzavj (hp rfl x hx)
  ·rw[e];exact ho
 | m es=>
  obtain⟨b,es',clock,⟨e1,hN⟩,hh,hm,hbo⟩:=h;exact⟨b,es',clock,⟨e.trans e1,hN⟩,hh,map_res hg hm,hbo⟩
 | it km n seen=>
  obtain⟨b,mb,⟨e1,hN⟩,hd,hh⟩:=h;exact⟨b,mb,⟨e.trans e1,hN⟩,qzahx (x:=.m km) (show low m km=true from hg) hd,hh⟩
 | df=>
  obtain⟨b,⟨e1,hN⟩,hh⟩:=h;exact⟨b,⟨e.trans e1,hN⟩,hh⟩
 | lp vs ps asg body ph=>
  obtain⟨b,L,⟨e1,hN⟩,hh,h1,h2,h3,h4,h5⟩:=h;exact⟨b,L,⟨e.trans e1,hN⟩,hh,h1,h2,h3,env_res hg h4,h5⟩
 | dead=>trivial
theorem gcBs_at {m:Nat}:∀ {l:List Blk},gcBs m l=true->∀ (k:Nat) (B:Blk),l[k]?=some B->gcB m B=true
 | [],_,k,B,h=>by simp at h
 | b::l,h,0,B,hB=>by
  simp only[gcBs,Bool.and_eq_true] at h;simp only[List.getElem?_cons_zero,Option.some.injEq] at hB;subst hB;exact h.1
 | b::l,h,k+1,B,hB=>by
  simp only[gcBs,Bool.and_eq_true] at h;exact gcBs_at h.2 k B (by simpa using hB)
theorem mks_res {m:Nat}:∀ {ks:List Nat}{ds:List Deferred},gcN m ks=true->MkOk ρ ks ds->MkOk (res m ρ) ks ds
 | [],[],_,h=>h
 | [],_::_,_,h=>h
 | _::_,[],_,h=>h
 | k::ks,d::ds,hg,⟨⟨vw,hv,r⟩,h⟩=>by
  simp only[gcN,Bool.and_eq_true,Nat.blt_eq] at hg;exact⟨⟨vw,by simpa [res,hg.1] using hv,r⟩,mks_res hg.2 h⟩
theorem St.gc {m:Nat}{e:Env}{a:Act}(h:St P N W0 ρ e l a W) (hg:gcOk m e l=true):St P N W0 (res m ρ) e (takeB m l) a W:=by
 simp only[gcOk,Bool.and_eq_true,Nat.ble_eq,qbs] at hg;obtain⟨⟨⟨hm,hv⟩,hk⟩,hb⟩:=hg;rw[qzaeu] at hb ⊢;have hR:=h.rel;have hmem:∀ {k:Nat}{vw:View},vw∈res m ρ k->vw∈ρ k:=by
  intro k vw hv;simp only[res] at hv;split at hv
  ·exact hv
  ·cases hv
 have hat:∀ (k:Nat) (B:Blk),(l.take m)[k]?=some B->l[k]?=some B:=by
  intro k B hB;rw[List.getElem?_take] at hB;split at hB
  ·exact hB
  ·cases hB
 refine⟨⟨hR.below,hR.le,λk hk=>?_,λk vw a hv ha=>hR.ids k vw a (hmem hv) ha,λk B hB=>?_,?_,?_,hR.qN,hR.fin,λk B vw a hB hw hv ha=>hR.fsep k B vw a (hat k B hB) hw (hmem hv) ha⟩,env_res hv h.env,mks_res hk h.mks⟩
 ·simp only[List.length_take] at hk
  simp only[res];rw[if_neg (by omega)]
 ·have hkm:k<m:=by
   have:=(List.getElem?_eq_some_iff.1 hB).1
   simp only[List.length_take] at this;omega
  have hB':l[k]?=some B:=by rw[List.getElem?_take] at hB;simpa [hkm] using hB
  exact blk_res hkm (gcBs_at hb k B hB) (hR.blk k B hB')
 ·intro k k' B vw vw' a a' hB hw hne hv hv' ha ha'
  have hkm:k<m:=by
   have:=(List.getElem?_eq_some_iff.1 hB).1
   simp only[List.length_take] at this;omega
  have hB':l[k]?=some B:=by rw[List.getElem?_take] at hB;simpa [hkm] using hB
  exact hR.sep k k' B vw vw' a a' hB' hw hne (hmem hv) (hmem hv') ha ha'
 ·intro k B vw a hB hw hv ha
  have hkm:k<m:=by
   have:=(List.getElem?_eq_some_iff.1 hB).1
   simp only[List.length_take] at this;omega
  have hB':l[k]?=some B:=by rw[List.getElem?_take] at hB;simpa [hkm] using hB
  exact hR.own k B vw a hB' hw (hmem hv) ha
theorem le_res {m n:Nat}(h:n<=m):Le n ρ (res m ρ):=.of (λk hk vw hv=>by simp only[res];rw[if_pos (by omega)];exact hv) rfl rfl
def slots:List (Nat×SV)->List SV->List SV
 | [],vs=>vs
 | (q,x)::r,vs=>slots r (put vs q x)
inductive SubM:List (SV×SV)->List (SV×SV)->Prop where
 | nil:SubM [] []
 | cons {k k' v v':SV}{r r':List (SV×SV)}(hk:Sub k k') (hv:Sub v v') (h:SubM r r'):SubM ((k,v)::r) ((k',v')::r')
theorem SubM.rel {es es':List (SV×SV)}(h:SubM es es'):∀ {ρ:Nms}{ms:List MapEntry},MapRel ρ es ms->MapRel ρ es' ms:=by
 induction h with
 | nil=>exact λh=>h
 | cons hk hv _ ih=>
  intro ρ ms hm
  match ms,hm with
  | e::ms,hm=>exact⟨hk.of _ _ hm.1,hv.of _ _ hm.2.1,ih hm.2.2⟩
inductive SubB:Blk->Blk->Prop where
 | m {es es':List (SV×SV)}(h:SubM es es'):SubB (.m es) (.m es')
 | rfl {b:Blk}:SubB b b
 | c {cs cs':List SV}(h:SubL cs cs'):SubB (.c cs) (.c cs')
 | r {ro lit lit':Bool}{st st':Z}{sz:Nat}{F F':List SV}(h:FSub F F') (hs:st.v=st'.v) (hp:plains F'=true):SubB (.r ro lit st sz F) (.r ro lit' st' sz F')
 | ro {lit:Bool}{st:Z}{sz:Nat}{F:List SV}:SubB (.r false lit st sz F) (.r true lit st sz F)
 | dead {b:Blk}:SubB b .dead
def SubBs:Nat->List Blk->List Blk->Prop
 | 0,_,[]=>True
 | n+1,b::l,b'::l'=>SubB b b'/\SubBs n l l'
 | _,_,_=>False
theorem view_sub {F F':List SV}{vw:View}(hs:FSub F F') (h:ViewOk W ρ F vw):ViewOk W ρ F' vw:=hs.view h
theorem qme {k:Nat}{B B':Blk}(h:SubB B B') (hB:BlkOk P N W ρ k B):BlkOk P N W ρ k B'/\(B'.wr=true->B.wr=true):=by
 cases h with
 | rfl=>exact⟨hB,id⟩
 | m h=>
  obtain⟨b,es',clock,h1,h2,h3,h4⟩:=hB;exact⟨⟨b,es',clock,h1,h2,h.rel h3,h4⟩,λ_=>rfl⟩
 | c h=>
  obtain⟨b,e,hv,ho⟩:=hB;have hl:=h.fsub.1;exact⟨⟨b,by rw[<-hl];exact e,by rw[<-hl];exact view_sub h.fsub hv,by rw[<-hl];exact ho⟩,λ_=>rfl⟩
 | @r ro lit lit' st st' sz F F' h hs hp=>
  obtain⟨h0,hv,_,ho⟩:=hB;refine⟨⟨h0,λvw hm=>view_sub h (hv vw hm),λ_ x hx=>qnu hp x hx,λhr=>?_⟩,by cases ro<;>simp [Blk.wr]⟩;obtain⟨cur,hc,hn,h1,h2,h3⟩:=ho hr;refine⟨cur,hc,by rw[<-h.1];exact hn,h1,h2,λvw hm=>?_⟩;rw[<-hs,<-h.1];exact h3 vw hm
 | ro=>
  obtain⟨h0,hv,hp,ho⟩:=hB;exact⟨⟨h0,hv,hp,λh=>by cases h⟩,λ_=>rfl⟩
 | dead=>exact⟨trivial,λh=>by simp [Blk.wr] at h⟩
theorem SubBs.at:∀ {m:Nat}{l l2:List Blk},SubBs m l l2->l2.length=m/\m<=l.length/\∀ (k:Nat) (B':Blk),l2[k]?=some B'->∃ B,l[k]?=some B/\SubB B B'
 | 0,_,[],_=>⟨rfl,Nat.zero_le _,λk B' h=>by simp at h⟩
 | 0,_,_::_,h=>by simp [SubBs] at h
 | m+1,[],_,h=>by simp [SubBs] at h
 | m+1,_::_,[],h=>by simp [SubBs] at h
 | m+1,b::l,b'::l2,h=>by
  simp only[SubBs] at h;obtain⟨h1,h2,h3⟩:=h.2.at;refine⟨by simp [h1],by simp;omega,λk B' hB=>?_⟩;cases k with
  | zero=>simp only[List.getElem?_cons_zero,Option.some.injEq] at hB;subst hB;exact⟨b,by simp,h.1⟩
  | succ k=>simp only[List.getElem?_cons_succ] at hB ⊢;exact h3 k B' hB
theorem subL_env {vs vs2:List SV}{t:Array Value}(h:SubL vs vs2) (hE:EnvOk ρ vs t):EnvOk ρ vs2 t:=by
 intro q x hx;obtain⟨x',hx',hd⟩:=h.fsub.2 q x hx;obtain⟨v,e,d⟩:=hE q x' hx';exact⟨v,e,hd _ _ d⟩
theorem St.less {m:Nat}{e:Env}{vs2:List SV}{l2:List Blk}{a:Act}(h:St P N W0 ρ e l a W) (hv:SubL e.vs vs2) (hb:SubBs m l l2) (hg:gcOk m ⟨vs2,e.mks⟩ l2=true):
  St P N W0 (res m ρ) ⟨vs2,e.mks⟩ l2 a W:=by
 obtain⟨h1,h2,h3⟩:=hb.at;have hR:=h.rel;have hst:St P N W0 ρ ⟨vs2,e.mks⟩ (l2++l.drop m) a W:=by
  refine⟨⟨hR.below,hR.le,λk hk=>hR.out k ?_,hR.ids,λk B hB=>?_,?_,?_,hR.qN,hR.fin,?_⟩,subL_env hv h.env,h.mks⟩;rotate_left 4
  ·intro k B vw a hB hw hv ha
   rcases Nat.lt_or_ge k m with hkm|hkm
   ·rw[List.getElem?_append_left (by omega)] at hB
    obtain⟨B0,hB0,hs⟩:=h3 k B hB;exact hR.fsep k B0 vw a hB0 ((qme hs (hR.blk k B0 hB0)).2 hw) hv ha
   ·rw[List.getElem?_append_right (by omega),List.getElem?_drop,h1,show m+(k-m)=k by omega] at hB
    exact hR.fsep k B vw a hB hw hv ha
  ·simp only[List.length_append,List.length_drop] at hk;omega
  ·rcases Nat.lt_or_ge k m with hkm|hkm
   ·rw[List.getElem?_append_left (by omega)] at hB
    obtain⟨B0,hB0,hs⟩:=h3 k B hB;exact (qme hs (hR.blk k B0 hB0)).1
   ·rw[List.getElem?_append_right (by omega),List.getElem?_drop,h1,show m+(k-m)=k by omega] at hB
    exact hR.blk k B hB
  ·intro k k' B vw vw' a a' hB hw hne hv hv' ha ha'
   rcases Nat.lt_or_ge k m with hkm|hkm
   ·rw[List.getElem?_append_left (by omega)] at hB
    obtain⟨B0,hB0,hs⟩:=h3 k B hB;exact hR.sep k k' B0 vw vw' a a' hB0 ((qme hs (hR.blk k B0 hB0)).2 hw) hne hv hv' ha ha'
   ·rw[List.getElem?_append_right (by omega),List.getElem?_drop,h1,show m+(k-m)=k by omega] at hB
    exact hR.sep k k' B vw vw' a a' hB hw hne hv hv' ha ha'
  ·intro k B vw a hB hw hv ha
   rcases Nat.lt_or_ge k m with hkm|hkm
   ·rw[List.getElem?_append_left (by omega)] at hB
    obtain⟨B0,hB0,hs⟩:=h3 k B hB;exact hR.own k B0 vw a hB0 ((qme hs (hR.blk k B0 hB0)).2 hw) hv ha
   ·rw[List.getElem?_append_right (by omega),List.getElem?_drop,h1,show m+(k-m)=k by omega] at hB
    exact hR.own k B vw a hB hw hv ha
 have htake:takeB m (l2++l.drop m)=l2:=by rw[qzaeu,List.take_append_of_le_length (by omega),<-h1,List.take_length]
 have hl2:takeB m l2=l2:=by rw[qzaeu,<-h1,List.take_length]
 have hg2:gcOk m ⟨vs2,e.mks⟩ (l2++l.drop m)=true:=by
  simp only[gcOk,Bool.and_eq_true,Nat.ble_eq,qbs,htake,hl2] at hg ⊢;refine⟨⟨⟨by simp;omega,hg.1.1.2⟩,hg.1.2⟩,hg.2⟩
 have:=hst.gc hg2
 rwa[htake] at this
def setBs:List (Nat×Blk)->List Blk->List Blk
 | [],l=>l
 | (k,b)::r,l=>setBs r (lset l k b)
def En2 {α:Type}(m:Nat) (ds:List Nat) (ok:α->Prop) (ups:α->List (Nat×SV)) (bups:α->List (Nat×Blk)) (e0:Env) (l0:List Blk) (a:α) (e:Env) (l:List Blk):Prop:=
 ok a/\e.mks=e0.mks/\SubL e.vs (slots (ups a) (puts e0.vs ds .any))/\SubBs m l (setBs (bups a) (takeB m l0))/\gcOk m ⟨slots (ups a) (puts e0.vs ds .any),e0.mks⟩ (setBs (bups a) (takeB m l0))=true
theorem En2.st {α:Type}{m:Nat}{ds:List Nat}{ok:α->Prop}{ups:α->List (Nat×SV)}{bups:α->List (Nat×Blk)}{e0:Env}{l0:List Blk}{a:α}{e:Env}{ac:Act}
  (h:En2 m ds ok ups bups e0 l0 a e l) (hs:St P N W0 ρ e l ac W):St P N W0 (res m ρ) ⟨slots (ups a) (puts e0.vs ds .any),e0.mks⟩ (setBs (bups a) (takeB m l0)) ac W:=by
 obtain⟨_,h1,h2,h3,h4⟩:=h;rw[<-h1] at h4 ⊢;exact hs.less h2 h3 h4
theorem qad {S:Sy}{α:Type}(hS:S0 P=S) (m:Nat) (ds:List Nat) (ok:α->Prop) (ups:α->List (Nat×SV)) (bups:α->List (Nat×Blk)) (μ:α->Nat) (a0:α) {cx:Cx}{b:IR}{K:VK}
  {e:Env}{l:List Blk}(hcm:Nat.ble cx.m m=true) (h0:En2 m ds ok ups bups e l a0 e l)
  (step:∀ a,ok a->vc S cx b (seqK (λ_ e' l'=>∃ a',μ a'<μ a/\En2 m ds ok ups bups e l a' e' l') K) ⟨slots (ups a) (puts e.vs ds .any),e.mks⟩ (setBs (bups a) (takeB m l))):S.loop cx b e l K:=by
 subst hS;have hcm:=Nat.le_of_ble_eq_true hcm;have hlen:∀ {a:α}{e1:Env}{l1:List Blk},En2 m ds ok ups bups e l a e1 l1->(setBs (bups a) (takeB m l)).length=m:=λh=>h.2.2.2.1.at.1;have main:∀ n a,μ a=n->ok a->(setBs (bups a) (takeB m l)).length=m->∀ c kl,conv P kl c=some b->WP P cx (.loop c) K ⟨slots (ups a) (puts e.vs ds .any),e.mks⟩ (setBs (bups a) (takeB m l)):=by
  intro n
  induction n using Nat.strongRecOn with
  | ind n ih=>
   intro a hn ha hl c kl hc N W0 ρ rr ac W hs hr hm;refine wp_loop (Wp.mono (qej c hc (step a ha) N W0 ρ rr ac W hs hr hm) ?_);rintro ex a' w' ⟨ρ',e',l',hK,hle,hm',hs'⟩;cases ex with
   | normal=>
    obtain⟨a2,hlt,hE⟩:=hK;have hle2:Le cx.m ρ (res m ρ'):=hle.trans (le_res hcm);exact Wp.mono (ih (μ a2) (by omega) a2 rfl hE.1 (hlen hE) c kl hc N W0 (res m ρ') rr a' w' (hE.st hs') (hr.le hle2) (by rw[hlen hE];omega)) λ_ _ _ q=>q.le hle2
   | exit id=>exact⟨ρ',e',l',hK,hle,hm',hs'⟩
   | goto g=>exact⟨ρ',e',l',hK,hle,hm',hs'⟩
   | ret=>exact⟨ρ',e',l',hK,hle,hm',hs'⟩
 intro c kl hc N W0 ρ rr a W hs hr hm;exact Wp.mono (main _ a0 rfl h0.1 (hlen h0) c kl hc N W0 (res m ρ) rr a W (h0.st hs) (hr.le (le_res hcm)) (by rw[hlen h0];omega)) λ_ _ _ q=>q.le (le_res hcm)
theorem qax {S:Sy}(hS:S0 P=S) {cx:Cx}{b:IR}{K:VK}{e:Env}{l:List Blk}(h:vc S cx b (seqK (λK e' l'=>S.loop cx b e' l' K) K) e l):S.loop cx b e l K:=by
 subst hS;intro c kl hc N W0 ρ rr a W hs hr hm;refine wp_loop (Wp.mono (qej c hc h N W0 ρ rr a W hs hr hm) ?_);rintro ex a' w' ⟨ρ',e',l',hK,hle,hm',hs'⟩;cases ex with
 | normal=>exact Wp.mono (hK c kl hc N W0 ρ' rr a' w' hs' (hr.le hle) hm') λ_ _ _ q=>q.le hle
 | exit id=>exact⟨ρ',e',l',hK,hle,hm',hs'⟩
 | goto g=>exact⟨ρ',e',l',hK,hle,hm',hs'⟩
 | ret=>exact⟨ρ',e',l',hK,hle,hm',hs'⟩
def ydK2 (k:Nat) (K:SV->List Blk->Prop):VK:=λex _ l2=>match lget l2 k with
 | .lp vs2 ps2 asg2 body2 _=>K (ofB ex.goes) (lset l2 k (.lp vs2 ps2 asg2 body2 (phEnd ex)))
 | _=>False
theorem qfw {S:Sy}(hS:S0 P=S) {k:Nat}{args vs:List SV}{ps:List Nat}{asg body:IR}{K:SV->List Blk->Prop}(hk:lget l k=.lp vs ps asg body .ready) (hn:ps.length=args.length)
  (h:vc S ⟨some k,len l⟩ asg (λex e1 l1=>match ex with
   | .normal=>match lget l1 k with
    | .lp vs1 ps1 asg1 body1 .ready=>vc S ⟨some k,len l⟩ body (ydK2 k K) e1 (lset l1 k (.lp vs1 ps1 asg1 body1 .busy))
    | _=>False
   | _=>False) ⟨putps vs ps args,[]⟩ l):S.yld k args l K:=by
 subst hS;exact yld_in hk hn h
mutual
/-- Values known whole are written out. -/
def lit:SV->SV
 | .b x=>ofB x
 | .i k z=>.i k (.l z.v)
 | .ag cs=>.ag (litL cs)
 | .tp cs=>.tp (litL cs)
 | .v _ sz F n=>.v true sz (litL F) (.l n.v)
 | x=>x
def litL:List SV->List SV
 | []=>[]
 | x::xs=>lit x::litL xs
end
mutual
theorem plain_lit:∀ (x:SV),plainV x=true->plainV (lit x)=true
 | .b x,_=>by cases x<;>rfl
 | .i _ _,_=>rfl
 | .ag _,h=>by simp [plainV] at h
 | .tp _,h=>by simp [plainV] at h
 | .tt,_=>rfl
 | .ff,_=>rfl
 | .s _,_=>rfl
 | .p _ _,h=>h
 | .pe _ _ _ _,h=>h
 | .pv _ _ _ _ _,h=>h
 | .v _ _ _ _,_=>rfl
 | .sl _ _ _ _ _,h=>h
 | .fn _ _ _,h=>h
 | .yl _,h=>h
 | .m _,h=>h
 | .re _,h=>h
 | .un,h=>h
 | .any,h=>h
theorem qzakz:∀ (xs:List SV),plains xs=true->plains (litL xs)=true
 | [],_=>rfl
 | x::xs,h=>by
  simp only[plains,Bool.and_eq_true] at h;simp only[litL,plains,Bool.and_eq_true];exact⟨plain_lit x h.1,qzakz xs h.2⟩
end
theorem qzann:∀ (xs:List SV),(litL xs).length=xs.length
 | []=>rfl
 | x::xs=>by simp [litL,qzann xs]
mutual
theorem qzawh:∀ (x:SV) (ρ:Nms) (v:Value),den ρ x v->den ρ (lit x) v
 | .b x,_,_,d=>by cases x<;>simpa [lit,ofB,den] using d
 | .i _ _,_,_,d=>by simpa [lit,den,Z.v] using d
 | .ag cs,ρ,v,d=>by
  simp only[den,lit] at d ⊢;obtain⟨vs,e,r⟩:=d;exact⟨vs,e,qzaox cs ρ _ r⟩
 | .tp cs,ρ,v,d=>by
  simp only[den,lit] at d ⊢;obtain⟨vs,e,r⟩:=d;exact⟨vs,e,qzaox cs ρ _ r⟩
 | .tt,_,_,d=>d
 | .ff,_,_,d=>d
 | .s _,_,_,d=>d
 | .p _ _,_,_,d=>d
 | .pe _ _ _ _,_,_,d=>d
 | .pv _ _ _ _ _,_,_,d=>d
 | .v lt sz F n,ρ,v,d=>by
  simp only[den,lit] at d ⊢;obtain⟨h0,h1,h2,h3,h4⟩:=d;exact⟨h0,h1,by rw[qzann];exact h2,qzakz F h3,h4.imp (λ⟨b,o,c,e,hc,hb,r⟩=>⟨b,o,c,e,hc,hb,denF_lit F ρ b o r⟩) id⟩
 | .sl _ _ _ _ _,_,_,d=>d
 | .fn _ _ _,_,_,d=>d
 | .yl _,_,_,d=>d
 | .m _,_,_,d=>d
 | .re _,_,_,d=>d
 | .un,_,_,d=>d
 | .any,_,_,d=>d
theorem qzaox:∀ (xs:List SV) (ρ:Nms) (vs:List Value),denL ρ xs vs->denL ρ (litL xs) vs
 | [],_,[],d=>d
 | [],_,_::_,d=>by simp [denL] at d
 | _::_,_,[],d=>by simp [denL] at d
 | x::xs,ρ,v::vs,d=>by
  simp only[denL,litL] at d ⊢;exact⟨qzawh x ρ v d.1,qzaox xs ρ vs d.2⟩
theorem denF_lit:∀ (xs:List SV) (ρ:Nms) (b o:Nat),denF ρ xs b o->denF ρ (litL xs) b o
 | [],_,_,_,_=>by simp [litL,denF]
 | x::xs,ρ,b,o,d=>by
  simp only[denF,litL] at d ⊢;obtain⟨⟨u,e,d1⟩,d2⟩:=d;exact⟨⟨u,e,qzawh x ρ u d1⟩,denF_lit xs ρ b (o+1) d2⟩
end
theorem qzafv {x:SV}:Sub x (lit x):=⟨λρ v d=>qzawh x ρ v d⟩
theorem call_lit {g:FuncId}{args:List SV}{sv:SV}(h:(S0 P).call g args l (λx _=>Sub x sv)):(S0 P).call g args l (λx _=>Sub x (lit sv)):=
 qae h λx _ hx=>⟨x,.rfl,hx.trans qzafv⟩
def no (_:Nat):Bool:=false
theorem qbg {S:Sy}(hS:S0 P=S) {g:FuncId}{args args':List SV}{sv:SV}{K:SV->List Blk->Prop}(hF:(S0 P).call g args' [] (λx _=>Sub x sv)) (ha:SubL args args')
  (hr:refsBL (λ_=>false) args'=true) (hs:refsB (λ_=>false) sv=true) (hK:K sv l):S.call g args l K:=by
 subst hS;exact qgp ha (qai hF hr hs hK)
theorem sub_sl {k sz:Nat}{off len off' len':Z}{cap:Option Z}(h1:off.v=off'.v) (h2:len.v=len'.v):Sub (.sl k sz off len cap) (.sl k sz off' len' cap):=
 ⟨λρ v d=>by simp only[den] at d ⊢;rw[<-h1,<-h2];exact d⟩
theorem Rel.ghost {N:Nat->Prop}{W0 W:World}{ρ:Nms}(hR:Rel P N W0 ρ l W) (ro:Bool) {sz:Nat}(hsz:0<sz):Rel P N W0 (upd ρ l.length [⟨none,0,0⟩]) (l++[.r ro true (.l 0) sz []]) W:=by
 have hle:Le l.length ρ (upd ρ l.length [⟨none,0,0⟩]):=.of (λk hk vw hv=>by rw[qap (by omega)];exact hv) rfl rfl;refine⟨hR.below,hR.le,λk hk=>?_,λk vw a hv ha=>?_,λk B hB=>?_,λk k' B vw vw' a a' hB hw hne hv hv' ha ha'=>?_,λk B vw a hB hw hv ha=>?_,hR.qN,hR.fin,λk B vw a hB hw hv ha=>?_⟩
 rotate_right
 ·by_cases hk:k=l.length
  ·subst hk;rw[qam,List.mem_singleton] at hv;subst hv;cases ha
  ·rw[qap hk] at hv
   have hlt:k<l.length:=by
    have:=(List.getElem?_eq_some_iff.1 hB).1
    simp only[List.length_append,List.length_singleton] at this;omega
   rw[List.getElem?_append_left hlt] at hB;exact hR.fsep k B vw a hB hw hv ha
 ·simp only[List.length_append,List.length_singleton] at hk
  rw[qap (by omega)];exact hR.out k (by omega)
 ·by_cases hk:k=l.length
  ·subst hk;rw[qam,List.mem_singleton] at hv;subst hv;cases ha
  ·rw[qap hk] at hv;exact hR.ids k vw a hv ha
 ·by_cases hk:k=l.length
  ·subst hk
   rw[List.getElem?_append_right (Nat.le_refl _),Nat.sub_self] at hB;simp only[List.getElem?_cons_zero,Option.some.injEq] at hB;subst hB;refine⟨hsz,λvw hv=>?_,(λh=>by cases h),λ_=>⟨⟨none,0,0⟩,by rw[qam];simp,rfl,(λvw hv a ha=>by rw[qam,List.mem_singleton] at hv;subst hv;cases ha),(Nat.zero_le _),λvw hv=>?_⟩⟩
   ·rw[qam,List.mem_singleton] at hv;subst hv
    exact⟨Nat.zero_le _,λ_=>⟨rfl,rfl⟩,λq x hq _=>by simp at hq⟩
   ·rw[qam,List.mem_singleton] at hv;subst hv;exact .inl ⟨rfl,rfl⟩
  ·have hlt:k<l.length:=by
    have:=(List.getElem?_eq_some_iff.1 hB).1
    simp only[List.length_append,List.length_singleton] at this;omega
   rw[List.getElem?_append_left hlt] at hB;exact (hR.blk k B hB).keep hle hR.out (qap hk) λ_ _ _ _=>rfl
 ·by_cases hk:k=l.length
  ·subst hk;rw[qam,List.mem_singleton] at hv;subst hv;cases ha
  ·by_cases hk':k'=l.length
   ·subst hk';rw[qam,List.mem_singleton] at hv';subst hv';cases ha'
   ·rw[qap hk] at hv;rw[qap hk'] at hv'
    have hlt:k<l.length:=by
     have:=(List.getElem?_eq_some_iff.1 hB).1
     simp only[List.length_append,List.length_singleton] at this;omega
    rw[List.getElem?_append_left hlt] at hB;exact hR.sep k k' B vw vw' a a' hB hw hne hv hv' ha ha'
 ·by_cases hk:k=l.length
  ·subst hk;rw[qam,List.mem_singleton] at hv;subst hv;cases ha
  ·rw[qap hk] at hv
   have hlt:k<l.length:=by
    have:=(List.getElem?_eq_some_iff.1 hB).1
    simp only[List.length_append,List.length_singleton] at this;omega
   rw[List.getElem?_append_left hlt] at hB;exact hR.own k B vw a hB hw hv ha
theorem qrw {ρ:Nms}{m:Nat}(h:m<=l.length) {vs:List View}:Le m ρ (upd ρ l.length vs):=.of (λk hk vw hv=>by rw[qap (by omega)];exact hv) rfl rfl
def nilRow (l:List Blk) (sz:Nat):SV:=.sl (len l) sz (.l 0) (.l 0) none
theorem qzaln {ρ:Nms}{sz:Nat}(h:(⟨none,0,0⟩:View)∈ρ l.length):den ρ (nilRow l sz) (.slice none 0 0):=by
 simp only[nilRow,den,qbs];exact⟨by simp [Z.v],by simp [Z.v],⟨none,0,0⟩,h,by simp [Z.v],by simp [SlVal,Z.v]⟩
theorem qmi {S:Sy}(hS:S0 P=S) (q sz:Nat) {cx:Cx}{b:IR}{K:VK}{e:Env}(hsz:0<sz) (hq:nth e.vs q=.re (.slice none 0 0))
  (h:S.loop cx b ⟨put e.vs q (nilRow l sz),e.mks⟩ (snoc l (.r false true (.l 0) sz [])) K):S.loop cx b e l K:=by
 subst hS;rw[qdm] at h;intro c kl hc N W0 ρ rr a W hs hr hm;have hle:Le l.length ρ (upd ρ l.length [⟨none,0,0⟩]):=qrw (Nat.le_refl _);have hE:EnvOk (upd ρ l.length [⟨none,0,0⟩]) (put e.vs q (nilRow l sz)) a.tmps:=by
  have h1:EnvOk (upd ρ l.length [⟨none,0,0⟩]) e.vs a.tmps:=hs.env.le hle hs.rel.out;intro j x hx;by_cases hj:j=q
  ·subst hj
   have hlt:j<e.vs.length:=by have:=(List.getElem?_eq_some_iff.1 hx).1;rw[qes,List.length_set] at this;exact this
   rw[qes,List.getElem?_set_self hlt] at hx;simp only[Option.some.injEq] at hx;subst hx;obtain⟨v,hv,hd⟩:=h1 j _ (List.getElem?_eq_getElem hlt)
   have:e.vs[j]=.re (.slice none 0 0):=by rw[qfy,List.getD_eq_getElem?_getD,List.getElem?_eq_getElem hlt] at hq;exact hq
   rw[this] at hd;simp only[den] at hd;exact⟨v,hv,by rw[hd.1];exact qzaln (by rw[qam];simp)⟩
  ·rw[qes,List.getElem?_set_ne (λe=>hj e.symm)] at hx
   exact h1 j x hx
 have hM:MkOk (upd ρ l.length [⟨none,0,0⟩]) e.mks a.defers:=MkOk.le hle hs.rel.out _ _ hs.mks;exact Wp.mono (h c kl hc N W0 _ rr a W ⟨hs.rel.ghost false hsz,hE,hM⟩ (hr.le (qrw hm)) (by simp;omega)) λ_ _ _ q=>q.le (qrw hm)
theorem flat_at {α:Type}{enc:α->List SV}{sz:Nat}(henc:∀ a,(enc a).length=sz):∀ {l:List α}{i:Nat}{a:α},l[i]?=some a->∀ j n,j+n<=sz ->
  ((l.flatMap enc).drop (i*sz+j)).take n=((enc a).drop j).take n
 | [],i,a,h,_,_,_=>by simp at h
 | x::l,0,a,h,j,n,hj=>by
  simp only[List.getElem?_cons_zero,Option.some.injEq] at h;subst h;simp only[List.flatMap_cons,Nat.zero_mul,Nat.zero_add];rw[List.drop_append_of_le_length (by rw[henc];omega),List.take_append_of_le_length (by simp [henc];omega)]
 | x::l,i+1,a,h,j,n,hj=>by
  simp only[List.getElem?_cons_succ] at h;simp only[List.flatMap_cons];rw[show (i+1)*sz+j=(enc x).length+(i*sz+j) by rw[henc,Nat.succ_mul];omega,List.drop_append,List.drop_eq_nil_of_le (by omega),List.nil_append,Nat.add_sub_cancel_left];exact flat_at henc h j n hj
theorem qsb {α:Type}{enc:α->List SV}{sz:Nat}(henc:∀ a,(enc a).length=sz):∀ (l:List α),(l.flatMap enc).length=l.length*sz
 | []=>by simp
 | x::l=>by simp [qsb henc l,henc,Nat.succ_mul];omega
theorem s_row {α:Type}{S:Sy}(hS:S0 P=S) {enc:α->List SV}{l:List α}{F:List SV}(hF:l.flatMap enc=F) {i:Int}{sz j n:Nat}{agg:Bool}{K:SV->Prop}(henc:∀ a,(enc a).length=sz)
  (h0:0<=i) (hi:i<l.length) (h2:j+n<=sz) (h:∀ a,l[i.toNat]?=some a->∃ v,mkv agg (((enc a).drop j).take n)=some v/\K v):S.rd F i sz j n agg K:=by
 subst hF;have hlt:i.toNat<l.length:=by omega
 obtain⟨v,hv,hk⟩:=h _ (List.getElem?_eq_getElem hlt);refine s_rd hS h0 ?_ h2 (v:=v) ?_ hk
 ·rw[qsb henc];exact Nat.mul_le_mul_right sz hlt
 ·rw[flat_at henc (List.getElem?_eq_getElem hlt) j n h2];exact hv
theorem qal {α:Type}{S:Sy}(hS:S0 P=S) {enc:α->List SV}{l:List α}{F:List SV}(hF:l.flatMap enc=F) {i:Int}{a:α}(ha:l[i.toNat]?=some a) {sz j n:Nat}{agg:Bool}{K:SV->Prop}{v:SV}
  (henc:∀ a,(enc a).length=sz) (h0:0<=i) (h2:j+n<=sz) (hv:mkv agg (((enc a).drop j).take n)=some v) (h:K v):S.rd F i sz j n agg K:=
 s_row hS hF henc h0 (by have:=(List.getElem?_eq_some_iff.1 ha).1;omega) h2 λb hb=>by
  rw[ha] at hb;cases hb;exact⟨v,hv,h⟩
theorem no_tf (h:true=false):False:=by cases h
theorem no_ft (h:false=true):False:=by cases h
theorem no_both {b:Bool}(h:b=true) (h':b=false):False:=by rw[h] at h';cases h'
def ilen {α:Type}(l:List α):Int:=l.length
theorem qaj {α:Type}(l:List α):0<=ilen l:=by unfold ilen;omega
theorem qbi {α:Type}{l:List α}{i:Int}(h:i<ilen l) (h0:0<=i):∃ a,l[i.toNat]?=some a:=⟨_,List.getElem?_eq_getElem (by unfold ilen at h;omega)⟩
theorem qcs {α:Type}{l:List α}{i:Int}(h:ilen l<=i):l.take i.toNat=l:=List.take_of_length_le (by unfold ilen at h;omega)
theorem take_next {α:Type}{l:List α}{i:Int}{a:α}(ha:l[i.toNat]?=some a) (h0:0<=i):l.take (i+1).toNat=l.take i.toNat++[a]:=by
 rw[show (i+1).toNat=i.toNat+1 by omega,List.take_add_one,ha];rfl
end
def eq1:SV->SV->Prop
 | .i _ a,.i _ b=>a.v=b.v
 | .s a,.s b=>a=b
 | .tt,.tt=>True
 | .ff,.ff=>True
 | .tt,.b y=>y=true
 | .ff,.b y=>y=false
 | .b x,.tt=>x=true
 | .b x,.ff=>x=false
 | .b x,.b y=>x=y
 | _,_=>False
def eqc:List SV->List SV->Prop
 | [],[]=>True
 | x::xs,y::ys=>eq1 x y/\eqc xs ys
 | _,_=>False
def eqs (x y:SV):Prop:=match cellsOf x,cellsOf y with
 | some xs,some ys=>eqc xs ys
 | _,_=>False
def kindOk (sig:Sg) (x y:SV):Bool:=match cellsOf x,cellsOf y with
 | some xs,some ys=>(isAg x==sig.agg)&&(isAg y==sig.agg)&&kinds sig.ks xs ys
 | _,_=>false
section
variable {P:Program}
theorem veq1_eq {s:Kd}{x y:SV}{k1 k2:Unit->Prop}(hk:kinds [s] [x] [y]=true) (he:eq1 x y) (h:k1 ()):veq1 (S0 P) s x y k1 k2:=by
 cases s<;>cases x<;>cases y<;>simp [kinds] at hk<;>simp only[eq1] at he<;>simp only[veq1]
 all_goals first
  | exact h
  | exact he.elim
  | (subst he;refine⟨λ_=>h,λe=>?_⟩;simp [S0,scmpS] at e;done)
  | (subst he;refine⟨λe=>?_,λ_=>h⟩;simp at e;done)
  | skip
 all_goals try (rename_i k a k' b;subst hk;simp only[if_true];cases a<;>cases b<;>simp only[Z.v] at he<;>subst he)
 all_goals try first
  | (simp only[if_true];exact h)
  | exact⟨λ_=>h,λe=>by simp [S0,BK.cmpLit,Z.v] at e⟩
  | exact⟨λe=>by simp at e,λ_=>h⟩
theorem veqL_eq:∀ {ss:List Kd}{xs ys:List SV}{k1 k2:Unit->Prop},kinds ss xs ys=true->eqc xs ys->k1 ()->veqL (S0 P) ss xs ys k1 k2
 | [],[],[],_,_,_,_,h=>by simpa only[veqL] using h
 | [],[],_::_,_,_,hk,_,_=>by simp [kinds] at hk
 | [],_::_,_,_,_,hk,_,_=>by simp [kinds] at hk
 | s::ss,[],_,_,_,hk,_,_=>by cases s<;>simp [kinds] at hk
 | s::ss,_::_,[],_,_,_,he,_=>he.elim
 | s::ss,x::xs,y::ys,k1,k2,hk,he,h=>by
  have hb:kinds [s] [x] [y]=true/\kinds ss xs ys=true:=by
   cases s<;>cases x<;>cases y<;>simp [kinds] at hk ⊢<;>first|exact hk|(split at hk<;>simp_all)
  simp only[veqL];exact veq1_eq hb.1 he.1 (veqL_eq hb.2 he.2 h)
theorem s_eqt {S:Sy}{sig:Sg}{x y:SV}{k1 k2:Unit->Prop}(hS:S0 P=S) (hk:kindOk sig x y=true) (he:eqs x y) (h:k1 ()):S.eqv sig x y k1 k2:=by
 subst hS;rw[qzatd];unfold kindOk at hk;unfold eqs at he;unfold veq;cases hx:cellsOf x with
 | none=>rw[hx] at hk;cases hk
 | some xs=>cases hy:cellsOf y with
  | none=>rw[hx,hy] at hk;cases hk
  | some ys=>
   rw[hx,hy] at hk he;simp only[Bool.and_eq_true,beq_iff_eq] at hk;simp only[hk.1.1,hk.1.2,hk.2,and_self,if_true];exact veqL_eq hk.2 he h
end
end Cz
namespace Cz
open Go Go.RowKit
section
variable {P:Program}{l:List Blk}
theorem Rel.sub {N:Nat->Prop}{W0 W:World}{ρ:Nms}{l2:List Blk}(hR:Rel P N W0 ρ l W) (hl:l2.length=l.length) (h:∀ (k:Nat) (B':Blk),l2[k]?=some B'->∃ B:Blk,l[k]?=some B/\SubB B B'):Rel P N W0 ρ l2 W:=by
 refine⟨hR.below,hR.le,λk hk=>hR.out k (by omega),hR.ids,λk B hB=>?_,?_,?_,hR.qN,hR.fin,λk B vw a hB hw hv ha=>?_⟩
 rotate_right
 ·obtain⟨B0,hB0,hs⟩:=h k B hB
  exact hR.fsep k B0 vw a hB0 ((qme hs (hR.blk k B0 hB0)).2 hw) hv ha
 ·obtain⟨B0,hB0,hs⟩:=h k B hB
  exact (qme hs (hR.blk k B0 hB0)).1
 ·intro k k' B vw vw' a a' hB hw hne hv hv' ha ha'
  obtain⟨B0,hB0,hs⟩:=h k B hB;exact hR.sep k k' B0 vw vw' a a' hB0 ((qme hs (hR.blk k B0 hB0)).2 hw) hne hv hv' ha ha'
 ·intro k B vw a hB hw hv ha
  obtain⟨B0,hB0,hs⟩:=h k B hB;exact hR.own k B0 vw a hB0 ((qme hs (hR.blk k B0 hB0)).2 hw) hv ha
def SelB (l:List Blk) (g:Nat->Nat):Nat->List Blk->Prop
 | _,[]=>True
 | j,B2::r=>(B2=.dead∨(SubB (lget l (g j)) B2/\plainB B2=true/\g j<len l))/\SelB l g (j+1) r
theorem SelB.at {l:List Blk}{g:Nat->Nat}:∀ {l2:List Blk}{i:Nat},SelB l g i l2->∀ j B2,l2[j]?=some B2->B2=.dead∨∃ B,l[g (i+j)]?=some B/\SubB B B2/\plainB B2=true
 | [],_,_,j,B2,h=>by simp at h
 | C::r,i,hs,0,B2,h=>by
  simp only[List.getElem?_cons_zero,Option.some.injEq] at h;subst h;rcases hs.1 with h1|⟨h1,h2,h3⟩
  ·exact .inl h1
  ·rw[qbs] at h3
   refine .inr ⟨l[g i],List.getElem?_eq_getElem h3,?_,h2⟩;rwa[qzano,List.getD_eq_getElem?_getD,List.getElem?_eq_getElem h3] at h1
 | C::r,i,hs,j+1,B2,h=>by
  have:=SelB.at hs.2 j B2 (by simpa using h)
  rw[show i+(j+1)=i+1+j by omega];exact this
theorem renL_get (g:Nat->Nat):∀ (xs:List SV) (q:Nat),(renL g xs)[q]?=(xs[q]?).map (ren g)
 | [],q=>by simp [renL]
 | x::xs,0=>by simp [renL]
 | x::xs,q+1=>by simp [renL,renL_get g xs q]
end
end Cz
namespace Cz
open Go Go.RowKit
section
variable {P:Program}
theorem cr:(∀ {a b:Int},(S0 P).cmp .le a b=decide (a<=b))/\(∀ {a b:Int},(S0 P).cmp .lt a b=decide (a<b))/\(∀ {a b:Int},(S0 P).cmp .ge a b=decide (b<=a)) /\
  (∀ {a b:Int},(S0 P).cmp .gt a b=decide (b<a))/\(∀ {a b:Int},(S0 P).cmp .eq a b=decide (a=b))/\(∀ {a b:Int},(S0 P).cmp .ne a b=!decide (a=b)) /\
  (∀ {a b:Int},(S0 P).pl a b=a+b)/\(∀ {a b:Int},(S0 P).mi a b=a-b)/\(∀ {a:Int}{n:Nat},(S0 P).sc a n=a*n)/\(∀ {x:List UInt8},(S0 P).slen x=ilen x)/\(∀ {x:List SV},(S0 P).flen x=ilen x) /\
  (∀ {a:Bool},(S0 P).nt a=!a)/\(∀ {a b:Bool},(S0 P).beq a b=(a==b))/\(∀ {x y:List UInt8},(S0 P).scmp .eq x y=(x==y))/\(∀ {x y:List UInt8},(S0 P).scmp .ne x y=!(x==y)) /\
  (∀ {b:Bool},((!b)=true)=(b=false))/\(∀ {b:Bool},((!b)=false)=(b=true))/\((!true)=false)/\((!false)=true):=
 ⟨rfl,rfl,rfl,rfl,rfl,rfl,rfl,rfl,rfl,rfl,rfl,rfl,rfl,rfl,rfl,by simp,by simp,rfl,rfl⟩
theorem s_st {S:Sy}{G G':Prop}(hS:S0 P=S) (h:G')
  (imp:S0 P=S->G'->G:=by
   intro hS h
   first
    | exact qwn hS rfl h
    | (refine s_eqt hS rfl ?_ h;(cbv;(repeat' (first|exact trivial|rfl|refine And.intro ?_ ?_|assumption|omega|(simp only[<-hS,Int.ofNat_eq_natCast,cq,Bool.not_eq_true',Bool.not_eq_false',decide_eq_true_eq,decide_eq_false_iff_not,beq_iff_eq,beq_eq_false_iff_ne,ne_eq];done)|(simp only[<-hS,Int.ofNat_eq_natCast,cq,Bool.not_eq_true',Bool.not_eq_false',decide_eq_true_eq,decide_eq_false_iff_not,beq_iff_eq,beq_eq_false_iff_ne,ne_eq];first|assumption|omega)));done))
    | exact qzaqz hS h
    | exact s_lk hS h
    | exact s_mu hS h
    | exact s_chk hS (by simp only[<-hS,Int.ofNat_eq_natCast,cq,Bool.not_eq_true',Bool.not_eq_false',decide_eq_true_eq,decide_eq_false_iff_not,beq_iff_eq,beq_eq_false_iff_ne,ne_eq];omega) h):G:=imp hS h
theorem s_sta {S:Sy}{G G':Prop}(hS:S0 P=S) (h:G')
  (imp:S0 P=S->G'->G:=by
   intro hS h
   first
    | exact s_add hS h (by simp only[lo];omega) (by simp only[Cz.hi];omega)
    | exact s_sub hS h (by simp only[lo];omega) (by simp only[Cz.hi];omega)):G:=imp hS h
theorem qdd {S:Sy}{k:IntKind}{a:Int}{K:Int->Prop}(hS:S0 P=S) (h:K a) (h1:lo k<=a:=by simp only[lo];omega) (h2:a<=hi k:=by simp only[Cz.hi];omega):S.cv k a K:=s_cvi hS h h1 h2
theorem qac {S:Sy}{b:Bool}{k1 k2:Unit->Prop}{p q:Prop}(hS:S0 P=S) (h1:p->k1 ()) (h2:q->k2 ())
  (e1:S0 P=S->b=true->p:=by intro hS h;first|(simp only[<-hS,Int.ofNat_eq_natCast,cq,Bool.not_eq_true',Bool.not_eq_false',decide_eq_true_eq,decide_eq_false_iff_not,beq_iff_eq,beq_eq_false_iff_ne,ne_eq] at h;exact h)|exact h)
  (e2:S0 P=S->b=false->q:=by intro hS h;first|(simp only[<-hS,Int.ofNat_eq_natCast,cq,Bool.not_eq_true',Bool.not_eq_false',decide_eq_true_eq,decide_eq_false_iff_not,beq_iff_eq,beq_eq_false_iff_ne,ne_eq] at h;exact h)|exact h):S.br b k1 k2:=
 s_br hS (λh=>h1 (e1 hS h)) (λh=>h2 (e2 hS h))
end
theorem s_ab {p G:Prop}(h:p) (e:p->False:=by intro h;first|omega|exact absurd trivial h|exact no_tf h|exact no_ft h|exact no_both h (by with_reducible assumption)|exact no_both (by with_reducible assumption) h):G:=(e h).elim
theorem s_sA {p:Prop}(h:p:=by repeat' (first|exact qlm|exact Sub.rfl|exact SubL.nil|refine SubL.cons ?_ ?_|exact qau rfl|refine qpw ?_|refine qja ?_|exact qay rfl|exact qao rfl|exact qbt rfl|exact qkt rfl|(refine qau ?_;simp only[Z.v];omega)|(refine qgc ?_;assumption)|(refine qay ?_;assumption)|(refine qao ?_;assumption))):p:=h
theorem s_bA {p:Prop}(h:p:=by repeat' (first|exact trivial|exact SubB.rfl|refine And.intro ?_ ?_|(exact SubB.c (by with_reducible assumption))|exact SubB.c s_sA|(refine SubB.m ?_;(repeat' (first|exact SubM.nil|refine SubM.cons ?_ ?_ ?_|exact s_sA));done))):p:=h
end Cz
namespace Cz
open Go Go.RowKit
section
variable {P:Program}
theorem qgr {w:Nat}{a:Int}:(BitVec.ofInt w a).toNat=(a%(2:Int) ^ w).toNat:=by
 rw[BitVec.toNat_ofInt];norm_cast
theorem and_mask {w m:Nat}{a:Int}(hm:m<=w):((BitVec.ofInt w a &&& BitVec.ofInt w ((2:Int) ^ m-1)).toNat:Int)=a%2 ^ m:=by
 have h1:(2:Int) ^ m<=2 ^ w:=by exact_mod_cast Nat.pow_le_pow_right (by omega:0<2) hm
 have h0:(0:Int)<2 ^ m:=by exact_mod_cast Nat.two_pow_pos m
 have hd:(2:Int) ^ m∣2 ^ w:=by exact_mod_cast Nat.pow_dvd_pow 2 hm
 rw[BitVec.toNat_and,qgr,qgr,Int.emod_eq_of_lt (a:=(2:Int) ^ m-1) (by omega) (by omega)];have h2:((2:Int) ^ m-1).toNat=2 ^ m-1:=by
  have:((2 ^ m:Nat):Int)=(2:Int) ^ m:=by norm_cast
  omega
 rw[h2,Nat.and_two_pow_sub_one_eq_mod];have h3:(0:Int)<=a%2 ^ w:=Int.emod_nonneg _ (by have:=h0;omega);rw[Int.natCast_emod,Int.toNat_of_nonneg h3]
 have:((2 ^ m:Nat):Int)=(2:Int) ^ m:=by norm_cast
 rw[this,Int.emod_emod_of_dvd _ hd]
theorem lo_bits (k:IntKind):lo k<=0:=by cases k<;>decide
theorem hi_bits (k:IntKind):(2:Int) ^ (k.bits-1)-1<=hi k:=by cases k<;>decide
theorem pow_le {m n:Nat}(h:m<=n):(2:Int) ^ m<=2 ^ n:=by exact_mod_cast Nat.pow_le_pow_right (by omega:0<2) h
theorem qzanf (m:Nat):(0:Int)<2 ^ m:=by exact_mod_cast Nat.two_pow_pos m
theorem qku {S:Sy}{k:IntKind}{a b c:Int}{m:Nat}{K:Int->Prop}(hS:S0 P=S) (hb:b=c-1/\(2:Int) ^ m=c/\m+1<=k.bits) (h:∀ r,r=a%c->K r):S.ar .and k a b K:=by
 obtain⟨rfl,rfl,hm⟩:=hb;refine qcg hS _ ?_ (h _ rfl);show k.wrap _=_;rw[and_mask (by omega)];have h1:=Int.emod_nonneg a (b:=(2:Int) ^ m) (by have:=qzanf m;omega);have h2:=Int.emod_lt_of_pos a (qzanf m);have h3:=lo_bits k;have h4:=hi_bits k;have h5:=pow_le (m:=m) (n:=k.bits-1) (by omega);exact qgy (by omega) (by omega)
theorem qbd {S:Sy}{k:IntKind}{a b c:Int}{K:Int->Prop}(hS:S0 P=S) (hc:(2:Int) ^ (min b.toNat k.bits)=c) (h:∀ r,r=a/c->K r):S.ar .shr k a b K:=by
 subst hc;refine qcg hS _ ?_ (h _ rfl);show a.fdiv _=_;exact Int.fdiv_eq_ediv_of_nonneg _ (by have:=qzanf (min b.toNat k.bits);omega)
theorem s_shr {S:Sy}{k:IntKind}{a b:Int}{K:Int->Prop}(hS:S0 P=S) (hb:b.toNat<=k.bits) (h:∀ r,r=a/2 ^ b.toNat->K r):S.ar .shr k a b K:=
 qbd hS rfl (by rw[Nat.min_eq_left hb];exact h)
theorem qgu {S:Sy}{k:IntKind}{a b c:Int}{K:Int->Prop}(hS:S0 P=S) (hc:(2:Int) ^ (min b.toNat k.bits)=c) (h:∀ r,r=a*c->K r) (h1:lo k<=a*c) (h2:a*c<=hi k):S.ar .shl k a b K:=by
 subst hc;exact qcg hS _ (qgy h1 h2) (h _ rfl)
theorem or_low {a b m:Nat}(ha:a%2 ^ m=0) (hb:b<2 ^ m):a ||| b=a+b:=by
 have h:=Nat.two_pow_add_eq_or_of_lt hb (a/2 ^ m);have e:2 ^ m*(a/2 ^ m)=a:=by have:=Nat.div_add_mod a (2 ^ m);omega
 rw[e] at h;exact h.symm
theorem qwm {S:Sy}{k:IntKind}{a b c:Int}{m:Nat}{K:Int->Prop}(hS:S0 P=S) (hc:(2:Int) ^ m=c) (h0:0<=a) (h1:a%c=0) (h2:0<=b) (h3:b<c) (h4:a+b<=hi k) (h:∀ r,r=a+b->K r):S.ar .or k a b K:=by
 subst hc;refine qcg hS _ ?_ (h _ rfl);show k.wrap _=_;have hw:(a+b)<(2:Int) ^ k.bits:=by
  have:hi k<2 ^ k.bits:=by cases k<;>decide
  omega
 have hor:((BitVec.ofInt k.bits a ||| BitVec.ofInt k.bits b).toNat:Int)=a+b:=by
  rw[BitVec.toNat_or,qgr,qgr,Int.emod_eq_of_lt h0 (by omega),Int.emod_eq_of_lt h2 (by omega),or_low (m:=m)]
  ·omega
  ·have:((a.toNat%2 ^ m:Nat):Int)=0:=by
    rw[Int.natCast_emod,Int.toNat_of_nonneg h0];push_cast;exact h1
   omega
  ·have:((2 ^ m:Nat):Int)=(2:Int) ^ m:=by norm_cast
   omega
 rw[hor];exact qgy (by have:=lo_bits k;omega) h4
end
end Cz
namespace Cz
open Go Go.RowKit
end Cz
namespace Cz
open Go Go.RowKit
end Cz
namespace Cz
open Go Go.RowKit
end Cz
namespace Cz
open Go Go.RowKit
def kpOf:List (Option Nat)->Nat->Option Nat
 | [],_=>none
 | some j::r,k=>if j=k then some 0 else (kpOf r k).map (·+1)
 | none::r,k=>(kpOf r k).map (·+1)
theorem qea:∀ {ks:List (Option Nat)}{k:Nat},kpOf ks k=none->∀ i:Nat,ks[i]?≠some (some k)
 | [],k,_,i,h=>by simp at h
 | some j::r,k,h,i,hi=>by
  simp only[kpOf] at h;split at h
  ·cases h
  ·rename_i hne
   cases i with
   | zero=>simp only[List.getElem?_cons_zero,Option.some.injEq] at hi;exact hne hi
   | succ i=>
    cases hr:kpOf r k with
    | none=>exact qea hr i (by simpa using hi)
    | some q=>rw[hr] at h;simp at h
 | none::r,k,h,i,hi=>by
  cases i with
  | zero=>simp at hi
  | succ i=>
   cases hr:kpOf r k with
   | none=>exact qea hr i (by simpa using hi)
   | some q=>simp only[kpOf,hr,Option.map_some] at h;cases h
mutual
/-- What a value is told as, when all memory but the names that are kept is written no more. -/
inductive Fz (l':List Blk) (g:Nat->Nat) (ks:List (Option Nat)):SV->SV->Prop where
 | sub {x y:SV}(h:Sub x y) (hr:refsB (λ_=>false) x=true):Fz l' g ks x y
 | row {k sz:Nat}{off len:Z}{cap:Option Z}{lit:Bool}{st:Z}{F:List SV}{lit':Bool}{F':List SV}{n:Z}(hB:l'[k]?=some (.r false lit st sz F)) (hk:kpOf ks k=none)
   (h:FzL l' g ks ((F.drop (off.v.toNat*sz)).take (len.v.toNat*sz)) F') (hp:plains F'=true) (hn:len.v=n.v):Fz l' g ks (.sl k sz off len cap) (.v lit' sz F' n)
 | keep {k i sz:Nat}{off len off' len':Z}{cap:Option Z}(hk:ks[i]?=some (some k)) (ho:off.v=off'.v) (hl:len.v=len'.v):Fz l' g ks (.sl k sz off len cap) (.sl (g i) sz off' len' cap)
 | nilk {i sz:Nat}{off' len':Z}(hk:ks[i]?=some none) (ho:off'.v=0) (hl:len'.v=0):Fz l' g ks (.re (.slice none 0 0)) (.sl (g i) sz off' len' none)
 | nil {lit':Bool}{sz:Nat}{n:Z}(h0:0<sz) (hn:n.v=0):Fz l' g ks (.re (.slice none 0 0)) (.v lit' sz [] n)
 | ag {xs ys:List SV}(h:FzL l' g ks xs ys):Fz l' g ks (.ag xs) (.ag ys)
 | tp {xs ys:List SV}(h:FzL l' g ks xs ys):Fz l' g ks (.tp xs) (.tp ys)
inductive FzL (l':List Blk) (g:Nat->Nat) (ks:List (Option Nat)):List SV->List SV->Prop where
 | nil:FzL l' g ks [] []
 | cons {x y:SV}{xs ys:List SV}(h:Fz l' g ks x y) (hs:FzL l' g ks xs ys):FzL l' g ks (x::xs) (y::ys)
 | fsub {xs ys:List SV}(h:FSub xs ys) (hp:plains ys=true):FzL l' g ks xs ys
end
section
variable {P:Program}{l:List Blk}
theorem qzate {ρ:Nms}{xs ys:List SV}{vs:List Value}(h:FSub xs ys) (d:denL ρ xs vs):denL ρ ys vs:=by
 have hl:=qan d;refine qcx (by rw[<-h.1];exact hl) λq y hy=>?_;obtain⟨x,hx,hd⟩:=h.2 q y hy;obtain⟨v,hv,dv⟩:=qbk q x d hx;exact⟨v,hv,hd _ _ dv⟩
theorem qzalo {ρ ρ':Nms}(hz:FzLe ρ ρ'):∀ {xs:List SV}{vs:List Value},plains xs=true->denL ρ xs vs->denL ρ' xs vs
 | [],[],_,d=>d
 | [],_::_,_,d=>by simp [denL] at d
 | _::_,[],_,d=>by simp [denL] at d
 | x::xs,v::vs,h,d=>by
  simp only[plains,Bool.and_eq_true] at h;simp only[denL] at d ⊢;exact⟨qrh hz x v h.1 d.1,qzalo hz h.2 d.2⟩
theorem FzL.len {l':List Blk}{g:Nat->Nat}{ks:List (Option Nat)}:∀ {xs ys:List SV},FzL l' g ks xs ys->xs.length=ys.length
 | _,_,.nil=>rfl
 | _,_,.cons _ hs=>by simp [hs.len]
 | _,_,.fsub h _=>h.1
section
variable {N:Nat->Prop}{W0 W:World}{ρ ρz:Nms}{l':List Blk}{g:Nat->Nat}{ks:List (Option Nat)}
theorem qtl (hR:Rel P N W0 ρ l' W) (hN:∀ (k:Nat) (lit:Bool) (st:Z) (sz:Nat) (F:List SV) (vw:View) (a:Addr),l'[k]?=some (.r false lit st sz F)->kpOf ks k=none->vw∈ρ k->vw.base=some a->∀ o u,W.cell? ⟨a.block,o,none⟩=some u->ρz.fz a.block o=some u)
  {k sz:Nat}{off len:Z}{cap:Option Z}{lit:Bool}{st:Z}{F:List SV}{v:Value}(hB:l'[k]?=some (.r false lit st sz F)) (hk:kpOf ks k=none) (d:den ρ (.sl k sz off len cap) v):
  0<sz/\0<=len.v/\((F.drop (off.v.toNat*sz)).take (len.v.toNat*sz)).length=len.v.toNat*sz /\
   ((∃ b o c,v=.slice (some ⟨b,o,none⟩) len.v.toNat c/\len.v.toNat<=c/\(∃ o' u,ρz.fz b o'=some u)/\∀ (q:Nat) (x:SV),((F.drop (off.v.toNat*sz)).take (len.v.toNat*sz))[q]?=some x->∃ u,ρz.fz b (o+q)=some u/\den ρ x u)∨(len.v=0/\∃ a,v=.slice a 0 0)):=by
 simp only[den] at d;obtain⟨h0,h1,vw,hvw,hin,hs⟩:=d;obtain⟨hsz,hvs,_,hown⟩:=hR.blk k _ hB;have hv:=hvs vw hvw;have hle:off.v.toNat*sz+len.v.toNat*sz<=vw.n:=by rw[<-Nat.add_mul];exact hin
 refine⟨hsz,h1,by have:=hv.1;simp;omega,?_⟩;unfold SlVal at hs;cases hb:vw.base with
 | none=>
  rw[hb] at hs;obtain⟨_,h2,a',e⟩:=hs;exact .inr ⟨by omega,a',e⟩
 | some ad=>
  rw[hb] at hs;rcases hs with ⟨c,e,hc,_⟩|⟨h2,⟨a',e⟩,_⟩
  ·rcases Nat.eq_zero_or_pos c with hc0|hc0
   ·exact .inr ⟨by omega,_,by rw[e,hc0];congr 1;omega⟩
   ·refine .inl ⟨_,_,c,e,hc,?_,λq x hx=>?_⟩
    ·obtain⟨cur,hcur,_,hown2,_,_⟩:=hown rfl
     obtain⟨_,cc,T,fz,hh,hcs,_⟩:=hown2 vw hvw ad hb
     have:0<vw.cap*sz:=Nat.mul_pos (by omega) hsz
     exact⟨0,cc[0]'(by omega),hN k _ _ _ _ vw ad hB hk hvw hb _ _ (by simp [World.cell?,hh,show 0<cc.size by omega])⟩
    ·obtain⟨u,hu,du⟩:=qzo hv hb hle q x hx
     exact⟨u,hN k _ _ _ _ vw ad hB hk hvw hb _ u hu,du⟩
  ·exact .inr ⟨by omega,a',e⟩
theorem fz_den (hR:Rel P N W0 ρ l' W) (hz:FzLe ρ ρz) (hN:∀ (k:Nat) (lit:Bool) (st:Z) (sz:Nat) (F:List SV) (vw:View) (a:Addr),l'[k]?=some (.r false lit st sz F)->kpOf ks k=none->vw∈ρ k->vw.base=some a->∀ o u,W.cell? ⟨a.block,o,none⟩=some u->ρz.fz a.block o=some u)
  (hkeep:∀ (i k:Nat),ks[i]?=some (some k)->∀ vw∈ρ k,vw∈ρz (g i)) (hnil:∀ i:Nat,ks[i]?=some none->(⟨none,0,0⟩:View)∈ρz (g i)) {x y:SV}(h:Fz l' g ks x y):∀ v,den ρ x v->den ρz y v:=by
 refine Fz.rec (motive_1:=λx y _=>∀ v,den ρ x v->den ρz y v) (motive_2:=λxs ys _=>(∀ vs,denL ρ xs vs->denL ρz ys vs) /\
  ∀ (b o:Nat),(∀ (q:Nat) (x:SV),xs[q]?=some x->∃ u,ρz.fz b (o+q)=some u/\den ρ x u)->denF ρz ys b o) ?_ ?_ ?_ ?_ ?_ ?_ ?_ ?_ ?_ ?_ h
 ·intro x y h hr v d
  exact h.of _ _ (qzahy ρz hz hr d)
 ·intro k sz off len cap lit st F lit' F' n hB hk h hp hn ih v d
  obtain⟨h0,h1,h2,h3⟩:=qtl hR hN hB hk d;simp only[den];rw[<-hn];refine⟨h1,h0,by rw[<-h.len];exact h2.symm,hp,?_⟩;rcases h3 with ⟨b,o,c,e,hc,hb,hq⟩|⟨e0,a,e⟩
  ·exact .inl ⟨b,o,c,e,hc,hb,ih.2 b o hq⟩
  ·exact .inr ⟨e0,a,e⟩
 ·intro k i sz off len off' len' cap hk ho hl v d
  simp only[den] at d ⊢;rw[<-ho,<-hl];obtain⟨h0,h1,vw,hvw,r⟩:=d;exact⟨h0,h1,vw,hkeep i k hk vw hvw,r⟩
 ·intro i sz off' len' hk ho hl v d
  simp only[den] at d ⊢;rw[ho,hl];refine⟨Int.le_refl _,Int.le_refl _,_,hnil i hk,by simp,?_⟩;rw[d.1];simp [SlVal]
 ·intro lit' sz n h0 hn v d
  simp only[den] at d ⊢;rw[d.1,hn];exact⟨Int.le_refl _,h0,by simp,rfl,.inr ⟨rfl,none,rfl⟩⟩
 ·intro xs ys h ih v d
  simp only[den] at d ⊢;obtain⟨vs,e,d⟩:=d;exact⟨vs,e,ih.1 _ d⟩
 ·intro xs ys h ih v d
  simp only[den] at d ⊢;obtain⟨vs,e,d⟩:=d;exact⟨vs,e,ih.1 _ d⟩
 ·exact⟨λvs d=>by cases vs<;>simp [denL] at d ⊢,λb o _=>by simp [denF]⟩
 ·intro x y xs ys h hs ih1 ih2
  refine⟨λvs d=>?_,λb o hq=>?_⟩
  ·cases vs with
   | nil=>simp [denL] at d
   | cons v vs=>
    simp only[denL] at d ⊢;exact⟨ih1 v d.1,ih2.1 vs d.2⟩
  ·simp only[denF]
   obtain⟨u,hu,du⟩:=hq 0 x (by simp);refine⟨⟨u,by simpa using hu,ih1 u du⟩,ih2.2 b (o+1) λq z hz=>?_⟩;obtain⟨u',hu',du'⟩:=hq (q+1) z (by simpa using hz);exact⟨u',by rw[<-hu'];congr 1;omega,du'⟩
 ·intro xs ys h hp
  refine⟨λvs d=>qzalo hz hp (qzate h d),λb o hq=>qzaoy λq y hy=>?_⟩;obtain⟨x,hx,hd⟩:=h.2 q y hy;obtain⟨u,hu,du⟩:=hq q x hx;exact⟨u,hu,qrh hz _ _ (qbw hp y (List.mem_of_getElem? hy)) (hd _ _ du)⟩
end
def rowBs (sts:Nat->Int):List (Nat×List SV)->Nat->List Blk
 | [],_=>[]
 | (sz,F)::rs,i=>.r false false (.y (sts i)) sz F::rowBs sts rs (i+1)
def snocs (l:List Blk):List Blk->List Blk
 | []=>l
 | b::bs=>snocs (snoc l b) bs
theorem qno:∀ (bs l:List Blk),snocs l bs=l++bs
 | [],l=>by simp [snocs]
 | b::bs,l=>by rw[snocs,qno bs,qdm];simp
theorem qzagf {sts:Nat->Int}:∀ {rows:List (Nat×List SV)}{j:Nat},(rowBs sts rows j).length=rows.length
 | [],_=>rfl
 | (_,_)::rs,j=>by simp [rowBs,qzagf (rows:=rs)]
theorem qzanb {sts:Nat->Int}:∀ {rows:List (Nat×List SV)}{j:Nat}(i sz:Nat) (F:List SV),rows[i]?=some (sz,F)->(rowBs sts rows j)[i]?=some (.r false false (.y (sts (j+i))) sz F)
 | [],_,i,sz,F,h=>by simp at h
 | (s,G)::rs,j,0,sz,F,h=>by
  simp only[List.getElem?_cons_zero,Option.some.injEq,Prod.mk.injEq] at h;obtain⟨rfl,rfl⟩:=h;simp [rowBs]
 | (s,G)::rs,j,i+1,sz,F,h=>by
  have:=qzanb (sts:=sts) (rows:=rs) (j:=j+1) i sz F (by simpa using h)
  rw[show j+(i+1)=j+1+i by omega];simpa [rowBs] using this
def RowsK (l':List Blk):List (Option Nat)->List (Nat×List SV)->Prop
 | [],[]=>True
 | some k::ks,(sz,F)::rs=>(∃ lit st F',l'[k]?=some (.r false lit st sz F')/\FSub F' F)/\kpOf ks k=none/\RowsK l' ks rs
 | none::ks,(_,F)::rs=>F=[]/\RowsK l' ks rs
 | _,_=>False
theorem RowsK.len {l':List Blk}:∀ {ks:List (Option Nat)}{rows:List (Nat×List SV)},RowsK l' ks rows->ks.length=rows.length
 | [],[],_=>rfl
 | [],_::_,h=>h.elim
 | some _::_,[],h=>h.elim
 | none::_,[],h=>h.elim
 | some k::ks,(_,_)::rs,h=>by simp [RowsK.len h.2.2]
 | none::ks,(_,_)::rs,h=>by simp [RowsK.len h.2]
theorem RowsK.at {l':List Blk}:∀ {ks:List (Option Nat)}{rows:List (Nat×List SV)},RowsK l' ks rows->∀ (i sz:Nat) (F:List SV) (k:Nat),rows[i]?=some (sz,F)->ks[i]?=some (some k) ->
  ∃ lit st F',l'[k]?=some (.r false lit st sz F')/\FSub F' F
 | [],[],_,i,_,_,_,h,_=>by simp at h
 | [],_::_,h,_,_,_,_,_,_=>h.elim
 | some _::_,[],h,_,_,_,_,_,_=>h.elim
 | none::_,[],h,_,_,_,_,_,_=>h.elim
 | some k::ks,(s,G)::rs,h,i,sz,F,k',hr,hk=>by
  cases i with
  | zero=>
   simp only[List.getElem?_cons_zero,Option.some.injEq,Prod.mk.injEq] at hr hk;obtain⟨rfl,rfl⟩:=hr;subst hk;exact h.1
  | succ i=>exact RowsK.at h.2.2 i sz F k' (by simpa using hr) (by simpa using hk)
 | none::ks,(s,G)::rs,h,i,sz,F,k',hr,hk=>by
  cases i with
  | zero=>simp at hk
  | succ i=>exact RowsK.at h.2 i sz F k' (by simpa using hr) (by simpa using hk)
theorem RowsK.nil {l':List Blk}:∀ {ks:List (Option Nat)}{rows:List (Nat×List SV)},RowsK l' ks rows->∀ (i sz:Nat) (F:List SV),rows[i]?=some (sz,F)->ks[i]?=some none->F=[]
 | [],[],_,i,_,_,h,_=>by simp at h
 | [],_::_,h,_,_,_,_,_=>h.elim
 | some _::_,[],h,_,_,_,_,_=>h.elim
 | none::_,[],h,_,_,_,_,_=>h.elim
 | some k::ks,(s,G)::rs,h,i,sz,F,hr,hk=>by
  cases i with
  | zero=>simp at hk
  | succ i=>exact RowsK.nil h.2.2 i sz F (by simpa using hr) (by simpa using hk)
 | none::ks,(s,G)::rs,h,i,sz,F,hr,hk=>by
  cases i with
  | zero=>
   simp only[List.getElem?_cons_zero,Option.some.injEq,Prod.mk.injEq] at hr;obtain⟨rfl,rfl⟩:=hr;exact h.1
  | succ i=>exact RowsK.nil h.2 i sz F (by simpa using hr) (by simpa using hk)
theorem RowsK.inj {l':List Blk}:∀ {ks:List (Option Nat)}{rows:List (Nat×List SV)},RowsK l' ks rows->∀ (i i' k:Nat),ks[i]?=some (some k)->ks[i']?=some (some k)->i=i'
 | [],[],_,i,_,_,h,_=>by simp at h
 | [],_::_,h,_,_,_,_,_=>h.elim
 | some _::_,[],h,_,_,_,_,_=>h.elim
 | none::_,[],h,_,_,_,_,_=>h.elim
 | some k::ks,(s,G)::rs,h,i,i',k',hi,hi'=>by
  cases i with
  | zero=>
   simp only[List.getElem?_cons_zero,Option.some.injEq] at hi;subst hi;cases i' with
   | zero=>rfl
   | succ i'=>exact absurd (by simpa using hi') (qea h.2.1 i')
  | succ i=>
   cases i' with
   | zero=>
    simp only[List.getElem?_cons_zero,Option.some.injEq] at hi';subst hi';exact absurd (by simpa using hi) (qea h.2.1 i)
   | succ i'=>exact congrArg _ (RowsK.inj h.2.2 i i' k' (by simpa using hi) (by simpa using hi'))
 | none::ks,(s,G)::rs,h,i,i',k',hi,hi'=>by
  cases i with
  | zero=>simp at hi
  | succ i=>
   cases i' with
   | zero=>simp at hi'
   | succ i'=>exact congrArg _ (RowsK.inj h.2 i i' k' (by simpa using hi) (by simpa using hi'))
def Kept (rows:List (Nat×List SV)) (y:Nat->SV) (x:SV) (l':List Blk):Prop:=∃ ks:List (Option Nat),RowsK l' ks rows/\∀ m,Fz l' (λi=>m+i) ks x (y m)
def goodRows:List (Nat×List SV)->Prop
 | []=>True
 | (sz,F)::rs=>(0<sz/\plains F=true)/\goodRows rs
theorem goodRows.at:∀ {rows:List (Nat×List SV)},goodRows rows->∀ (i sz:Nat) (F:List SV),rows[i]?=some (sz,F)->0<sz/\plains F=true
 | [],_,i,_,_,h=>by simp at h
 | (s,G)::rs,hg,i,sz,F,h=>by
  cases i with
  | zero=>
   simp only[List.getElem?_cons_zero,Option.some.injEq,Prod.mk.injEq] at h;obtain⟨rfl,rfl⟩:=h;exact hg.1
  | succ i=>exact goodRows.at hg.2 i sz F (by simpa using h)
def stsOf (l':List Blk) (ks:List (Option Nat)):Nat->Int:=λi=>match ks[i]? with|some (some j)=>(match l'[j]? with|some (.r _ _ st _ _)=>st.v|_=>0)|_=>0
def KeptZ (Z:(Nat->Int)->Prop) (rows:List (Nat×List SV)) (y:Nat->SV) (x:SV) (l':List Blk):Prop:=∃ ks:List (Option Nat),RowsK l' ks rows/\(∀ m,Fz l' (λi=>m+i) ks x (y m))/\Z (stsOf l' ks)
open Classical in
/-- A function of values alone, used in any heap: what it tells is written no more, but for the rows that are kept. -/
theorem qzace {Z:(Nat->Int)->Prop}{g:FuncId}{args:List SV}{rows:List (Nat×List SV)}{y:Nat->SV}{K:SV->List Blk->Prop}(hF:(S0 P).call g args [] (KeptZ Z rows y)) (hr:refsBL (λ_=>false) args=true) (hg:goodRows rows)
  (hK:∀ sts,Z sts->K (y l.length) (l++rowBs sts rows 0)):(S0 P).call g args l K:=by
 intro N W0 ρ W vals hR hd
 let ρ0:Nms:=⟨λ_=>[],ρ.fz,λb=>W.heap.size<=b⟩
 have hR0:Rel P (λb=>W.heap.size<=b) W ρ0 [] W:=
  ⟨⟨rfl,rfl,rfl,Nat.le_refl _,λ_ _=>rfl⟩,λ_ h=>h,λ_ _=>rfl,λk vw a hv=>(by cases hv),λk B h=>by simp at h,λk k' B vw vw' a a' h=>by simp at h,λk B vw a h=>by simp at h,rfl,hR.fin,λk B vw a h=>by simp at h⟩
 have hd0:denL ρ0 args vals.toList:=by
  have:=qlj (ok:=λ_=>false) (f:=id) (ρ:=ρ) (ρ':=ρ0) (λ_ _ _ h=>h) (λ_ h=>by cases h) args _ hr hd
  rwa[qqa] at this
 refine NextR.mono ?_ (hF _ _ _ _ _ hR0 hd0);rintro v W' ⟨ρ',x,l',⟨ks,hrows,hfz,hz⟩,hle,hll,hR',hdv⟩;have hkl:=hrows.len
 let kept:Nat->Prop:=λb=>∃ (i j:Nat) (vw:View) (a:Addr),ks[i]?=some (some j)/\vw∈ρ' j/\vw.base=some a/\a.block=b
 let fz2:Nat->Nat->Option Value:=λb o=>if W.heap.size<=b/\¬ kept b then W'.cell? ⟨b,o,none⟩ else ρ'.fz b o
 let ρ2:Nms:=⟨λk=>if k<l.length then ρ k else match ks[k-l.length]? with
  | some (some j)=>ρ' j
  | some none=>[⟨none,0,0⟩]
  | none=>[],fz2,ρ.q⟩
 have hold:∀ k,k<l.length->ρ2 k=ρ k:=λk hk=>by simp [ρ2,hk]
 have hnew:∀ (i j:Nat),ks[i]?=some (some j)->ρ2 (l.length+i)=ρ' j:=λi j hij=>by simp only[ρ2];rw[if_neg (by omega)];simp [hij]
 have hnil:∀ (i:Nat),ks[i]?=some none->ρ2 (l.length+i)=[⟨none,0,0⟩]:=λi hij=>by simp only[ρ2];rw[if_neg (by omega)];simp [hij]
 have hcase:∀ k,k<l.length∨(∃ i j,k=l.length+i/\ks[i]?=some (some j))∨(∃ i,k=l.length+i/\ks[i]?=some none)∨ρ2 k=[]:=by
  intro k;by_cases hk:k<l.length
  ·exact .inl hk
  ·cases hq:ks[k-l.length]? with
   | none=>exact .inr (.inr (.inr (by simp [ρ2,hk,hq])))
   | some j=>cases j with
    | none=>exact .inr (.inr (.inl ⟨k-l.length,by omega,hq⟩))
    | some j=>exact .inr (.inl ⟨k-l.length,j,by omega,hq⟩)
 have hrow:∀ (i j:Nat),ks[i]?=some (some j)->∃ sz F lit st F',rows[i]?=some (sz,F)/\l'[j]?=some (.r false lit st sz F')/\FSub F' F/\0<sz/\plains F=true:=by
  intro i j hij;have hi:i<rows.length:=by have:=(List.getElem?_eq_some_iff.1 hij).1;omega
  obtain⟨sz,F⟩:Nat×List SV:=rows[i];have hri:rows[i]?=some rows[i]:=List.getElem?_eq_getElem hi;obtain⟨lit,st,F',h1,h2⟩:=hrows.at i rows[i].1 rows[i].2 j hri hij;exact⟨_,_,lit,st,F',hri,h1,h2,hg.at i _ _ hri⟩
 have hfresh:∀ (i j:Nat) (vw:View) (a:Addr),ks[i]?=some (some j)->vw∈ρ' j->vw.base=some a->W.heap.size<=a.block:=by
  intro i j vw a hij hv ha;obtain⟨sz,F,lit,st,F',h1,h2,h3,h4,h5⟩:=hrow i j hij;exact hR'.own j _ vw a h2 rfl hv ha
 have hz2:FzLe ρ' ρ2:=by
  intro b o u hu;show fz2 b o=some u;simp only[fz2];split
  ·exact hR'.fin b o u hu
  ·exact hu
 have hleρ:Le l.length ρ ρ2:=by
  refine⟨λk hk vw hv=>by rw[hold k hk];exact hv,λb o u e=>hz2 b o u (hle.fz b o u e),λb o u e=>?_,rfl⟩;have e':fz2 b o=some u:=e;simp only[fz2] at e';split at e'
  ·rename_i hb;exact .inr (by rw[hR.qN];exact hR.hN b hb.1)
  ·exact (hle.fq b o u e').imp id λh=>by rw[hR.qN];exact hR.hN b h
 have hsepk:∀ (k:Nat) (B:Blk) (vw:View) (a:Addr),l'[k]?=some B->B.wr=true->kpOf ks k=none->vw∈ρ' k->vw.base=some a->W.heap.size<=a.block/\¬ kept a.block:=by
  intro k B vw a hB hw hk hv ha;refine⟨hR'.own k B vw a hB hw hv ha,?_⟩;rintro ⟨i,j,vw',a',hij,hv',ha',hb⟩;have hne:k≠j:=λe=>qea hk i (e▸hij);exact hR'.sep k j B vw vw' a a' hB hw hne hv hv' ha ha' hb.symm
 refine⟨ρ2,_,_,hK _ hz,hleρ,by simp,⟨?_,hR.le,?_,?_,?_,?_,?_,hR.qN,?_,?_⟩,?_⟩
 ·exact hR.below.trans (hR'.below.mono hR.hN)
 ·intro k hk
  simp only[List.length_append,qzagf] at hk
  have:ks[k-l.length]?=none:=List.getElem?_eq_none (by omega)
  simp [ρ2,show ¬ k<l.length by omega,this]
 ·intro k vw a hv ha
  rcases hcase k with hk|⟨i,j,rfl,hij⟩|⟨i,rfl,hij⟩|hk
  ·rw[hold k hk] at hv
   exact Nat.lt_of_lt_of_le (hR.ids k vw a hv ha) hR'.below.size
  ·rw[hnew i j hij] at hv
   exact hR'.ids j vw a hv ha
  ·rw[hnil i hij,List.mem_singleton] at hv;subst hv;cases ha
  ·rw[hk] at hv;cases hv
 ·intro k B hB
  by_cases hk:k<l.length
  ·rw[List.getElem?_append_left hk] at hB
   exact (hR.blk k B hB).keep hleρ hR.out (hold k hk) λvw hv a ha=>hR'.below.block _ (Nat.not_le.2 (hR.ids k vw a hv ha))
  ·have hlt:=(List.getElem?_eq_some_iff.1 hB).1
   simp only[List.length_append,qzagf] at hlt;obtain⟨i,rfl⟩:∃ i,k=l.length+i:=⟨k-l.length,by omega⟩;rw[List.getElem?_append_right (by omega),Nat.add_sub_cancel_left] at hB;have hi:i<ks.length:=by omega
   cases hij:ks[i]'hi with
   | some j=>
    have hij:ks[i]?=some (some j):=by rw[List.getElem?_eq_getElem hi,hij]
    obtain⟨sz,F,lit,st,F',h1,h2,h3,h4,h5⟩:=hrow i j hij;rw[qzanb i sz F h1] at hB;simp only[Option.some.injEq,Nat.zero_add,stsOf,hij,h2] at hB;subst hB;obtain⟨g0,hv,hp,hown⟩:=hR'.blk j _ h2;have hr2:=hnew i j hij;refine⟨h4,λvw hm=>?_,λ_ x hx=>qbw h5 x hx,λ_=>?_⟩
    ·rw[hr2] at hm
     exact (h3.view (hv vw hm)).plain ρ2 hz2 h5
    ·obtain⟨cur,hc,hn,g1,g2,g3⟩:=hown rfl
     rw[hr2];refine⟨cur,hc,by rw[<-h3.1];exact hn,λvw hm=>(g1 vw hm).lower hR.hN,g2,λvw hm=>?_⟩;rw[<-h3.1];exact g3 vw hm
   | none=>
    have hij:ks[i]?=some none:=by rw[List.getElem?_eq_getElem hi,hij]
    have hri:rows[i]?=some (rows[i]'(by omega)):=List.getElem?_eq_getElem (by omega);rw[qzanb i _ _ hri] at hB;have hF:=hrows.nil i _ _ hri hij;obtain⟨h4,_⟩:=hg.at i _ _ hri;simp only[Option.some.injEq] at hB;subst hB;have hr2:=hnil i hij;rw[hF];refine⟨h4,λvw hm=>?_,(λ_ x hx=>by cases hx),λ_=>?_⟩
    ·rw[hr2,List.mem_singleton] at hm;subst hm
     exact⟨Nat.zero_le _,λ_=>⟨rfl,rfl⟩,λq x hq _=>by simp at hq⟩
    ·rw[hr2]
     refine⟨⟨none,0,0⟩,by simp,rfl,λvw hm=>?_,Nat.zero_le _,λvw hm=>?_⟩
     ·rw[List.mem_singleton] at hm;subst hm;exact λa ha=>by cases ha
     ·rw[List.mem_singleton] at hm;subst hm;exact .inl ⟨rfl,rfl⟩
 ·intro k k' B vw vw' a a' hB hwr hne hv hv' ha ha'
  rcases hcase k with hk|⟨i,j,rfl,hij⟩|⟨i,rfl,hij⟩|hk
  ·rw[hold k hk] at hv
   rcases hcase k' with hk'|⟨i',j',rfl,hij'⟩|⟨i',rfl,hij'⟩|hk'
   ·rw[hold k' hk'] at hv'
    rw[List.getElem?_append_left hk] at hB;exact hR.sep k k' B vw vw' a a' hB hwr hne hv hv' ha ha'
   ·rw[hnew i' j' hij'] at hv'
    have h1:=hfresh i' j' vw' a' hij' hv' ha';have h2:=hR.ids k vw a hv ha;omega
   ·rw[hnil i' hij',List.mem_singleton] at hv';subst hv';cases ha'
   ·rw[hk'] at hv';cases hv'
  ·rw[hnew i j hij] at hv
   obtain⟨sz,F,lit,st,F',h1,h2,h3,h4,h5⟩:=hrow i j hij;rcases hcase k' with hk'|⟨i',j',rfl,hij'⟩|⟨i',rfl,hij'⟩|hk'
   ·rw[hold k' hk'] at hv'
    have h1:=hfresh i j vw a hij hv ha;have h2:=hR.ids k' vw' a' hv' ha';omega
   ·rw[hnew i' j' hij'] at hv'
    have hjj:j≠j':=by
     intro e;subst e;exact hne (congrArg _ (hrows.inj i i' j hij hij'))
    exact hR'.sep j j' _ vw vw' a a' h2 rfl hjj hv hv' ha ha'
   ·rw[hnil i' hij',List.mem_singleton] at hv';subst hv';cases ha'
   ·rw[hk'] at hv';cases hv'
  ·rw[hnil i hij,List.mem_singleton] at hv;subst hv;cases ha
  ·rw[hk] at hv;cases hv
 ·intro k B vw a hB hwr hv ha
  rcases hcase k with hk|⟨i,j,rfl,hij⟩|⟨i,rfl,hij⟩|hk
  ·rw[hold k hk] at hv
   rw[List.getElem?_append_left hk] at hB;exact hR.own k B vw a hB hwr hv ha
  ·rw[hnew i j hij] at hv
   exact hR.hN _ (hfresh i j vw a hij hv ha)
  ·rw[hnil i hij,List.mem_singleton] at hv;subst hv;cases ha
  ·rw[hk] at hv;cases hv
 ·intro b o u e
  have e':fz2 b o=some u:=e;simp only[fz2] at e';split at e'
  ·exact e'
  ·exact hR'.fin b o u e'
 ·intro k B vw a hB hwr hv ha o
  show fz2 a.block o=none;rcases hcase k with hk|⟨i,j,rfl,hij⟩|⟨i,rfl,hij⟩|hk
  ·rw[hold k hk] at hv
   rw[List.getElem?_append_left hk] at hB;have hlt:=hR.ids k vw a hv ha;simp only[fz2];rw[if_neg (λh=>by omega)];have h1:=hR.fsep k B vw a hB hwr hv ha o;cases he:ρ'.fz a.block o with
   | none=>rfl
   | some u=>
    rcases hle.fq _ _ _ he with h2|h2
    ·have:ρ.fz a.block o=some u:=h2
     rw[h1] at this;cases this
    ·have:W.heap.size<=a.block:=h2
     omega
  ·rw[hnew i j hij] at hv
   obtain⟨sz,F,lit,st,F',h1,h2,h3,h4,h5⟩:=hrow i j hij;simp only[fz2];rw[if_neg (λh=>h.2 ⟨i,j,vw,a,hij,hv,ha,rfl⟩)];exact hR'.fsep j _ vw a h2 rfl hv ha o
  ·rw[hnil i hij,List.mem_singleton] at hv;subst hv;cases ha
  ·rw[hk] at hv;cases hv
 ·refine fz_den (ρz:=ρ2) (g:=λi=>l.length+i) (ks:=ks) hR' hz2 ?_ (λi k hk vw hv=>by rw[hnew i k hk];exact hv) (λi hk=>by rw[hnil i hk];simp) (hfz _) v hdv
  intro k lit st sz F vw a hB hk hv ha o u hu;show fz2 a.block o=some u;simp only[fz2];rw[if_pos (hsepk k _ vw a hB rfl hk hv ha)];exact hu
theorem qzati {g:FuncId}{args:List SV}{rows:List (Nat×List SV)}{y:Nat->SV}{K:SV->List Blk->Prop}(hF:(S0 P).call g args [] (Kept rows y)) (hr:refsBL (λ_=>false) args=true) (hg:goodRows rows)
  (hK:∀ sts,K (y l.length) (l++rowBs sts rows 0)):(S0 P).call g args l K:=
 qzace (Z:=λ_=>True) (qae hF λx l' h=>⟨x,.rfl,h.imp λ_ h=>⟨h.1,h.2,trivial⟩⟩) hr hg λsts _=>hK sts
theorem use_kept {S:Sy}(hS:S0 P=S) {g:FuncId}{args args':List SV}{rows:List (Nat×List SV)}{y:Nat->SV}{K:SV->List Blk->Prop}(hF:(S0 P).call g args' [] (Kept rows y)) (ha:SubL args args')
  (hr:refsBL (λ_=>false) args'=true) (hg:goodRows rows) (hK:∀ sts,K (y (len l)) (snocs l (rowBs sts rows 0))):S.call g args l K:=by
 subst hS;refine qgp ha (qzati hF hr hg λsts=>?_)
 have:=hK sts
 rwa[qno,qbs] at this
def Tell (y x:SV) (l':List Blk):Prop:=∀ g,Fz l' g [] x y
theorem qaq {S:Sy}(hS:S0 P=S) {g:FuncId}{args args':List SV}{y:SV}{K:SV->List Blk->Prop}(hF:(S0 P).call g args' [] (Tell y)) (ha:SubL args args')
  (hr:refsBL (λ_=>false) args'=true) (hK:K y l):S.call g args l K:=by
 refine use_kept hS (rows:=[]) (y:=λ_=>y) ?_ ha hr trivial (λ_=>hK);refine qae hF λx l' h=>⟨x,.rfl,[],trivial,λm=>h _⟩
def roB:Blk->Blk
 | .r false lit st sz F=>.r true lit st sz F
 | b=>b
def memN:List Nat->Nat->Bool
 | [],_=>false
 | k::fs,j=>Nat.beq k j||memN fs j
def frzL (fs:List Nat):Nat->List Blk->List Blk
 | _,[]=>[]
 | i,b::l=>(match memN fs i with|true=>roB b|false=>b)::frzL fs (i+1) l
def others (fs:List Nat):Nat->List (Option Nat)
 | 0=>[]
 | n+1=>match memN fs n with|true=>others fs n|false=>some n::others fs n
theorem qzark {fs:List Nat}:∀ {n k:Nat},k<n->memN fs k=false->∃ i:Nat,(others fs n)[i]?=some (some k)
 | 0,k,h,_=>by omega
 | n+1,k,h,hk=>by
  unfold others;rcases Nat.lt_or_ge k n with h1|h1
  ·obtain⟨i,hi⟩:=qzark h1 hk
   split
   ·exact⟨i,hi⟩
   ·exact⟨i+1,by simpa using hi⟩
  ·have:k=n:=by omega
   subst this;rw[hk];exact⟨0,by simp⟩
theorem qun {fs:List Nat}:∀ {n i:Nat}{o:Option Nat},(others fs n)[i]?=some o->∃ k,o=some k
 | 0,i,o,h=>by simp [others] at h
 | n+1,i,o,h=>by
  unfold others at h;split at h
  ·exact qun h
  ·cases i with
   | zero=>simp only[List.getElem?_cons_zero,Option.some.injEq] at h;exact⟨n,h.symm⟩
   | succ i=>exact qun (by simpa using h)
theorem qyc {fs:List Nat}:∀ {l:List Blk}{i:Nat},(frzL fs i l).length=l.length
 | [],_=>rfl
 | b::l,i=>by simp [frzL,qyc (l:=l)]
theorem qzavt {fs:List Nat}:∀ {l:List Blk}{i j:Nat}{B':Blk},(frzL fs i l)[j]?=some B'->∃ B,l[j]?=some B/\B'=(if memN fs (i+j)=true then roB B else B)
 | [],_,j,B',h=>by simp [frzL] at h
 | b::l,i,j,B',h=>by
  cases j with
  | zero=>
   simp only[frzL,List.getElem?_cons_zero,Option.some.injEq] at h;refine⟨b,rfl,?_⟩;rw[<-h,Nat.add_zero];cases memN fs i<;>rfl
  | succ j=>
   simp only[frzL,List.getElem?_cons_succ] at h;obtain⟨B,h1,h2⟩:=qzavt h;exact⟨B,by simpa using h1,by rw[h2,show i+1+j=i+(j+1) by omega]⟩
theorem sub_ro (B:Blk):SubB B (roB B):=by
 unfold roB;split
 ·exact .ro
 ·exact .rfl
section
variable {N:Nat->Prop}{W0 W:World}{ρ:Nms}
open Classical in
/-- More cells that nobody writes. -/
noncomputable def fzx (B:Nat->Prop) (W:World) (ρ:Nms):Nms:=⟨ρ.nm,λb o=>if B b then W.cell? ⟨b,o,none⟩ else ρ.fz b o,ρ.q⟩
theorem fzx_le (hR:Rel P N W0 ρ l W) {B:Nat->Prop}(hB:∀ b,B b->N b) (m:Nat):Le m ρ (fzx B W ρ):=by
 refine⟨λ_ _ _ h=>h,λb o u e=>?_,λb o u e=>?_,rfl⟩
 ·simp only[fzx]
  split
  ·exact hR.fin b o u e
  ·exact e
 ·simp only[fzx] at e
  split at e
  ·rename_i h;exact .inr (by rw[hR.qN];exact hB b h)
  ·exact .inl e
theorem Rel.fzx (hR:Rel P N W0 ρ l W) {B:Nat->Prop}(hB:∀ b,B b->N b) (hsep:∀ (k:Nat) (Bk:Blk) (vw:View) (a:Addr),l[k]?=some Bk->Bk.wr=true->vw∈ρ k->vw.base=some a->¬ B a.block):
  Rel P N W0 (fzx B W ρ) l W:=by
 have hle:=fzx_le hR hB l.length;refine⟨hR.below,hR.le,hR.out,hR.ids,λk Bk h=>(hR.blk k Bk h).keep hle hR.out rfl (λ_ _ _ _=>rfl),hR.sep,hR.own,hR.qN,λb o u e=>?_,λk Bk vw a h hw hv ha o=>?_⟩
 ·simp only[Cz.fzx] at e
  split at e
  ·exact e
  ·exact hR.fin b o u e
 ·simp only[Cz.fzx]
  rw[if_neg (hsep k Bk vw a h hw hv ha)];exact hR.fsep k Bk vw a h hw hv ha o
end
theorem call_frz (fs:List Nat) {g:FuncId}{args args':List SV}{K:SV->List Blk->Prop}(ha:FzL l id (others fs l.length) args args') (hr:refsBL (λ_=>false) args'=true) (h:(S0 P).call g args' (frzL fs 0 l) K):(S0 P).call g args l K:=by
 intro N W0 ρ W vals hR hd;have hRs:Rel P N W0 ρ (frzL fs 0 l) W:=by
  refine hR.sub qyc λk B' hB=>?_;obtain⟨B,h1,h2⟩:=qzavt hB;refine⟨B,h1,?_⟩;rw[h2];split
  ·exact sub_ro B
  ·exact .rfl
 let Bs:Nat->Prop:=λb=>∃ (k:Nat) (lit:Bool) (st:Z) (sz:Nat) (F:List SV) (vw:View) (a:Addr),memN fs k=true/\l[k]?=some (.r false lit st sz F)/\vw∈ρ k/\vw.base=some a/\a.block=b
 have hBN:∀ b,Bs b->N b:=by
  rintro b ⟨k,lit,st,sz,F,vw,a,_,hk,hv,ha,rfl⟩;exact hR.own k _ vw a hk rfl hv ha
 have hwr:∀ (k:Nat) (Bk:Blk),(frzL fs 0 l)[k]?=some Bk->Bk.wr=true->∃ B,l[k]?=some B/\B.wr=true/\∀ lit st sz F,B=.r false lit st sz F->memN fs k=false:=by
  intro k Bk hB hw;obtain⟨B,h1,h2⟩:=qzavt hB;rw[Nat.zero_add] at h2;refine⟨B,h1,?_,λlit st sz F e=>?_⟩
  ·rw[h2] at hw
   split at hw
   ·cases B<;>simp only[roB] at hw ⊢<;>try exact hw
    rename_i ro _ _ _ _;cases ro
    ·rfl
    ·exact hw
   ·exact hw
  ·cases hm:memN fs k with
   | false=>rfl
   | true=>
    rw[h2,hm,e] at hw;simp [roB,Blk.wr] at hw
 have hR2:Rel P N W0 (fzx Bs W ρ) (frzL fs 0 l) W:=by
  refine hRs.fzx hBN λk Bk vw a hB hw hv ha=>?_;rintro ⟨k',lit,st,sz,F,vw',a',hm,hk',hv',ha',hb⟩;obtain⟨B,h1,h2,h3⟩:=hwr k Bk hB hw;have hne:k≠k':=by
   rintro rfl;rw[h1] at hk';simp only[Option.some.injEq] at hk';rw[h3 _ _ _ _ hk'] at hm;cases hm
  exact hR.sep k k' B vw vw' a a' h1 h2 hne hv hv' ha ha' hb.symm
 have hle:Le l.length ρ (fzx Bs W ρ):=fzx_le hR hBN _
 let ρz:Nms:=⟨λi=>match (others fs l.length)[i]? with|some (some k)=>ρ k|_=>[],(fzx Bs W ρ).fz,ρ.q⟩
 have hconv:denL ρz args' vals.toList:=by
  have h1:=@fz_den P N W0 W ρ ρz l id (others fs l.length) hR hle.fz (by
   intro k lit st sz F vw a hB hk hv ha o u hu;show (fzx Bs W ρ).fz a.block o=some u;simp only[fzx];have hkl:k<l.length:=(List.getElem?_eq_some_iff.1 hB).1;have hmk:memN fs k=true:=by
    cases hm:memN fs k with
    | true=>rfl
    | false=>
     obtain⟨i,hi⟩:=qzark hkl hm;exact absurd hi (qea hk i)
   rw[if_pos ⟨k,lit,st,sz,F,vw,a,hmk,hB,hv,ha,rfl⟩];exact hu) (by
   intro i k hk vw hv;show vw∈(match (others fs l.length)[i]? with|some (some k)=>ρ k|_=>[]);rw[hk];exact hv) (by
   intro i hi;obtain⟨k,hk⟩:=qun hi;cases hk)
  have h2:∀ v,den ρ (.tp args) v->den ρz (.tp args') v:=h1 (.tp ha);have h3:=h2 (.tuple vals) (by simp only[den];exact⟨vals,rfl,hd⟩);simp only[den] at h3;obtain⟨vs,e,h4⟩:=h3;cases e;exact h4
 have hd2:denL (fzx Bs W ρ) args' vals.toList:=by
  have:=qlj (ok:=λ_=>false) (f:=id) (ρ:=ρz) (ρ':=fzx Bs W ρ) (λ_ _ _ h=>h) (λ_ h=>by cases h) args' _ hr hconv
  rwa[qqa] at this
 refine NextR.mono ?_ (h N W0 _ W vals hR2 hd2);rintro v W' ⟨ρ',sv,l',hK,hle2,hll,hR',hdv⟩;rw[qyc] at hle2 hll;exact⟨ρ',sv,l',hK,hle.trans hle2,hll,hR',hdv⟩
mutual
/-- Values without memory. -/
def bare:SV->Bool
 | .tt | .ff | .b _ | .i _ _ | .s _ | .re _=>true
 | .ag cs=>bareL cs
 | .tp cs=>bareL cs
 | _=>false
def bareL:List SV->Bool
 | []=>true
 | x::xs=>bare x&&bareL xs
end
mutual
theorem den_bare {ρ ρ':Nms}:∀ (x:SV) (v:Value),bare x=true->den ρ x v->den ρ' x v
 | .tt,_,_,d=>by simpa only[den] using d
 | .ff,_,_,d=>by simpa only[den] using d
 | .b _,_,_,d=>by simpa only[den] using d
 | .i _ _,_,_,d=>by simpa only[den] using d
 | .s _,_,_,d=>by simpa only[den] using d
 | .re _,_,_,d=>by simpa only[den] using d
 | .ag cs,v,h,d=>by
  simp only[den] at d ⊢;obtain⟨vs,e,d⟩:=d;exact⟨vs,e,qzaia cs _ h d⟩
 | .tp cs,v,h,d=>by
  simp only[den] at d ⊢;obtain⟨vs,e,d⟩:=d;exact⟨vs,e,qzaia cs _ h d⟩
 | .p _ _,_,h,_=>by simp [bare] at h
 | .pe _ _ _ _,_,h,_=>by simp [bare] at h
 | .pv _ _ _ _ _,_,h,_=>by simp [bare] at h
 | .v _ _ _ _,_,h,_=>by simp [bare] at h
 | .sl _ _ _ _ _,_,h,_=>by simp [bare] at h
 | .fn _ _ _,_,h,_=>by simp [bare] at h
 | .yl _,_,h,_=>by simp [bare] at h
 | .m _,_,h,_=>by simp [bare] at h
 | .un,_,h,_=>by simp [bare] at h
 | .any,_,h,_=>by simp [bare] at h
theorem qzaia {ρ ρ':Nms}:∀ (xs:List SV) (vs:List Value),bareL xs=true->denL ρ xs vs->denL ρ' xs vs
 | [],[],_,d=>d
 | [],_::_,_,d=>by simp [denL] at d
 | _::_,[],_,d=>by simp [denL] at d
 | x::xs,v::vs,h,d=>by
  simp only[bareL,Bool.and_eq_true] at h;simp only[denL] at d ⊢;exact⟨den_bare x v h.1 d.1,qzaia xs vs h.2 d.2⟩
end
theorem call_tmp {g:FuncId}{args args':List SV}{y:SV}{K:SV->List Blk->Prop}(hF:(S0 P).call g args' [] (λx _=>Sub x y)) (ha:FzL l id [] args args') (hr:refsBL (λ_=>false) args'=true)
  (hy:bare y=true) (hK:K y l):(S0 P).call g args l K:=by
 intro N W0 ρ W vals hR hd
 let ρ0:Nms:=⟨λ_=>[],λb o=>W.cell? ⟨b,o,none⟩,λb=>W.heap.size<=b⟩
 have hR0:Rel P (λb=>W.heap.size<=b) W ρ0 [] W:=
  ⟨⟨rfl,rfl,rfl,Nat.le_refl _,λ_ _=>rfl⟩,λ_ h=>h,λ_ _=>rfl,λk vw a hv=>(by cases hv),λk B h=>by simp at h,λk k' B vw vw' a a' h=>by simp at h,λk B vw a h=>by simp at h,rfl,λ_ _ _ h=>h,λk B vw a h=>by simp at h⟩
 have hconv:denL ρ0 args' vals.toList:=by
  have h1:=@fz_den P N W0 W ρ ρ0 l id [] hR hR.fin (λk lit st sz F vw a hB hk hv ha o u hu=>hu) (λi k h=>by simp at h) (λi h=>by simp at h);have h2:∀ v,den ρ (.tp args) v->den ρ0 (.tp args') v:=h1 (.tp ha);have h3:=h2 (.tuple vals) (by simp only[den];exact⟨vals,rfl,hd⟩);simp only[den] at h3;obtain⟨vs,e,h4⟩:=h3;cases e;exact h4
 refine NextR.mono ?_ (hF _ _ _ _ _ hR0 hconv);rintro v W' ⟨ρ',x,l',hx,hle,hll,hR',hdv⟩;have hb:Below W.heap.size W W':=⟨hR'.below.os,hR'.below.tape,hR'.below.output,hR'.below.size,λk hk=>hR'.below.block k (Nat.not_le.2 hk)⟩;exact⟨ρ,y,l,hK,Le.refl _ _,Nat.le_refl _,hR.later hb,den_bare y v hy (hx.of _ _ hdv)⟩
theorem qzaft {S:Sy}(hS:S0 P=S) {g:FuncId}{args args':List SV}{y:SV}{K:SV->List Blk->Prop}(hF:(S0 P).call g args' [] (λx _=>Sub x y)) (ha:FzL l id [] args args') (hr:refsBL (λ_=>false) args'=true)
  (hy:bare y=true) (hK:K y l):S.call g args l K:=by subst hS;exact call_tmp hF ha hr hy hK
theorem use_frz {S:Sy}(hS:S0 P=S) (fs:List Nat) {g:FuncId}{args args':List SV}{rows:List (Nat×List SV)}{y:Nat->SV}{K:SV->List Blk->Prop}(hF:(S0 P).call g args' [] (Kept rows y)) (ha:FzL l id (others fs (len l)) args args')
  (hr:refsBL (λ_=>false) args'=true) (hg:goodRows rows) (hK:∀ sts,K (y (len l)) (snocs (frzL fs 0 l) (rowBs sts rows 0))):S.call g args l K:=by
 subst hS;refine call_frz fs (by rw[<-qbs];exact ha) hr (qzati hF hr hg λsts=>?_)
 have:=hK sts
 rwa[qno,qbs,<-qyc (fs:=fs) (i:=0)] at this
end
end Cz
namespace Cz
open Go Go.RowKit Go.ChangeShapes Go.WideShapes
inductive Pk where
 | b
 | i (k:IntKind)
 | s
 | sl (ks:List Pk)
def pkLen:List Pk->Nat
 | []=>0
 | _::ks=>pkLen ks+1
theorem qzafb:∀ (ks:List Pk),pkLen ks=ks.length
 | []=>rfl
 | _::ks=>by simp [pkLen,qzafb ks]
mutual
def pkV:Pk->SV->Prop
 | .b,x=>∃ v,x=.b v
 | .i k,x=>∃ n,x=.i k (.y n)/\lo k<=n/\n<=hi k
 | .s,x=>∃ v,x=.s v/\ilen v<=140737488355328
 | .sl ks,x=>∃ els:List (List SV),x=.v false (pkLen ks) els.flatten (.y (ilen els))/\ilen els<=140737488355328/\∀ e,e∈els->pkVs ks e
def pkVs:List Pk->List SV->Prop
 | [],[]=>True
 | k::ks,x::xs=>pkV k x/\pkVs ks xs
 | _,_=>False
end
def pkFs (P:Program) (f:TypeId->Option (List Pk)):List Field->Nat->Option (List Pk)
 | [],_=>some []
 | g::gs,off=>match f g.type with
  | none=>none
  | some s=>if g.offset=off/\P.cellsOf g.type=s.length then (match pkFs P f gs (off+s.length) with|some r=>some (s++r)|none=>none) else none
def pks (P:Program):Nat->TypeId->Option (List Pk)
 | 0,_=>none
 | d+1,t=>match P.underlying t with
  | some .bool=>some [.b]
  | some (.int k)=>some [.i k]
  | some .string=>some [.s]
  | some (.slice e)=>match pks P d e with
   | some r=>if P.cellsOf e=r.length/\0<r.length/\0<P.bytesOf e then some [.sl r] else none
   | none=>none
  | some (.struct fs)=>match pkFs P (pks P d) fs.toList 0 with
   | some r=>if P.cellsOf t=r.length then some r else none
   | none=>none
  | some (.array n e)=>match pks P d e with
   | some r=>if P.cellsOf e=r.length/\P.cellsOf t=n*r.length then some (List.replicate n r).flatten else none
   | none=>none
  | _=>none
theorem qzani:∀ {ks js:List Pk}{xs ys:List SV},pkVs ks xs->pkVs js ys->pkVs (ks++js) (xs++ys)
 | [],_,[],_,_,h=>h
 | [],_,_::_,_,h,_=>by simp [pkVs] at h
 | _::_,_,[],_,h,_=>by simp [pkVs] at h
 | _::_,_,_::_,_,h,h'=>by
  simp only[pkVs,List.cons_append] at h ⊢;exact⟨h.1,qzani h.2 h'⟩
theorem qzanh {k:Pk}{xs:List SV}(h:pkVs [k] xs):∃ x,xs=[x]/\pkV k x:=by
 match xs,h with
 | [],h=>simp [pkVs] at h
 | [x],h=>simp only[pkVs] at h;exact⟨x,rfl,h.1⟩
 | _::_::_,h=>simp [pkVs] at h
theorem qzaow {ρ:Nms}{x:SV}{v:Value}(h:denL ρ [x] [v]):den ρ x v:=by simp only[denL] at h;exact h.1
theorem qzafa:∀ {ks:List Pk}{xs:List SV},pkVs ks xs->xs.length=ks.length
 | [],[],_=>rfl
 | [],_::_,h=>by simp [pkVs] at h
 | _::_,[],h=>by simp [pkVs] at h
 | _::_,_::_,h=>by simp only[pkVs] at h;simp [qzafa h.2]
theorem pkV_plain {k:Pk}{x:SV}(h:pkV k x):plainV x=true:=by
 cases k with
 | b=>simp only[pkV] at h;obtain⟨v,rfl⟩:=h;rfl
 | i k=>simp only[pkV] at h;obtain⟨n,rfl,_⟩:=h;rfl
 | s=>simp only[pkV] at h;obtain⟨v,rfl,_⟩:=h;rfl
 | sl ks=>simp only[pkV] at h;obtain⟨v,rfl,_⟩:=h;rfl
theorem qzala:∀ {ks:List Pk}{xs:List SV},pkVs ks xs->plains xs=true
 | [],[],_=>rfl
 | [],_::_,h=>by simp [pkVs] at h
 | _::_,[],h=>by simp [pkVs] at h
 | k::_,x::_,h=>by
  simp only[pkVs] at h;simp only[plains,Bool.and_eq_true];exact⟨pkV_plain h.1,qzala h.2⟩
theorem qfa {xs ys:List SV}(h:plains xs=true) (h':plains ys=true):plains (xs++ys)=true:=
 qwt λx hx=>(List.mem_append.1 hx).elim (qbw h x) (qbw h' x)
theorem qzaib {ρ:Nms}:∀ {F G:List SV}{b o:Nat},denF ρ F b o->denF ρ G b (o+F.length)->denF ρ (F++G) b o
 | [],G,b,o,_,h=>by simpa using h
 | x::F,G,b,o,h,h'=>by
  simp only[denF,List.cons_append] at h ⊢;exact⟨h.1,qzaib h.2 (by rw[<-show o+(x::F).length=o+1+F.length by simp;omega];exact h')⟩
section
variable {H:Type}{enc:TypeId×Value->H}{P:Program}{w:World}{held:Bool}
def nmW (W:World):Nms:=⟨λ_=>[],λb o=>W.cell? ⟨b,o,none⟩,λb=>W.heap.size<=b⟩
theorem wf_bounds {k:IntKind}{n:Int}(h:(Lit.int k n).wf=true):lo k<=n/\n<=hi k:=by
 cases k<;>simp [Lit.wf,IntKind.min,IntKind.max,IntKind.signed,IntKind.bits] at h<;>simp only[lo,hi]<;>omega
theorem qnm {e:TypeId}:∀ {xs:List (DataW H)}{i:Nat}{d:DataW H},xs[i]?=some d->∀ n∈d.weights P e,n∈DataW.weightsAll P e xs
 | [],i,d,h,_,_=>by simp at h
 | x::xs,0,d,h,n,hn=>by
  simp only[List.getElem?_cons_zero,Option.some.injEq] at h;subst h;simp only[DataW.weightsAll,List.mem_append];exact .inl hn
 | x::xs,i+1,d,h,n,hn=>by
  simp only[List.getElem?_cons_succ] at h;simp only[DataW.weightsAll,List.mem_append];exact .inr (qnm h n hn)
theorem open_fs {f:TypeId->Option (List Pk)}{n:Nat}
  (hf:∀ t ks cs x,f t=some ks->DataW.trod enc P w 0 (λ_=>true) held n t cs=some x->(∀ n∈x.1.weights P t,n<=reachBytes)->∃ svs,pkVs ks svs/\denL (nmW w) svs cs):∀ (fs:List Field) (off:Nat) (ks:List Pk) (cs:List Value),pkFs P f fs off=some ks ->
   cs.length=off+ks.length->(∀ (i:Nat) (g:Field),fs[i]?=some g->∃ x,DataW.trod enc P w 0 (λ_=>true) held n g.type ((cs.drop g.offset).take (P.cellsOf g.type))=some x/\∀ n∈x.1.weights P g.type,n<=reachBytes) ->
   ∃ svs,pkVs ks svs/\denL (nmW w) svs (cs.drop off)
 | [],off,ks,cs,hk,hl,_=>by
  simp only[pkFs,Option.some.injEq] at hk;subst hk;refine⟨[],by simp [pkVs],?_⟩;rw[List.drop_eq_nil_of_le (by simp at hl;omega)];simp [denL]
 | g::gs,off,ks,cs,hk,hl,ht=>by
  simp only[pkFs] at hk;split at hk
  ·cases hk
  ·rename_i s hs
   split at hk
   ·rename_i hc
    split at hk
    ·rename_i r hr
     simp only[Option.some.injEq] at hk;subst hk;obtain⟨x,hx,hwx⟩:=ht 0 g rfl;rw[hc.1,hc.2] at hx;obtain⟨svs,h1,h2⟩:=hf _ _ _ _ hs hx hwx;obtain⟨svs',h3,h4⟩:=open_fs hf gs (off+s.length) r cs hr (by simp at hl;omega) λi g' hi=>ht (i+1) g' (by simpa using hi);refine⟨svs++svs',qzani h1 h3,?_⟩;have e:cs.drop off=(cs.drop off).take s.length++cs.drop (off+s.length):=by
      rw[<-List.drop_drop,List.take_append_drop]
     rw[e];exact qcy h2 h4
    ·cases hk
   ·cases hk
theorem cell_spot {a:Addr}{v:Value}(h:w.cell? a=some v):a.spot=none:=by
 unfold World.cell? at h;split at h
 ·split at h
  ·cases h
  ·rename_i hs;simpa using hs
 ·cases h
theorem add2 (b o i q:Nat):((⟨b,o,none⟩:Addr).add i).add q=⟨b,o+(i+q),none⟩:=by
 unfold Addr.add;by_cases hi:i=0<;>by_cases hq:q=0<;>simp [hi,hq,Nat.add_assoc]
theorem open_els {ks:List Pk}{b o:Nat}{m:Nat}(hel:∀ i,i<m->∃ svs,pkVs ks svs/\denF (nmW w) svs b (o+i*ks.length)):
  ∃ els:List (List SV),els.length=m/\(∀ e∈els,pkVs ks e)/\els.flatten.length=m*ks.length/\denF (nmW w) els.flatten b o/\plains els.flatten=true:=by
 induction m with
 | zero=>exact⟨[],rfl,by simp,by simp,by simp [denF],rfl⟩
 | succ m ih=>
  obtain⟨els,h1,h2,h3,h4,h5⟩:=ih λi hi=>hel i (by omega);obtain⟨svs,g1,g2⟩:=hel m (by omega);refine⟨els++[svs],by simp [h1],?_,?_,?_,?_⟩
  ·intro e he
   rcases List.mem_append.1 he with he|he
   ·exact h2 e he
   ·rw[List.mem_singleton] at he;subst he;exact g1
  ·simp only[List.flatten_append,List.flatten_cons,List.flatten_nil,List.append_nil,List.length_append]
   rw[h3,qzafa g1,Nat.add_mul,Nat.one_mul]
  ·simp only[List.flatten_append,List.flatten_cons,List.flatten_nil,List.append_nil]
   exact qzaib h4 (by rw[h3];exact g2)
  ·simp only[List.flatten_append,List.flatten_cons,List.flatten_nil,List.append_nil]
   exact qfa h5 (qzala g1)
theorem qzalb {ks:List Pk}:∀ {m:Nat}{cs:List Value},cs.length=m*ks.length->(∀ i,i<m->∃ svs,pkVs ks svs/\denL (nmW w) svs ((cs.drop (i*ks.length)).take ks.length)) ->
  ∃ svs,pkVs (List.replicate m ks).flatten svs/\denL (nmW w) svs cs
 | 0,cs,hl,_=>by
  have:cs=[]:=List.eq_nil_of_length_eq_zero (by omega)
  subst this;exact⟨[],by simp [pkVs],by simp [denL]⟩
 | m+1,cs,hl,h=>by
  obtain⟨s0,h1,h2⟩:=h 0 (by omega);rw[Nat.zero_mul,List.drop_zero] at h2;rw[Nat.add_mul,Nat.one_mul] at hl;obtain⟨svs,h3,h4⟩:=qzalb (ks:=ks) (m:=m) (cs:=cs.drop ks.length) (by rw[List.length_drop];omega) λi hi=>by
   obtain⟨s,g1,g2⟩:=h (i+1) (by omega);refine⟨s,g1,?_⟩;rw[List.drop_drop,show ks.length+i*ks.length=(i+1)*ks.length by rw[Nat.add_mul,Nat.one_mul];omega];exact g2
  refine⟨s0++svs,by rw[List.replicate_succ,List.flatten_cons];exact qzani h1 h3,?_⟩;rw[<-List.take_append_drop ks.length cs];exact qcy h2 h4
theorem qrv:∀ (d:Nat) (t:TypeId) (ks:List Pk) (n:Nat) (cs:List Value) (x:DataW H×List MemPlace),pks P d t=some ks->DataW.trod enc P w 0 (λ_=>true) held n t cs=some x->(∀ n∈x.1.weights P t,n<=reachBytes) ->
  ∃ svs,pkVs ks svs/\denL (nmW w) svs cs
 | 0,_,_,_,_,_,h,_,_=>by simp [pks] at h
 | d+1,t,ks,n,cs,x,h,ht,hwt=>by
  simp only[pks] at h;split at h
  ·rename_i hu
   obtain⟨b,rfl,_⟩:=DataW.trod_bool hu ht;simp only[Option.some.injEq] at h;subst h;exact⟨[.b b],by simp [pkVs,pkV],by simp [denL,den]⟩
  ·rename_i k hu
   obtain⟨m,rfl,_,hw⟩:=DataW.trod_int hu ht;simp only[Option.some.injEq] at h;subst h;exact⟨[.i k (.y m)],by simp only[pkVs,pkV];exact⟨⟨m,rfl,wf_bounds hw⟩,trivial⟩,by simp [denL,den,Z.v]⟩
  ·rename_i hu
   obtain⟨s,rfl,rfl,hw⟩:=DataW.trod_string hu ht;simp only[Option.some.injEq] at h;subst h;have hb:=hwt s.data.toList.length (by simp [DataW.weights]);simp only[reachBytes] at hb;exact⟨[.s s.data.toList],by simp only[pkVs,pkV];exact⟨⟨_,rfl,by unfold ilen;omega⟩,trivial⟩,by simp [denL,den]⟩
  ·rename_i e hu
   split at h
   ·rename_i r hr
    split at h
    ·rename_i hc
     simp only[Option.some.injEq] at h;subst h;have hone:∃ v,cs=[v]:=by
      rcases Deep.open_slice hu ht with ⟨hcs,_⟩|⟨a,len,cap,m,n',D,Pl,hcs,_⟩
      ·exact⟨_,hcs⟩
      ·exact⟨_,hcs⟩
     have empty:∀ a c,cs=[.slice a 0 c]->(c=0)->∃ svs,pkVs [.sl r] svs/\denL (nmW w) svs cs:=by
      intro a c e1 e2;subst e2;refine⟨[.v false (pkLen r) [] (.y 0)],?_,?_⟩
      ·simp only[pkVs,pkV];exact⟨⟨[],by simp [ilen],by simp [ilen],by simp⟩,trivial⟩
      ·rw[e1]
       simp only[denL,den,Z.v];exact⟨⟨Int.le_refl _,by rw[qzafb];exact hc.2.1,by simp,by simp [plains],.inr ⟨by simp,a,rfl⟩⟩,trivial⟩
     rcases Deep.open_slice hu ht with ⟨hcs,_⟩|⟨a,len,cap,m,n',D,Pl,hcs,_,hl,_,hm,hx,hi⟩
     ·exact empty _ _ hcs rfl
     ·simp only[if_true] at hm
      subst hm;by_cases hm0:m=0
      ·subst hm0
       have hl0:len=0:=by omega
       subst hl0;exact empty _ _ hcs rfl
      ·have hsp:a.spot=none:=by
        obtain⟨cs',hcells,htr⟩:=hi 0 (by omega);obtain⟨_,hlen,hat⟩:=World.cells?_some hcells
        have:=hat 0 (by omega)
        rw[List.getElem?_eq_getElem (by omega)] at this
        have:=cell_spot this
        simpa [Addr.add] using this
       obtain⟨ab,ao,asp⟩:=a;simp only at hsp;subst hsp;have hwe:x.1.weights P t=(len+(m-len))*P.bytesOf e::(DataW.weightsAll P e ((List.range len).map D)++DataW.weightsAll P e ((List.range (m-len)).map λj=>D (len+j))):=by
        rw[hx];simp [DataW.weights,hu]
       have hwb:=hwt _ (by rw[hwe];exact List.mem_cons_self ..);have hel:∀ i,i<m->∃ svs,pkVs r svs/\denF (nmW w) svs ab (ao+i*r.length):=by
        intro i hik;obtain⟨cs',hcells,htr⟩:=hi i hik;obtain⟨svs,h1,h2⟩:=qrv d e r n' cs' _ hr htr λn hn=>by
         refine hwt n ?_;rw[hwe];refine List.mem_cons_of_mem _ (List.mem_append.2 ?_);rcases Nat.lt_or_ge i len with h1|h1
         ·exact .inl (qnm (i:=i) (by simp [List.getElem?_range h1]) n hn)
         ·exact .inr (qnm (i:=i-len) (by simp [List.getElem?_range (show i-len<m-len by omega),show len+(i-len)=i by omega]) n hn)
        obtain⟨_,hlen,hat⟩:=World.cells?_some hcells;refine⟨svs,h1,qzaoy λq y hy=>?_⟩;obtain⟨u,hu,du⟩:=qbk q y h2 hy;have hq:=(List.getElem?_eq_some_iff.1 hy).1;rw[qzafa h1] at hq;have hcell:=hat q (by omega);rw[hu,hc.1,add2] at hcell;exact⟨u,by rw[Nat.add_assoc];exact hcell,du⟩
       obtain⟨els,g1,g2,g3,g4,g5⟩:=open_els (m:=len) λi hi=>hel i (by omega);obtain⟨svs0,k1,k2⟩:=hel 0 (by omega);have hwit:∃ o' u,(nmW w).fz ab o'=some u:=by
        have h0:0<svs0.length:=by rw[qzafa k1];exact hc.2.1
        obtain⟨u,hu,_⟩:=qse 0 _ k2 (List.getElem?_eq_getElem h0);exact⟨_,u,hu⟩
       refine⟨[.v false (pkLen r) els.flatten (.y (ilen els))],?_,?_⟩
       ·simp only[pkVs,pkV]
        refine⟨⟨els,rfl,?_,g2⟩,trivial⟩;have h1:=Nat.le_mul_of_pos_right (len+(m-len)) hc.2.2;simp only[reachBytes] at hwb;unfold ilen;omega
       ·rw[hcs]
        simp only[denL,den,Z.v,ilen,g1,Int.toNat_natCast];exact⟨⟨by omega,by rw[qzafb];exact hc.2.1,by rw[qzafb];exact g3.symm,g5,.inl ⟨ab,ao,m,rfl,hl,hwit,g4⟩⟩,trivial⟩
    ·cases h
   ·cases h
  ·rename_i fs hu
   split at h
   ·rename_i r hr
    split at h
    ·rename_i hc
     simp only[Option.some.injEq] at h;subst h;obtain⟨xs,n',_,hx,hlen,hxl,hf⟩:=DataW.trod_struct hu ht;obtain⟨svs,h1,h2⟩:=open_fs (n:=n') (λt ks cs x hk hx hwx=>qrv d t ks n' cs x hk hx hwx) fs.toList 0 r cs hr (by omega) λi g hg=>by
      have hg':fs[i]?=some g:=by simpa using hg
      have:=hf i g hg'
      have hi:i<fs.size:=(Array.getElem?_eq_some_iff.1 hg').1;have hxi:xs[i]?=some (xs[i]'(by omega)):=List.getElem?_eq_getElem (by omega);rw[hxi] at this;refine⟨_,this,λn hn=>hwt n ?_⟩;rw[hx];simp only[DataW.weights,hu];exact DataW.weights_mem_each (j:=i) (t:=g.type) (by simp [hg']) (by simp [hxi]) n hn
     exact⟨svs,h1,by simpa using h2⟩
    ·cases h
   ·cases h
  ·rename_i n0 e hu
   split at h
   ·rename_i r hr
    split at h
    ·rename_i hc
     simp only[Option.some.injEq] at h;subst h;obtain⟨xs,m,_,hx,hlen,hxl,hel⟩:=DataW.trod_array hu ht;refine qzalb (by rw[hlen,hc.2]) λi hi=>?_
     have:=hel i hi
     have hxi:xs[i]?=some (xs[i]'(by omega)):=List.getElem?_eq_getElem (by omega);rw[hxi,hc.1] at this;refine qrv d e r m _ _ hr this λn hn=>hwt n ?_;rw[hx];simp only[DataW.weights,hu];exact qnm (i:=i) (by simp [hxi]) n hn
    ·cases h
   ·cases h
  ·cases h
theorem qzv {α:Type}{ks:List Pk}{ec:α->List SV}{good:α->Prop}(hel:∀ svs,pkVs ks svs->∃ a,svs=ec a/\good a) {x:SV}(h:pkV (.sl ks) x):
  ∃ l:List α,x=.v false (pkLen ks) (l.flatMap ec) (.y (ilen l))/\ilen l<=140737488355328/\∀ a∈l,good a:=by
 simp only[pkV] at h;obtain⟨els,rfl,hb,h⟩:=h
 have:∀ els:List (List SV),(∀ e∈els,pkVs ks e)->∃ l:List α,els=l.map ec/\∀ a∈l,good a:=by
  intro els
  induction els with
  | nil=>exact λ_=>⟨[],rfl,by simp⟩
  | cons e els ih=>
   intro h;obtain⟨l,e1,h1⟩:=ih λe he=>h e (by simp [he]);obtain⟨a,e2,h2⟩:=hel e (h e (by simp));refine⟨a::l,by simp [e1,e2],λb hb=>?_⟩;rcases List.mem_cons.1 hb with rfl|hb
   ·exact h2
   ·exact h1 b hb
 obtain⟨l,rfl,hg⟩:=this els h;exact⟨l,by simp [List.flatMap,ilen],by simpa [ilen] using hb,hg⟩
end
section
variable {P:Program}
theorem Rel.start (W:World):Rel P (λb=>W.heap.size<=b) W (nmW W) [] W:=
 ⟨⟨rfl,rfl,rfl,Nat.le_refl _,λ_ _=>rfl⟩,λ_ h=>h,λ_ _=>rfl,(λ_ _ _ h=>by cases h),(λk B h=>by simp at h),(λk k' B vw vw' a a' h=>by simp at h),(λk B vw a h=>by simp at h),rfl,λ_ _ _ h=>h,(λk B vw a h=>by simp at h)⟩
theorem law_calls {g n:Nat}{rs:List RV}{ir:IR}{args:List SV}{vals:Array Value}{W:World}(hF:FnIs P g n rs ir) (hc:(S0 P).call g args [] (λx _=>Sub x .tt)) (hd:denL (nmW W) args vals.toList):
  Calls P g vals W λe W'=>e=.returned (.bool true)/\Below W.heap.size W W':=by
 have h:=hc _ W _ W vals (Rel.start W) hd;obtain⟨_,_,_,_,_,_,_,_,hg⟩:=hF;rw[hg] at h;refine Calls.mono h ?_;rintro e W' ⟨v,rfl,ρ',sv,l',hs,_,_,hR',hdv⟩
 have:=hs.of _ _ hdv
 simp only[den] at this;exact⟨by rw[this],hR'.below.os,hR'.below.tape,hR'.below.output,hR'.below.size,λk hk=>hR'.below.block k (Nat.not_le.2 hk)⟩
end
theorem qti {H:Type}{enc:TypeId×Value->H}{P:Program}(hl:laidOutB P=true) {W W':World}(hb:Below W.heap.size W W'):∀ {ts:List TypeId}{vs:List Value}{ds:List (DataW H)}{ps:List MemPlace},
  (ts.all λt=>P.readableRec t&&decide (t<P.types.size))=true->(∀ x∈ps,x.block<W.heap.size)->DataW.TrodAll enc P W 0 (λ_=>true) true ts vs ds ps ->
   DataW.TrodAll enc P W' 0 (λb=>decide (b<W.heap.size)) true ts vs ds ps
 | [],[],[],_,_,_,h=>h
 | [],[],_::_,_,_,_,h=>h.elim
 | [],_::_,_,_,_,_,h=>h.elim
 | _::_,[],_,_,_,_,h=>h.elim
 | _::_,_::_,[],_,_,_,h=>h.elim
 | t::ts,v::vs,d::ds,ps,hr,hlt,⟨p,q,h1,h2,e⟩=>by
  subst e;simp only[List.all_cons,Bool.and_eq_true,decide_eq_true_eq] at hr;exact⟨p,q,Below.trod hl hr.1.1 hr.1.2 h1 hb λx hx=>hlt x (List.mem_append.2 (.inl hx)),qti hl hb hr.2 (λx hx=>hlt x (List.mem_append.2 (.inr hx))) h2,rfl⟩
theorem post_law {H:Type}{enc:TypeId×Value->H}{P:Program}{f:Func}{s:ChangeSpec}{W W':World}{args:Array Value}{ds gs:List (DataW H)}{before:List MemPlace}{tb:TypeId}(hl:laidOutB P=true) (hW:DataW.Whole enc P f.params.toList s.vars false W args.toList ds gs before)
  (hvars:s.vars=[]) (hr:(f.params.toList.all λt=>P.readableRec t&&decide (t<P.types.size))=true) (hrt:f.resultTypes=#[tb]) (htb:P.underlying tb=some .bool)
  (hfn:s.fn H (ds++gs)={ results:=[.lit (.bool true)],args:=ds }) (hb:Below W.heap.size W W'):s.post enc P f false true false false W args (.bool true) W':=by
 have hlt:=hW.lt;have hW0:=hW;obtain⟨p,q,hA,hV,e,_,_⟩:=hW;rw[hvars] at hV;have hq:q=[]/\gs=[]:=by
  cases gs with
  | nil=>exact⟨hV,rfl⟩
  | cons _ _=>exact hV.elim
 obtain⟨rfl,rfl⟩:=hq;refine⟨ds,[],before,[],p,[],hW0,?_,?_,?_,hb.frame _,(λh=>by cases h)⟩
 ·rw[hfn,hrt]
  exact⟨[],[],⟨1,by simp [DataW.trod,htb,Value.cells]⟩,rfl,rfl⟩
 ·rw[hfn]
  exact qti hl hb hr (λx hx=>hlt x (by rw[e];exact List.mem_append.2 (.inl hx))) hA
 ·rw[hfn,hvars]
  rfl
end Cz
