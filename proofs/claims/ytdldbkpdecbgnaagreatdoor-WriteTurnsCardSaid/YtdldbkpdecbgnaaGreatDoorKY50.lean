/- What the claims of this group lean on: WhC WhD. No condition. -/
import Derived.Test.YtdldbkpdecbgnaaGreatDoorKY45
import Derived.Test.YtdldbkpdecbgnaaGreatDoorKY49
set_option linter.unusedSimpArgs false
set_option linter.unusedVariables false
set_option maxRecDepth 100000
set_option maxHeartbeats 4000000
namespace Cz
open Go Go.RowKit Go.Proofs
namespace Wr
open Fa Wg
theorem ot_in {o:Ot}(h:OtIn o) (hl:longB o=false):OtOk o:=by
 obtain⟨a,b,c,d⟩:=long_no hl;have e:=qzaro d;exact⟨h.k,h.st,h.sz,h.co,h.da,by omega,h.ps,by omega,by omega,by omega⟩
theorem in_n {os:List Ot}{tm:Int}{tr:List Tb.Fd}{zs:List Int}{se re ow:Int}{ss:List St}{w:Int}{H:Nat->Int}(h:LnIn os tm tr zs se re ow ss w H) (hg:grB os tr zs ss=false):
  LnN os tr zs ss (cellsO os) (ilen os) (Tb.cellsF tr) (ilen tr) (zs.flatMap i1) (ilen zs) (cellsS ss) (ilen ss):=by
 unfold grB at hg;simp only[Bool.or_eq_false_iff,decide_eq_false_iff_not] at hg;obtain⟨⟨⟨⟨g1,g2⟩,g3⟩,g4⟩,g5⟩:=hg;rw[List.any_eq_false] at g3 g4;refine⟨rfl,rfl,by omega,λo ho=>ot_in (h.os o ho) (by simpa using g3 o ho),rfl,rfl,by omega,by omega,rfl,rfl,by omega,rfl,rfl,by omega,λs hs=>?_⟩
 have:=g4 s hs
 simp only[decide_eq_true_eq] at this;have hs':=h.ss s hs;exact⟨hs'.id,hs'.st,hs'.se,hs'.re,hs'.ow,hs'.o,by omega,hs'.ur,hs'.sl⟩
section
variable {Fo:List SV}{no tm:Int}{Fr:List SV}{nr:Int}{Fz:List SV}{nz se re ow:Int}{Fs:List SV}{ns w:Int}{H:Nat->Int}{sh:Bool}{cut steps:Int}
theorem dgreat_t {os:List Ot}{tr:List Tb.Fd}{zs:List Int}{ss:List St}{t:Bool}{sv:SV}(a1:cellsO os=Fo) (a2:no=ilen os) (a3:Tb.cellsF tr=Fr) (a4:nr=ilen tr) (a5:nz=ilen zs) (a6:cellsS ss=Fs) (a7:ns=ilen ss) (b1:Tb.shortL tr) (b2:ilen tr<=140737488355328) (ht:grB os tr zs ss=t) (hs:Sub (.b t) sv) (hsv:refsB (λ_=>false) sv=true) (bl:List Blk) (K:SV->List Blk->Prop) (h:K sv bl):
  (S0 Tryz.prog).call 5 [.ag (lnK Fo no tm Fr nr Fz nz se re ow Fs ns w H sh)] bl K:=
 qai (qae (dgreat_f a1 a2 a3 a4 a5 a6 a7 b1 b2 ht) λx _ hx=>⟨_,hx.trans hs,.rfl⟩) rfl hsv h
theorem dright_t {os:List Ot}{tr:List Tb.Fd}{zs:List Int}{ss:List St}{t:Bool}{sv:SV}(hn:LnN os tr zs ss Fo no Fr nr Fz nz Fs ns) (hw0:0<=w) (hw1:w<18446744073709551616) (ht:t=true↔∃ L,w=wdI L/\GdL ⟨os,tm,tr,zs,se,re,ow,ss,L,H,sh⟩) (hs:Sub (.b t) sv) (hsv:refsB (λ_=>false) sv=true) (bl:List Blk) (K:SV->List Blk->Prop) (h:K sv bl):
  (S0 Tryz.prog).call 6 [.ag (lnK Fo no tm Fr nr Fz nz se re ow Fs ns w H sh)] bl K:=
 qai (qae (dRight_f hn hw0 hw1 (λo ho=>dwp_of (hn.oo o ho)) ht) λx _ hx=>⟨_,hx.trans hs,.rfl⟩) rfl hsv h
theorem share_eq {X:Ln}:shrL X.ss X.se X.ss.length=shareS X:=by unfold shrL shareS;rw[List.take_length]
theorem turns_j {os:List Ot}{tr:List Tb.Fd}{zs:List Int}{ss:List St}(hwk:∀ (bl:List Blk) (K:SV->List Blk->Prop),K .tt bl->(S0 Tryz.prog).call 7 [] bl K)
  (h:LnIn os tm tr zs se re ow ss w H) (hc:Big cut):
  (S0 Tryz.prog).call 3 [.ag (lnK (cellsO os) (ilen os) tm (Tb.cellsF tr) (ilen tr) (zs.flatMap i1) (ilen zs) se re ow (cellsS ss) (ilen ss) w H sh),.i .i64 (.y cut),.i .i64 (.y steps)] [] (λx _=>Sub x .tt):=by
 have hw0:=h.w.1;have hw1:w<18446744073709551616:=by have:=h.w.2;omega
 cases hgr:grB os tr zs ss with
 | true=>exact turns_a hwk (dgreat_t rfl rfl rfl rfl rfl rfl rfl h.tr h.tn hgr (qbt rfl) rfl)
 | false=>
  have hn:=in_n h hgr;have hG:=λbl K k=>dgreat_t (Fz:=zs.flatMap i1) (tm:=tm) (se:=se) (re:=re) (ow:=ow) (w:=w) (H:=H) (sh:=sh) rfl rfl rfl rfl rfl rfl rfl h.tr h.tn hgr (qkt rfl) rfl bl K k;by_cases hL:∃ L,w=wdI L/\GdL ⟨os,tm,tr,zs,se,re,ow,ss,L,H,sh⟩
  ·have hR:=λbl K k=>dright_t (t:=true) hn hw0 hw1 ⟨λ_=>hL,λ_=>rfl⟩ (qbt rfl) rfl bl K k
   by_cases hbad:sh=true∨(0<ilen os∨cut<1∨steps<0∨40<steps)
   ·exact turns_c hwk hG hR hbad
   ·obtain⟨L,hwL,hgd⟩:=hL
    have hsh:sh=false:=by cases sh with
     | true=>exact absurd (.inl rfl) hbad
     | false=>rfl
    have hb2:¬(0<ilen os∨cut<1∨steps<0∨40<steps):=λe=>hbad (.inr e);have hno:ilen os=0:=by have:=qaj os;omega
    have hos:os=[]:=by
     cases os with
     | nil=>rfl
     | cons a l=>unfold ilen at hno;rw[List.length_cons] at hno;omega
    subst hsh hos;obtain⟨u,hu⟩:∃ u,shareS (⟨[],tm,tr,zs,se,re,ow,ss,L,H,false⟩:Ln)≠[]->TI ((shareS (⟨[],tm,tr,zs,se,re,ow,ss,L,H,false⟩:Ln)).map key) u ⟨[],tm,tr,zs,se,re,ow,ss,L,H,false⟩ (List.replicate (shareS (⟨[],tm,tr,zs,se,re,ow,ss,L,H,false⟩:Ln)).length 0) 0:=by
     by_cases hne:shareS (⟨[],tm,tr,zs,se,re,ow,ss,L,H,false⟩:Ln)=[]
     ·exact⟨0,λe=>absurd hne e⟩
     ·obtain⟨u,hu⟩:=ti_init hgd rfl rfl hne
      exact⟨u,λ_=>hu⟩
    have heq:=share_eq (X:=⟨[],tm,tr,zs,se,re,ow,ss,L,H,false⟩);dsimp only at heq;obtain⟨t,ht⟩:∃ b,((shrL ss se ss.length).all λs=>s.ic)=b:=⟨_,rfl⟩;have hS:=qzaqw (Fo:=cellsO []) (no:=ilen ([]:List Ot)) (tm:=tm) (Fr:=Tb.cellsF tr) (nr:=ilen tr) (Fz:=zs.flatMap i1) (nz:=ilen zs) (se:=se) (re:=re) (ow:=ow) (w:=w) (H:=H) (sh:=false) hgd.ss rfl rfl rfl rfl ht;have hlen:ilen (shrL ss se ss.length)<=8:=by
     have h1:=hgd.ss.len;have h2:(shareS (⟨[],tm,tr,zs,se,re,ow,ss,L,H,false⟩:Ln)).length<=ss.length:=List.length_filter_le _ _;dsimp only at h1;rw[heq];unfold ilen at *;omega
    refine turns_d (KS:=(shareS (⟨[],tm,tr,zs,se,re,ow,ss,L,H,false⟩:Ln)).map key) (u:=u) (t:=t) hwk hG hn hwL hgd (λhne=>?_) hR hS ?_ ?_ hlen (λe k hk=>?_) (by omega) hc (by omega)
    ·have:=hu (λe=>hne (by rw[e];rfl))
     rw[List.length_map];exact this
    ·rw[heq,List.map_map];rfl
    ·rw[heq];unfold ilen;rw[List.length_map]
    ·rw[heq] at ht
     rw[e,List.all_eq_true] at ht;obtain⟨s,hs,rfl⟩:=List.mem_map.1 hk;exact ht s hs
  ·have hR:=λbl K k=>dright_t (t:=false) hn hw0 hw1 ⟨λe=>(by cases e),λe=>absurd e hL⟩ (qkt rfl) rfl bl K k
   exact turns_b hwk hG hR
end
end Wr
end Cz
namespace Cz
open Go Go.RowKit Go.Proofs
namespace Wr
theorem wakes_u (bl:List Blk) (K:SV->List Blk->Prop) (h:K .tt bl):(S0 Tryz.prog).call 7 [] bl K:=qai wakes_t rfl rfl h
theorem turns_f {os:List Ot}{tm:Int}{tr:List Tb.Fd}{zs:List Int}{se re ow:Int}{ss:List St}{w:Int}{H:Nat->Int}{sh:Bool}{cut steps:Int}(h:LnIn os tm tr zs se re ow ss w H) (hc:Big cut):
  (S0 Tryz.prog).call 3 [.ag (lnK (cellsO os) (ilen os) tm (Tb.cellsF tr) (ilen tr) (zs.flatMap i1) (ilen zs) se re ow (cellsS ss) (ilen ss) w H sh),.i .i64 (.y cut),.i .i64 (.y steps)] [] (λx _=>Sub x .tt):=turns_j wakes_u h hc
end Wr
end Cz
