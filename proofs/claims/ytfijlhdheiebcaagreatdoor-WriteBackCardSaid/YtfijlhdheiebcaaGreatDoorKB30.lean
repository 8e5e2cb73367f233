/- What the claims of this group lean on: WsP. No condition. -/
import Derived.Test.YtfijlhdheiebcaaGreatDoorKB26
set_option linter.unusedSimpArgs false
set_option linter.unusedVariables false
set_option maxRecDepth 100000
set_option maxHeartbeats 4000000
namespace Cz
open Go Go.RowKit Go.Proofs
namespace Wr
section
variable {P:Program}{S:Sy}
theorem qzawq {l:List Int}{s:Int}(hs:0<=s/\s<=7) (hl:∀ x∈l,0<=x/\x<=7) (hn:s∉l):arS .and .i64 (arS .shr .i64 (setI l) s) 1=0:=by
 have hlt:=qzq hl;have e1:arS .shr .i64 (setI l) s=Int.ofNat (setN l/2 ^ s.toNat):=by
  show (setI l).fdiv (2 ^ (min s.toNat IntKind.i64.bits))=_
  have:min s.toNat IntKind.i64.bits=s.toNat:=by show min s.toNat 64=_;omega
  rw[this];unfold setI;rw[show ((2:Int) ^ s.toNat)=Int.ofNat (2 ^ s.toNat) by simp,Int.fdiv_eq_ediv_of_nonneg _ (by simp only[Int.ofNat_eq_natCast];exact Int.natCast_nonneg _)];simp only[Int.ofNat_eq_natCast];exact (Int.natCast_ediv _ _).symm
 have e2:setN l/2 ^ s.toNat%2=0:=by
  have h1:=qzaex s.toNat l;have h2:(setN l).testBit s.toNat=false:=Bool.eq_false_iff.2 λe=>by
   obtain⟨x,hx,e1⟩:=h1.1 e
   have:=hl x hx
   exact hn (by rw[show s=x by omega];exact hx)
  rw[Nat.testBit_eq_decide_div_mod_eq] at h2
  have:=of_decide_eq_false h2
  omega
 rw[e1];have hb:setN l/2 ^ s.toNat<2 ^ 64:=Nat.lt_of_le_of_lt (Nat.div_le_self _ _) (by omega);have e0:arS .and .i64 (Int.ofNat (setN l/2 ^ s.toNat)) 1=IntKind.i64.wrap (BitVec.ofInt 64 (Int.ofNat (setN l/2 ^ s.toNat)) &&& BitVec.ofInt 64 1).toNat:=rfl;rw[e0,BitVec.toNat_and,qcc hb]
 have:(BitVec.ofInt 64 1).toNat=1:=by decide
 rw[this,Nat.and_one_is_mod,e2];decide
theorem ar_one {s:Int}(hs:0<=s/\s<=7):arS .shl .i64 1 s=2 ^ s.toNat:=by
 have h3:2 ^ s.toNat<2 ^ 8:=Nat.pow_lt_pow_right (by omega) (by omega);have e0:arS .shl .i64 1 s=IntKind.i64.wrap (1*2 ^ (min s.toNat 64)):=rfl;rw[e0,Nat.min_eq_left (by omega),Int.one_mul];have e1:((2:Int) ^ s.toNat)=((2 ^ s.toNat:Nat):Int):=by simp
 rw[e1];have h5:(0:Int)<=((2 ^ s.toNat:Nat):Int):=Int.natCast_nonneg _;have h6:((2 ^ s.toNat:Nat):Int)<256:=by exact_mod_cast h3
 exact qgy (Int.le_trans (by decide) h5) (Int.le_trans (Int.le_of_lt h6) (by decide))
theorem ar_or {l:List Int}{s:Int}(hs:0<=s/\s<=7) (hl:∀ x∈l,0<=x/\x<=7):arS .or .i64 (setI l) (arS .shl .i64 1 s)=setI (s::l):=by
 have hlt:=qzq hl;have h3:2 ^ s.toNat<2 ^ 8:=Nat.pow_lt_pow_right (by omega) (by omega);rw[ar_one hs];have e2:(2:Int) ^ s.toNat=Int.ofNat (2 ^ s.toNat):=by simp
 have e0:arS .or .i64 (setI l) (2 ^ s.toNat)=IntKind.i64.wrap (BitVec.ofInt 64 (setI l) ||| BitVec.ofInt 64 (2 ^ s.toNat)).toNat:=rfl;rw[e0,e2,show setI l=Int.ofNat (setN l) from rfl,BitVec.toNat_or,qcc (by omega),qcc (by omega)];have h4:setN l ||| 2 ^ s.toNat<2 ^ 8:=Nat.or_lt_two_pow (n:=8) hlt h3;exact qgy (by simp only[lo];omega) (by simp only[hi];omega)
end
section
variable {S:Sy}{l:List Blk}{K:SV->List Blk->Prop}
theorem tabR_t (hS:S0 Tryz.prog=S) {mx:Int}{tr:List Tb.Fd}{F:List SV}{n:Int}(hF:Tb.cellsF tr=F) (hn:n=ilen tr) (ht:Tb.rightL mx tr=true) (h:Tb.fullL tr<=100000000) (hK:K .tt l):S.call 142 [.ag [.i .i64 (.y mx),.v false 2 F (.y n)]] l K:=
 Tb.right_l hS (t:=true) (.v rfl hF hn) ht h hK
end
section
variable {os:List Ot}{tr:List Tb.Fd}{zs:List Int}{ss:List St}{Fo:List SV}{no tm:Int}{Fr:List SV}{nr:Int}{Fz:List SV}{nz se re ow:Int}{Fs:List SV}{ns w:Int}{H:Nat->Int}{sh:Bool}
theorem last_f (hn:LnN os tr zs ss Fo no Fr nr Fz nz Fs ns) (h1:no<=if sh=true then 129 else 128) (h2:Tb.rightL tm tr=true) (h3:zsB zs=true) (h4:wB se=true) (h5:0<=re/\re<=2147483647) (h6:0<=ow/\ow<=2147483647):
  (S0 Tryz.prog).call 79 [.ag (lnK Fo no tm Fr nr Fz nz se re ow Fs ns w H sh)] [] (λx _=>Sub x .tt):=by
 have o0:0<=no:=by rw[hn.on];exact qaj _
 have z0:0<=nz:=by rw[hn.zn];exact qaj _
 obtain⟨z1,z2⟩:=qzatn h3;rw[<-hn.zn] at z1;have hrf:=hn.rf;have hab:∃ a b:Int,nz=2->zs[(0:Int).toNat]?=some a/\zs[(1:Int).toNat]?=some b/\a<b:=by
  by_cases e:nz=2
  ·have hz:=hn.zn
   match zs,hz,h3 with
   | [a,b],_,h3=>
    unfold zsB at h3;rw[Bool.and_eq_true] at h3;exact⟨a,b,λ_=>⟨rfl,rfl,of_decide_eq_true h3.2⟩⟩
   | [],hz,_=>exact absurd (hz.symm.trans e) (by decide)
   | [_],hz,_=>exact absurd (hz.symm.trans e) (show ¬ ((1:Int)=2) by decide)
   | _::_::_::r,hz,_=>rw[e] at hz;exact absurd hz (by unfold ilen;simp only[List.length_cons];omega)
  ·exact⟨0,0,λh=>absurd h e⟩
 obtain⟨a,b,hab⟩:=hab;unfold lnK;cases sh with
 | true=>
  rw[if_pos rfl] at h1;generalize hS:S0 Tryz.prog=S;refine qaa hS I.qhe ?_;cbv
  repeat' (first|(refine s_ck hS ?_;try cbv)|(refine qac hS ?_ ?_<;>intro h<;>(try cbv)<;>try exact s_ab h)|(refine qag hS rfl I.qeo (by decide +kernel) ?_;cbv)|(refine tabR_t hS hn.r hn.rn h2 (by omega) ?_;cbv)|(refine qal hS (enc:=i1) (l:=zs) hn.z (hab (by omega)).1 (λ_=>rfl) (by decide) (by omega) rfl ?_;cbv)|(refine qal hS (enc:=i1) (l:=zs) hn.z (hab (by omega)).2.1 (λ_=>rfl) (by decide) (by omega) rfl ?_;cbv)|fail)
  all_goals first
   | (exfalso;have:=(hab (by omega)).2.2;omega)
   | skip
  all_goals
   refine qad hS 1 I.qij (λx:Int=>0<=x/\x<=nz) (λx=>[(47,.i .i64 (.y x))]) (λ_=>[]) (λx=>(nz-x).toNat) 0 rfl ⟨⟨Int.le_refl _,z0⟩,rfl,?_,?_,by cbv⟩ ?_
   ·cbv;exact s_qA
   ·cbv;exact s_qA
   intro x hx;cbv;obtain⟨g0,g1⟩:=hx;refine s_br hS ?_ ?_<;>intro h'<;>cbv<;>simp only[<-hS,Int.ofNat_eq_natCast,cq,Bool.not_eq_true',Bool.not_eq_false',decide_eq_true_eq,decide_eq_false_iff_not,beq_iff_eq,beq_eq_false_iff_ne,ne_eq] at h'
   ·obtain⟨z,hz⟩:=qbi (l:=zs) (i:=x) (by have:=hn.zn;omega) g0
    have hzb:=z2 z (List.mem_of_getElem? hz)
    repeat' (first|(refine s_ck hS ?_;try cbv)|(refine qac hS ?_ ?_<;>intro h<;>(try cbv)<;>try exact s_ab h)|(refine s_ad hS ?_;intro _ _;try cbv)|(refine qal hS (enc:=i1) (l:=zs) hn.z hz (λ_=>rfl) g0 (by omega) rfl ?_;cbv)|(refine qaa hS I.qby ?_;cbv)|fail)
    rename_i r e;exact⟨r,by omega,⟨by omega,by omega⟩,rfl,by cbv;exact s_qA,by cbv;exact s_qA,by cbv⟩
   ·repeat' (first|(refine qac hS ?_ ?_<;>intro h<;>(try cbv)<;>try exact s_ab h)|(refine qzaqc hS h4 ?_;cbv)|(refine qaa hS I.qby ?_;cbv)|fail)
    all_goals first
     | (refine qbt ?_;subst hS;simp only[cr];exact decide_eq_true (by omega))
     | exact s_qA
 | false=>
  rw[if_neg (by decide)] at h1;generalize hS:S0 Tryz.prog=S;refine qaa hS I.qhe ?_;cbv
  repeat' (first|(refine s_ck hS ?_;try cbv)|(refine qac hS ?_ ?_<;>intro h<;>(try cbv)<;>try exact s_ab h)|(refine qag hS rfl I.qeo (by decide +kernel) ?_;cbv)|(refine tabR_t hS hn.r hn.rn h2 (by omega) ?_;cbv)|(refine qal hS (enc:=i1) (l:=zs) hn.z (hab (by omega)).1 (λ_=>rfl) (by decide) (by omega) rfl ?_;cbv)|(refine qal hS (enc:=i1) (l:=zs) hn.z (hab (by omega)).2.1 (λ_=>rfl) (by decide) (by omega) rfl ?_;cbv)|fail)
  all_goals first
   | (exfalso;have:=(hab (by omega)).2.2;omega)
   | skip
  all_goals
   refine qad hS 1 I.qij (λx:Int=>0<=x/\x<=nz) (λx=>[(47,.i .i64 (.y x))]) (λ_=>[]) (λx=>(nz-x).toNat) 0 rfl ⟨⟨Int.le_refl _,z0⟩,rfl,?_,?_,by cbv⟩ ?_
   ·cbv;exact s_qA
   ·cbv;exact s_qA
   intro x hx;cbv;obtain⟨g0,g1⟩:=hx;refine s_br hS ?_ ?_<;>intro h'<;>cbv<;>simp only[<-hS,Int.ofNat_eq_natCast,cq,Bool.not_eq_true',Bool.not_eq_false',decide_eq_true_eq,decide_eq_false_iff_not,beq_iff_eq,beq_eq_false_iff_ne,ne_eq] at h'
   ·obtain⟨z,hz⟩:=qbi (l:=zs) (i:=x) (by have:=hn.zn;omega) g0
    have hzb:=z2 z (List.mem_of_getElem? hz)
    repeat' (first|(refine s_ck hS ?_;try cbv)|(refine qac hS ?_ ?_<;>intro h<;>(try cbv)<;>try exact s_ab h)|(refine s_ad hS ?_;intro _ _;try cbv)|(refine qal hS (enc:=i1) (l:=zs) hn.z hz (λ_=>rfl) g0 (by omega) rfl ?_;cbv)|(refine qaa hS I.qby ?_;cbv)|fail)
    rename_i r e;exact⟨r,by omega,⟨by omega,by omega⟩,rfl,by cbv;exact s_qA,by cbv;exact s_qA,by cbv⟩
   ·repeat' (first|(refine qac hS ?_ ?_<;>intro h<;>(try cbv)<;>try exact s_ab h)|(refine qzaqc hS h4 ?_;cbv)|(refine qaa hS I.qby ?_;cbv)|fail)
    all_goals first
     | (refine qbt ?_;subst hS;simp only[cr];exact decide_eq_true (by omega))
     | exact s_qA
end
end Wr
end Cz
