/- What the claims of this group lean on: WrA Wr1 WrB Wr2 WrC. No condition. -/
import Derived.Test.YtfijlhdheiebcaaGreatDoorKB5
import Derived.Test.YtfijlhdheiebcaaGreatDoorKB6
import Derived.Test.YtfijlhdheiebcaaGreatDoorKB7
import Derived.Test.YtfijlhdheiebcaaGreatDoorKB8
import Derived.Test.YtfijlhdheiebcaaGreatDoorKB9
import Derived.Test.YtfijlhdheiebcaaGreatDoorKB10
import Derived.Test.YtfijlhdheiebcaaGreatDoorKB13
set_option linter.unusedSimpArgs false
set_option linter.unusedVariables false
set_option maxRecDepth 100000
set_option maxHeartbeats 4000000
namespace Cz
open Go Go.RowKit Go.Proofs
namespace Wr
def plc (w k:Int):Int:=w/2 ^ (7*k).toNat%128
theorem plc_bd (w k:Int):0<=plc w k/\plc w k<128:=by unfold plc;omega
def setN:List Int->Nat
 | []=>0
 | s::l=>setN l ||| 2 ^ s.toNat
def setI (l:List Int):Int:=Int.ofNat (setN l)
theorem qzaex (j:Nat):∀ (l:List Int),(setN l).testBit j=true↔∃ s∈l,s.toNat=j
 | []=>by simp [setN]
 | s::l=>by
  simp only[setN,Nat.testBit_or,Bool.or_eq_true,qzaex j l,List.mem_cons,Nat.testBit_two_pow,decide_eq_true_eq];constructor
  ·rintro (⟨x,h1,h2⟩|h)
   ·exact⟨x,.inr h1,h2⟩
   ·exact⟨s,.inl rfl,h⟩
  ·rintro ⟨x,rfl|h1,h2⟩
   ·exact .inr h2
   ·exact .inl ⟨x,h1,h2⟩
theorem qzq:∀ {l:List Int},(∀ x∈l,0<=x/\x<=7)->setN l<256
 | [],_=>by simp [setN]
 | s::l,h=>by
  have h1:=qzq (l:=l) λx hx=>h x (by simp [hx]);have h2:=h s (by simp);have h3:2 ^ s.toNat<2 ^ 8:=Nat.pow_lt_pow_right (by omega) (by omega);exact Nat.or_lt_two_pow (n:=8) h1 h3
section
variable {P:Program}{S:Sy}
theorem qcc {w n:Nat}(h:n<2 ^ w):(BitVec.ofInt w (Int.ofNat n)).toNat=n:=by
 rw[qgr]
 have:(Int.ofNat n%(2:Int) ^ w)=Int.ofNat n:=Int.emod_eq_of_lt (by simp) (by simp only[Int.ofNat_eq_natCast];exact_mod_cast h)
 rw[this];simp
theorem qro {n:Nat}(h:n<2 ^ 64):IntKind.u64.wrap (n:Int)=n:=qgy (by simp [lo]) (by simp only[hi];omega)
theorem s_setand (hS:S0 P=S) {v b s:Int}{l:List Int}{K:Int->Prop}(hv:v=setI l) (hb:b=2 ^ s.toNat) (hs:0<=s/\s<=7) (hl:∀ x∈l,0<=x/\x<=7) (h1:∀ r,r=0->s∉l->K r) (h2:∀ r,r≠0->s∈l->K r):S.ar .and .u64 v b K:=by
 have hlt:=qzq hl;have h3:2 ^ s.toNat<2 ^ 8:=Nat.pow_lt_pow_right (by omega) (by omega);have e:arS .and .u64 v b=((setN l &&& 2 ^ s.toNat:Nat):Int):=by
  have e1:v=Int.ofNat (setN l):=hv;have e2:b=Int.ofNat (2 ^ s.toNat):=by rw[hb];simp
  have e0:arS .and .u64 v b=IntKind.u64.wrap (BitVec.ofInt 64 v &&& BitVec.ofInt 64 b).toNat:=rfl;rw[e0,e1,e2,BitVec.toNat_and,qcc (by omega),qcc (by omega)];exact qro (Nat.lt_of_le_of_lt Nat.and_le_left (by omega))
 have hmem:s∈l↔(setN l).testBit s.toNat=true:=by
  rw[qzaex];constructor
  ·exact λh=>⟨s,h,rfl⟩
  ·rintro ⟨x,hx,e⟩
   have:=hl x hx
   have:x=s:=by omega
   rwa[this] at hx
 have hz:(setN l &&& 2 ^ s.toNat)=0↔(setN l).testBit s.toNat=false:=by
  constructor
  ·intro e
   have h5:(setN l &&& 2 ^ s.toNat).testBit s.toNat=false:=by rw[e];simp
   rw[Nat.testBit_and,Nat.testBit_two_pow_self,Bool.and_true] at h5;exact h5
  ·intro hf
   apply Nat.eq_of_testBit_eq;intro j;rw[Nat.testBit_and,Nat.zero_testBit];by_cases e:s.toNat=j
   ·subst e;rw[hf];rfl
   ·rw[Nat.testBit_two_pow_of_ne e,Bool.and_false]
 refine qcg hS _ e ?_;by_cases hm:s∈l
 ·refine h2 _ (λe=>?_) hm
  have:=hz.1 (by exact_mod_cast e)
  rw[hmem.1 hm] at this;cases this
 ·refine h1 _ ?_ hm
  have:(setN l).testBit s.toNat=false:=by
   cases hb:(setN l).testBit s.toNat with
   | true=>exact absurd (hmem.2 hb) hm
   | false=>rfl
  exact_mod_cast hz.2 this
theorem s_setor (hS:S0 P=S) {v b s:Int}{l:List Int}{K:Int->Prop}(hv:v=setI l) (hb:b=2 ^ s.toNat) (hs:0<=s/\s<=7) (hl:∀ x∈l,0<=x/\x<=7) (h:∀ r,r=setI (s::l)->K r):S.ar .or .u64 v b K:=by
 have hlt:=qzq hl;have h3:2 ^ s.toNat<2 ^ 8:=Nat.pow_lt_pow_right (by omega) (by omega);refine qcg hS (setI (s::l)) ?_ (h _ rfl);have e1:v=Int.ofNat (setN l):=hv;have e2:b=Int.ofNat (2 ^ s.toNat):=by rw[hb];simp
 have e0:arS .or .u64 v b=IntKind.u64.wrap (BitVec.ofInt 64 v ||| BitVec.ofInt 64 b).toNat:=rfl;rw[e0,e1,e2,BitVec.toNat_or,qcc (by omega),qcc (by omega)];exact qro (Nat.lt_trans (Nat.or_lt_two_pow (n:=8) hlt h3) (by decide))
theorem s_one (hS:S0 P=S) {s:Int}{K:Int->Prop}(hs:0<=s/\s<=7) (h:∀ r,r=2 ^ s.toNat->K r):S.ar .shl .u64 1 s K:=by
 have h3:2 ^ s.toNat<2 ^ 8:=Nat.pow_lt_pow_right (by omega) (by omega);refine qcg hS (2 ^ s.toNat) ?_ (h _ rfl);have e0:arS .shl .u64 1 s=IntKind.u64.wrap (1*2 ^ (min s.toNat 64)):=rfl;rw[e0,Nat.min_eq_left (by omega),Int.one_mul]
 have:((2:Int) ^ s.toNat)=((2 ^ s.toNat:Nat):Int):=by simp
 rw[this];exact qro (by omega)
theorem s_low60 (hS:S0 P=S) {w:Int}{K:Int->Prop}(h0:0<=w) (h1:w<18446744073709551616) (h:∀ r,r=w%1152921504606846976->K r):S.ar .andn .u64 w 17293822569102704640 K:=by
 refine qcg hS _ ?_ (h _ rfl);obtain⟨n,rfl⟩:∃ n:Nat,w=n:=⟨w.toNat,by omega⟩;have hn:n<2 ^ 64:=by omega
 have e0:arS .andn .u64 (n:Int) 17293822569102704640=IntKind.u64.wrap (BitVec.ofInt 64 n &&& ~~~ BitVec.ofInt 64 17293822569102704640).toNat:=rfl;have e1 : ~~~ BitVec.ofInt 64 17293822569102704640=BitVec.ofNat 64 (2 ^ 60-1):=by decide
 have e2:(BitVec.ofInt 64 (n:Int)).toNat=n:=qcc hn;rw[e0,e1,BitVec.toNat_and,e2,BitVec.toNat_ofNat,Nat.mod_eq_of_lt (by decide),Nat.and_two_pow_sub_one_eq_mod];rw[qro (Nat.lt_trans (Nat.mod_lt _ (by decide)) (by decide))];omega
theorem s_and64 (hS:S0 P=S) {p:Int}{K:Int->Prop}(h0:0<=p) (h1:p<128) (k1:∀ r,r=0->p<64->K r) (k2:∀ r,r=64->64<=p->K r):S.ar .and .u64 p 64 K:=by
 obtain⟨n,rfl⟩:∃ n:Nat,p=n:=⟨p.toNat,by omega⟩;have hn:n<128:=by omega
 have e0:arS .and .u64 (n:Int) 64=IntKind.u64.wrap (BitVec.ofInt 64 n &&& BitVec.ofInt 64 64).toNat:=rfl;have e2:(BitVec.ofInt 64 (n:Int)).toNat=n:=qcc (Nat.lt_trans hn (by decide));have e3:(BitVec.ofInt 64 64).toNat=64:=by decide
 have e4:n &&& 64=if n<64 then 0 else 64:=by
  have:∀ m,m<128->m &&& 64=if m<64 then 0 else 64:=by decide
  exact this n hn
 refine qcg hS (if n<64 then 0 else 64) ?_ ?_
 ·rw[e0,BitVec.toNat_and,e2,e3,e4]
  split<;>rfl
 ·split
  ·exact k1 _ rfl (by omega)
  ·exact k2 _ rfl (by omega)
end
def wgo (w:Int):Nat->Int->List Int->Int->Bool
 | 0,_,_,_=>true
 | f+1,k,seen,last=>if plc w k<64∨plc w k%8∈seen∨plc w k/8%8<last then false else wgo w f (k+1) (plc w k%8::seen) (plc w k/8%8)
def wordB (w:Int):Bool:=
 if 8<w/1152921504606846976∨w%1152921504606846976/2 ^ (7*(w/1152921504606846976)).toNat≠0 then false
 else wgo w (w/1152921504606846976).toNat 0 [] 0
end Wr
end Cz
namespace Cz
open Go Go.RowKit Go.Proofs
namespace Wr
theorem wright_f {w:Int}{t:Bool}(h0:0<=w) (h1:w<18446744073709551616) (ht:wordB w=t):(S0 Tryz.prog).call 143 [.i .u64 (.y w)] [] (λx _=>Sub x (.b t)):=by
 obtain⟨n,hn⟩:∃ n,n=w/1152921504606846976:=⟨_,rfl⟩;unfold wordB at ht;rw[<-hn] at ht;generalize hS:S0 Tryz.prog=S;refine qaa hS I.qyh ?_;cbv
 repeat' (first|(refine s_ck hS ?_;try cbv)|(refine qac hS ?_ ?_<;>intro h<;>(try cbv)<;>try exact s_ab h)|(refine qdd hS ?_;try cbv)|(refine qbd hS (c:=1152921504606846976) rfl ?_;intro _ _;cbv)|(refine s_low60 hS h0 h1 ?_;intro _ _;cbv)|(refine qzr hS ?_ (by simp only[lo];omega) (by simp only[hi];omega);intro _ _;cbv)|(refine s_shr hS (by simp only[IntKind.bits];omega) ?_;intro _ _;cbv)|(refine qaa hS I.qec ?_;cbv)|(refine qbq hS I.qda ?_;cbv)|(refine qtk hS rfl ?_;cbv)|fail)
 ·have e:t=false:=by rw[<-ht,if_pos (.inl (by omega))]
  exact qao e
 ·rename_i r1 e1 h2 r2 e2 r3 e3 r4 e4
  have hr:r1=n:=by omega
  have e:t=false:=by
   rw[<-ht,if_pos (.inr (by rw[e4,e2,e3,hr] at h;exact h))]
  exact qao e
 ·rename_i r1 e1 h2 r2 e2 r3 e3 r4 e4 r5 e5
  have hr:r1=n:=by omega
  have hw:wgo w n.toNat 0 [] 0=t:=by
   rw[<-ht,if_neg];rintro (h6|h6)
   ·omega
   ·apply h6;rw[e4,e2,e3,hr] at h;exact h
  have hr5:r5=n:=by omega
  have hn0:0<=n/\n<=8:=by omega
  clear e1 h2 e2 e3 e4 h e5 ht hr hn;refine qad hS 5 I.qck (λx:Int×Int×Int×List Int=>0<=x.1/\x.1<=n/\x.2.1=setI x.2.2.2/\(∀ y∈x.2.2.2,0<=y/\y<=7)/\(0<=x.2.2.1/\x.2.2.1<=7)/\wgo w (n-x.1).toNat x.1 x.2.2.2 x.2.2.1=t)
   (λx=>[(7,.i .i64 (.y x.1))]) (λx=>[(0,.c [.i .u64 (.y x.2.1)]),(1,.c [.i .u64 (.y x.2.2.1)])]) (λx=>(n-x.1).toNat) (0,0,0,[]) rfl
   ⟨⟨Int.le_refl _,hn0.1,rfl,(λ_ h=>nomatch h),⟨Int.le_refl _,by decide⟩,by simpa using hw⟩,rfl,?_,?_,by cbv⟩ ?_
  ·cbv;all_goals exact s_sA
  ·cbv;all_goals exact s_bA
  intro x;obtain⟨k,seen,last,l⟩:=x;intro hx;dsimp only at hx;cbv;obtain⟨g0,g1,g2,g3,g4,g5⟩:=hx
  repeat' (first|(refine s_ck hS ?_;try cbv)|(refine qac hS ?_ ?_<;>intro h<;>(try cbv)<;>try exact s_ab h)|(refine qzr hS ?_ (by simp only[lo];omega) (by simp only[hi];omega);intro _ _;cbv)|(refine s_shr hS (by simp only[IntKind.bits];omega) ?_;intro _ _;cbv)|(refine qku hS (c:=128) (m:=7) (by decide) ?_;intro _ _;cbv)|(refine qfw hS rfl rfl ?_;cbv)|fail)
  ·rename_i r6 e6 r7 e7 r8 e8
   have hp:r8=plc w k:=by unfold plc;rw[e8,e7,e6]
   have hb:=plc_bd w k;rw[<-hp] at hb;have hg:wgo w (n-k).toNat k l last=if r8<64∨r8%8∈l∨r8/8%8<last then false else wgo w (n-(k+1)).toNat (k+1) (r8%8::l) (r8/8%8):=by
    rw[show (n-k).toNat=(n-(k+1)).toNat+1 by omega,wgo,<-hp]
   rw[hg] at g5;clear e6 e7 e8 hp hg
   repeat' (first|(refine s_ck hS ?_;try cbv)|(refine qac hS ?_ ?_<;>intro h<;>(try cbv)<;>try exact s_ab h)|(refine s_ad hS ?_;intro _ _;try cbv)|(refine qdd hS ?_;try cbv)|(refine qaa hS I.qqv ?_;cbv)|(refine qku hS (c:=8) (m:=3) (by decide) ?_;intro _ _;cbv)|(refine s_one hS (by omega) ?_;intro _ _;cbv)|(refine s_and64 hS (by omega) (by omega) ?_ ?_<;>intro _ _ _<;>cbv)|(refine s_setand hS g2 (by assumption) (by omega) g3 ?_ ?_<;>intro _ _ _<;>cbv)|(refine qbd hS (c:=8) rfl ?_;intro _ _;cbv)|(refine s_setor hS g2 (by assumption) (by omega) g3 ?_;intro _ _;cbv)|(refine qtk hS rfl ?_;cbv)|fail)
   ·have e:t=false:=by rw[<-g5,if_pos (.inl (by omega))]
    exact qao e
   ·rename_i r9 e9 r10 e10 r11 e11 h11 h12 r12 e12 h13 h14 r14 e14 r15 e15
    have e:t=false:=by rw[<-g5,if_pos (.inr (.inr (by omega)))]
    exact qao e
   ·rename_i r9 e9 r10 e10 r11 e11 h11 h12 r12 e12 h13 h14 r14 e14 r15 e15 r16 e16 r17 e17 r18 e18 r19 e19
    rw[if_neg (by rintro (q|q|q)<;>first|omega|(rw[<-e9] at q;exact h13 q)),<-e9,<-e17,<-e18] at g5;refine⟨(r19,r16,r18,r9::l),by dsimp only;omega,⟨by dsimp only;omega,by dsimp only;omega,e16,?_,by dsimp only;omega,?_⟩,rfl,?_,?_,by cbv⟩
    ·intro y hy
     rcases List.mem_cons.1 hy with rfl|hy
     ·omega
     ·exact g3 y hy
    ·dsimp only;rw[e19];exact g5
    ·cbv;all_goals exact s_sA
    ·cbv;all_goals exact s_bA
   ·rename_i r9 e9 r10 e10 r11 e11 h11 h12 r12 e12 h13
    have e:t=false:=by rw[<-g5,if_pos (.inr (.inl (by rw[<-e9];exact h13)))]
    exact qao e
  ·have e:t=true:=by rw[<-g5,show (n-k).toNat=0 by omega];rfl
   exact qay e
end Wr
end Cz
namespace Cz
open Go Go.RowKit Go.Proofs
namespace Wr
def cd (x:Int×Int):Int:=64+8*x.2+x.1
def lowI:List (Int×Int)->Int
 | []=>0
 | x::r=>cd x+128*lowI r
def wdI (L:List (Int×Int)):Int:=1152921504606846976*ilen L+lowI L
def Bd (L:List (Int×Int)):Prop:=∀ x∈L,(0<=x.1/\x.1<=7)/\(0<=x.2/\x.2<=7)
structure Good (L:List (Int×Int)):Prop where
 len:ilen L<=8
 bd:Bd L
 nd:(L.map (·.1)).Nodup
 srt:L.Pairwise λa b=>a.2<=b.2
theorem cd_bd {L:List (Int×Int)}(h:Bd L) {x:Int×Int}(hx:x∈L):64<=cd x/\cd x<128:=by
 have:=h x hx;unfold cd;omega
theorem qzawk {L:List (Int×Int)}(h:Bd L) {x:Int×Int}(hx:x∈L):cd x%8=x.1/\cd x/8%8=x.2:=by
 have:=h x hx;unfold cd;omega
theorem Bd.tail {x:Int×Int}{L:List (Int×Int)}(h:Bd (x::L)):Bd L:=λy hy=>h y (by simp [hy])
theorem qzald:∀ {L:List (Int×Int)},Bd L->0<=lowI L/\lowI L<2 ^ (7*L.length)
 | [],_=>by simp [lowI]
 | x::L,h=>by
  have h1:=qzald h.tail;have h2:=cd_bd h (List.mem_cons_self ..);have e:(2:Int) ^ (7*(x::L).length)=128*2 ^ (7*L.length):=by
   rw[List.length_cons,Nat.mul_add,Int.pow_add];omega
  rw[e];unfold lowI;omega
theorem low_plc:∀ {L:List (Int×Int)}(k:Nat) (x:Int×Int),Bd L->L[k]?=some x->lowI L/2 ^ (7*k)%128=cd x
 | [],k,x,_,h=>by simp at h
 | y::L,0,x,h,hx=>by
  simp only[List.getElem?_cons_zero,Option.some.injEq] at hx;subst hx
  have:=cd_bd h (List.mem_cons_self ..)
  unfold lowI;simp;omega
 | y::L,k+1,x,h,hx=>by
  simp only[List.getElem?_cons_succ] at hx;have h2:=cd_bd h (List.mem_cons_self ..);have e:(2:Int) ^ (7*(k+1))=128*2 ^ (7*k):=by rw[Nat.mul_add,Int.pow_add];omega
  rw[e,<-Int.ediv_ediv_of_nonneg (by omega)];have e2:lowI (y::L)/128=lowI L:=by
   show (cd y+128*lowI L)/128=lowI L;omega
  rw[e2];exact low_plc k x h.tail hx
theorem pow_56 {n:Nat}(h:n<=8):(2:Int) ^ (7*n)<=2 ^ 56:=by
 have:(2:Nat) ^ (7*n)<=2 ^ 56:=Nat.pow_le_pow_right (by omega) (by omega)
 exact_mod_cast this
theorem qds {L:List (Int×Int)}(h:Bd L) (hn:ilen L<=8):wdI L/1152921504606846976=ilen L/\wdI L%1152921504606846976=lowI L/\0<=wdI L/\wdI L<18446744073709551616:=by
 have h1:=qzald h;have h2:=pow_56 (n:=L.length) (by unfold ilen at hn;omega);have h3:(2:Int) ^ 56=72057594037927936:=by decide
 have h4:=qaj L;unfold wdI;omega
theorem plc_wd {L:List (Int×Int)}(h:Bd L) (hn:ilen L<=8) {k:Nat}{x:Int×Int}(hx:L[k]?=some x):plc (wdI L) k=cd x:=by
 have hk:=(List.getElem?_eq_some_iff.1 hx).1;have hk8:k<8:=by unfold ilen at hn;omega
 rw[<-low_plc k x h hx];unfold plc wdI;rw[show (7*(k:Int)).toNat=7*k by omega];have e:(1152921504606846976:Int)=2 ^ (7*k)*(128*2 ^ (53-7*k)):=by
  have:(1152921504606846976:Int)=2 ^ 60:=by decide
  rw[this,show (128:Int)=2 ^ 7 by decide,<-Int.pow_add,<-Int.pow_add];congr 1;omega
 rw[e,Int.mul_assoc,Int.add_comm,Int.add_mul_ediv_left _ _ (by have:=Int.pow_pos (n:=(2:Int)) (m:=7*k) (by decide);omega),Int.mul_assoc];omega
def places (w:Int):Nat->Nat->List (Int×Int)
 | 0,_=>[]
 | f+1,k=>(plc w k%8,plc w k/8%8)::places w f (k+1)
theorem wgo_iff (w:Int):∀ (f k:Nat) (seen:List Int) (last:Int),wgo w f k seen last=true ↔
  (∀ q,k<=q->q<k+f->64<=plc w q)/\((places w f k).map (·.1)).Nodup/\(∀ s∈(places w f k).map (·.1),s∉seen)/\(places w f k).Pairwise (λa b=>a.2<=b.2)/\(∀ x∈places w f k,last<=x.2)
 | 0,k,seen,last=>by simp [wgo,places];omega
 | f+1,k,seen,last=>by
  have ih:=wgo_iff w f (k+1) (plc w k%8::seen) (plc w k/8%8);rw[wgo];have hc:((k:Int)+1)=((k+1:Nat):Int):=by push_cast;rfl
  by_cases hb:plc w k<64∨plc w k%8∈seen∨plc w k/8%8<last
  ·rw[if_pos hb]
   simp only[Bool.false_eq_true,false_iff,not_and];intro h1 h2 h3 h4 h5;rcases hb with hb|hb|hb
   ·have:=h1 k (Nat.le_refl _) (by omega);omega
   ·exact h3 (plc w k%8) (by simp [places]) hb
   ·have:=h5 (plc w k%8,plc w k/8%8) (by simp [places]);dsimp only at this;omega
  ·rw[if_neg hb,hc,ih]
   simp only[not_or,Int.not_lt] at hb;simp only[places,List.map_cons,List.nodup_cons,List.mem_cons,List.pairwise_cons,forall_eq_or_imp,not_or];constructor
   ·rintro ⟨h1,h2,h3,h4,h5⟩
    refine⟨λq hq hq2=>?_,⟨λhm=>(h3 _ hm).1 rfl,h2⟩,⟨hb.2.1,λs hs=>(h3 s hs).2⟩,⟨h5,h4⟩,hb.2.2,λx hx=>Int.le_trans hb.2.2 (h5 x hx)⟩;by_cases e:q=k
    ·subst e;exact hb.1
    ·exact h1 q (by omega) (by omega)
   ·rintro ⟨h1,⟨h2,h2'⟩,⟨_,h3⟩,⟨h4,h4'⟩,_,_⟩
    exact⟨λq hq hq2=>h1 q (by omega) (by omega),h2',λs hs=>⟨λe=>h2 (e▸hs),h3 s hs⟩,h4',h4⟩
theorem places_of {L:List (Int×Int)}(h:Bd L) (hn:ilen L<=8):places (wdI L) L.length 0=L:=by
 have main:∀ (f k:Nat),k+f=L.length->places (wdI L) f k=L.drop k:=by
  intro f
  induction f with
  | zero=>intro k hk;rw[List.drop_of_length_le (by omega)];rfl
  | succ f ih=>
   intro k hk;have hlt:k<L.length:=by omega
   have hx:=List.getElem?_eq_getElem hlt;rw[places,ih (k+1) (by omega),plc_wd h hn hx,List.drop_eq_getElem_cons hlt]
   have:=qzawk h (List.getElem_mem hlt)
   rw[this.1,this.2]
 simpa using main L.length 0 (by omega)
theorem word_good {L:List (Int×Int)}(h:Good L):wordB (wdI L)=true:=by
 obtain⟨p1,p2,p3,p4⟩:=qds h.bd h.len;have hb:=qzald h.bd;have hl:(ilen L).toNat=L.length:=by unfold ilen;simp
 unfold wordB;rw[p1,p2,if_neg,hl]
 ·refine (wgo_iff (wdI L) L.length 0 [] 0).2 ?_
  rw[places_of h.bd h.len];refine⟨λq _ hq=>?_,h.nd,by simp,h.srt,λx hx=>(h.bd x hx).2.1⟩;have hq':q<L.length:=by omega
  rw[plc_wd h.bd h.len (List.getElem?_eq_getElem hq')];exact (cd_bd h.bd (List.getElem_mem hq')).1
 ·rintro (h1|h1)
  ·have:=h.len;omega
  ·apply h1
   rw[show (7*ilen L).toNat=7*L.length by unfold ilen;omega];exact Int.ediv_eq_zero_of_lt hb.1 hb.2
end Wr
end Cz
namespace Cz
open Go Go.RowKit Go.Proofs
namespace Wr
section
variable {P:Program}{S:Sy}
theorem xor_low {a m:Nat}:a ^^^ (a%2 ^ m)=a-a%2 ^ m:=by
 have h1:=Nat.div_add_mod a (2 ^ m);have hr:a%2 ^ m<2 ^ m:=Nat.mod_lt _ (Nat.two_pow_pos m);generalize a/2 ^ m=q at *;generalize hr2:a%2 ^ m=r at *;rw[<-h1,Nat.add_sub_cancel];apply Nat.eq_of_testBit_eq;intro i;rw[Nat.testBit_xor,Nat.testBit_two_pow_mul_add q hr,Nat.testBit_two_pow_mul];by_cases hi:i<m
 ·simp [hi,show ¬ m<=i by omega]
 ·have:r.testBit i=false:=Nat.testBit_lt_two_pow (Nat.lt_of_lt_of_le hr (Nat.pow_le_pow_right (by omega) (by omega)))
  simp [hi,show m<=i by omega,this]
theorem s_xorlow (hS:S0 P=S) {a b M:Int}{m:Nat}{K:Int->Prop}(hM:(2:Int) ^ m=M) (h0:0<=a) (h1:a<18446744073709551616) (hb:b=a%M) (h:∀ r,r=a-b->K r):S.ar .xor .u64 a b K:=by
 subst hM hb;refine qcg hS _ ?_ (h _ rfl);obtain⟨n,rfl⟩:∃ n:Nat,a=n:=⟨a.toNat,by omega⟩;have hn:n<2 ^ 64:=by omega
 have e1:(n:Int)%2 ^ m=((n%2 ^ m:Nat):Int):=by push_cast;rfl
 have hle:=Nat.mod_le n (2 ^ m);have e0:arS .xor .u64 (n:Int) ((n%2 ^ m:Nat):Int)=IntKind.u64.wrap (BitVec.ofInt 64 n ^^^ BitVec.ofInt 64 ((n%2 ^ m:Nat):Int)).toNat:=rfl;have e2:(BitVec.ofInt 64 (n:Int)).toNat=n:=qcc hn;have e3:(BitVec.ofInt 64 ((n%2 ^ m:Nat):Int)).toNat=n%2 ^ m:=qcc (Nat.lt_of_le_of_lt hle hn);rw[e1,e0,BitVec.toNat_xor,e2,e3,xor_low,qro (Nat.lt_of_le_of_lt (Nat.sub_le _ _) hn)];omega
end
section
variable {S:Sy}{l:List Blk}{K:SV->List Blk->Prop}
theorem qrn (hS:S0 Tryz.prog=S) {w:Int}{L:List (Int×Int)}(hw:w=wdI L) (hL:Good L) (h:K .tt l):S.call 143 [.i .u64 (.y w)] l K:=by
 subst hS hw;obtain⟨_,_,p3,p4⟩:=qds hL.bd hL.len;exact qai (qae (wright_f p3 p4 (word_good hL)) λx _ hx=>⟨.tt,hx.trans (qbt rfl),.rfl⟩) rfl rfl h
end
def findP (L:List (Int×Int)) (s:Int):Option Nat:=L.findIdx? λx=>decide (x.1=s)
def findK (L:List (Int×Int)) (s:Int):Int:=match findP L s with|some k=>Int.ofNat k|none=>0
def findB (L:List (Int×Int)) (s:Int):Bool:=(findP L s).isSome
theorem qzalj {L:List (Int×Int)}{s:Int}{k:Nat}{y:Int×Int}(hy:L[k]?=some y) (hs:y.1=s) (hno:∀ j:Nat,j<k->∀ z,L[j]?=some z->z.1≠s):findP L s=some k:=by
 obtain⟨hk,rfl⟩:=List.getElem?_eq_some_iff.1 hy;unfold findP;rw[List.findIdx?_eq_some_iff_getElem];exact⟨hk,by simp [hs],λj hj=>by simpa using hno j hj _ (List.getElem?_eq_getElem (by omega))⟩
theorem qzalk {L:List (Int×Int)}{s:Int}(hno:∀ j:Nat,∀ z,L[j]?=some z->z.1≠s):findP L s=none:=by
 unfold findP;rw[List.findIdx?_eq_none_iff];intro x hx;obtain⟨j,hj⟩:=List.getElem?_of_mem hx;simpa using hno j x hj
theorem at_w {L:List (Int×Int)}{w x:Int}(hL:Good L) (hw:w=wdI L) (h0:0<=x) (h1:x<ilen L):∃ y,L[x.toNat]?=some y/\w/2 ^ (7*x).toNat%128=cd y/\cd y%8=y.1/\cd y/8%8=y.2/\(0<=y.1/\y.1<=7)/\(0<=y.2/\y.2<=7)/\64<=cd y/\cd y<128:=by
 obtain⟨y,hy⟩:=qbi h1 h0;have hm:=List.mem_of_getElem? hy;have hp:=plc_wd hL.bd hL.len hy;rw[show ((x.toNat:Nat):Int)=x by omega,<-hw] at hp;have h2:=qzawk hL.bd hm;have h3:=cd_bd hL.bd hm;exact⟨y,hy,hp,h2.1,h2.2,(hL.bd y hm).1,(hL.bd y hm).2,h3.1,h3.2⟩
theorem wfind_f {L:List (Int×Int)}{w s k:Int}{t:Bool}(hL:Good L) (hw:w=wdI L) (hk:findK L s=k) (ht:findB L s=t):
  (S0 Tryz.prog).call 239 [.i .u64 (.y w),.i .i64 (.y s)] [] (λx _=>Sub x (.tp [.i .i64 (.y k),.b t])):=by
 obtain⟨p1,p2,p3,p4⟩:=qds hL.bd hL.len;rw[<-hw] at p1 p2 p3 p4;have hn8:=hL.len;have hn0:=qaj L;obtain⟨n,hn⟩:∃ n,n=ilen L:=⟨_,rfl⟩;rw[<-hn] at p1 hn8 hn0;generalize hS:S0 Tryz.prog=S;refine qaa hS I.qzasu ?_;cbv
 repeat' (first|(refine qdd hS ?_;try cbv)|(refine qaa hS I.qyg ?_;cbv)|(refine qrn hS hw hL ?_;cbv)|(refine qbd hS (c:=1152921504606846976) rfl ?_;intro _ _;cbv)|(refine qaa hS I.qec ?_;cbv)|(refine qbq hS I.qda ?_;cbv)|fail)
 rename_i r1 e1;have hr1:r1=n:=by omega
 clear e1;refine qad hS 7 I.qck (λx:Int=>0<=x/\x<=n/\∀ j:Nat,j<x.toNat->∀ y,L[j]?=some y->y.1≠s)
  (λx=>[(7,.i .i64 (.y x))]) (λ_=>[]) (λx=>(n-x).toNat) 0 rfl ⟨⟨Int.le_refl _,hn0,λj hj=>by omega⟩,rfl,?_,?_,by cbv⟩ ?_
 ·cbv;all_goals exact s_sA
 ·cbv;all_goals exact s_bA
 intro x hx;cbv;obtain⟨g0,g1,g2⟩:=hx
 repeat' (first|(refine s_ck hS ?_;try cbv)|(refine qac hS ?_ ?_<;>intro h<;>(try cbv)<;>try exact s_ab h)|(refine s_ad hS ?_;intro _ _;try cbv)|(refine qdd hS ?_;try cbv)|(refine qzr hS ?_ (by simp only[lo];omega) (by simp only[hi];omega);intro _ _;cbv)|(refine s_shr hS (by simp only[IntKind.bits];omega) ?_;intro _ _;cbv)|(refine qku hS (c:=128) (m:=7) (by decide) ?_;intro _ _;cbv)|(refine qfw hS rfl rfl ?_;cbv)|(refine qaa hS I.qzakj ?_;cbv)|(refine qag hS rfl I.qzaab (by decide +kernel) ?_;cbv)|(refine qaa hS I.qqv ?_;cbv)|(refine qku hS (c:=8) (m:=3) (by decide) ?_;intro _ _;cbv)|fail)
 ·rename_i r2 e2 r3 e3 r4 e4 r5 e5
  obtain⟨y,y1,y2,y3,-⟩:=at_w hL hw g0 (by omega);have hf:=qzalj (s:=s) y1 (by rw[<-y3,<-y2,<-e2,<-e3,<-e4,<-e5];assumption) (λj hj z hz=>g2 j (by omega) z hz);have hk':k=x:=by rw[<-hk];unfold findK;rw[hf];simp;omega
  have ht':t=true:=by rw[<-ht];unfold findB;rw[hf];rfl
  subst hk' ht'
  all_goals exact s_sA
 ·rename_i r2 e2 r3 e3 r4 e4 r5 e5 r6 e6
  obtain⟨y,y1,y2,y3,-⟩:=at_w hL hw g0 (by omega);refine⟨r6,by omega,⟨by omega,by omega,λj hj z hz=>?_⟩,rfl,?_,?_,by cbv⟩
  ·by_cases hjx:j<x.toNat
   ·exact g2 j hjx z hz
   ·have:j=x.toNat:=by omega
    subst this;rw[y1] at hz;cases hz;rw[<-y3,<-y2,<-e2,<-e3,<-e4,<-e5];assumption
  ·cbv;all_goals exact s_sA
  ·cbv;all_goals exact s_bA
 ·have hf:findP L s=none:=qzalk λj z hz=>g2 j (by have:=(List.getElem?_eq_some_iff.1 hz).1;unfold ilen at hn;omega) z hz
  have hk':k=0:=by rw[<-hk];unfold findK;rw[hf]
  have ht':t=false:=by rw[<-ht];unfold findB;rw[hf];rfl
  subst hk' ht'
  all_goals exact s_sA
end Wr
end Cz
namespace Cz
open Go Go.RowKit Go.Proofs
namespace Wr
theorem qzagv:∀ (A B:List (Int×Int)),lowI (A++B)=lowI A+2 ^ (7*A.length)*lowI B
 | [],B=>by simp [lowI]
 | x::A,B=>by
  have e:(2:Int) ^ (7*(x::A).length)=128*2 ^ (7*A.length):=by rw[List.length_cons,Nat.mul_add,Int.pow_add];omega
  rw[List.cons_append,lowI,qzagv A B,lowI,e,Int.mul_add,Int.mul_assoc];omega
theorem pigeon:∀ (n:Nat) {l:List Int},l.Nodup->(∀ x∈l,0<=x/\x<n)->l.length<=n
 | 0,[],_,_=>by simp
 | 0,x::l,_,h=>by have:=h x (by simp);omega
 | n+1,l,hd,h=>by
  by_cases hm:(n:Int)∈l
  ·have h1:=pigeon n (l:=l.erase n) (hd.erase _) λx hx=>by
    have hx2:=(hd.mem_erase_iff).1 hx
    have:=h x hx2.2
    have:=hx2.1
    omega
   have h2:=List.length_erase_of_mem hm;omega
  ·have h1:=pigeon n hd λx hx=>by
    have:=h x hx
    have:x≠n:=λe=>hm (e▸hx)
    omega
   omega
def insL (L:List (Int×Int)) (x:Int×Int):List (Int×Int):=L.takeWhile (λy=>decide (y.2<=x.2))++x::L.dropWhile (λy=>decide (y.2<=x.2))
def outL (L:List (Int×Int)) (s:Int):List (Int×Int):=L.filter λy=>decide (y.1≠s)
theorem qzaff {L:List (Int×Int)}{s:Int}:findB L s=true↔s∈L.map (·.1):=by
 unfold findB findP;rw[List.findIdx?_isSome,List.any_eq_true];simp only[List.mem_map,decide_eq_true_eq]
theorem qyq {L:List (Int×Int)}{s:Int}(h:findB L s=false):s∉L.map (·.1):=λhm=>by rw[qzaff.2 hm] at h;cases h
theorem len7 {L:List (Int×Int)}{s:Int}(hL:Good L) (hs:0<=s/\s<=7) (h:findB L s=false):ilen L<=7:=by
 have h1:=pigeon 8 (l:=s::L.map (·.1)) (List.nodup_cons.2 ⟨qyq h,hL.nd⟩) λx hx=>by
  rcases List.mem_cons.1 hx with rfl|hx
  ·omega
  ·obtain⟨y,hy,rfl⟩:=List.mem_map.1 hx
   have:=hL.bd y hy;omega
 simp at h1;unfold ilen;omega
theorem qjt (L:List (Int×Int)) (x:Int×Int):L.takeWhile (λy=>decide (y.2<=x.2))++L.dropWhile (λy=>decide (y.2<=x.2))=L:=List.takeWhile_append_dropWhile
theorem ins_mem {L:List (Int×Int)}{x y:Int×Int}:y∈insL L x↔y=x∨y∈L:=by
 unfold insL
 conv=>rhs;rw[<-qjt L x]
 simp only[List.mem_append,List.mem_cons];constructor
 ·rintro (h|h|h)
  ·exact .inr (.inl h)
  ·exact .inl h
  ·exact .inr (.inr h)
 ·rintro (h|h|h)
  ·exact .inr (.inl h)
  ·exact .inl h
  ·exact .inr (.inr h)
theorem ins_len (L:List (Int×Int)) (x:Int×Int):ilen (insL L x)=ilen L+1:=by
 have:=congrArg List.length (qjt L x)
 rw[List.length_append] at this;unfold insL ilen;rw[List.length_append,List.length_cons];omega
theorem tw_le {L:List (Int×Int)}{u:Int}:∀ y∈L.takeWhile (λy=>decide (y.2<=u)),y.2<=u:=by
 induction L with
 | nil=>intro y hy;simp at hy
 | cons z L ih=>
  intro y hy;rw[List.takeWhile_cons] at hy;split at hy
  ·rename_i h
   rcases List.mem_cons.1 hy with rfl|hy
   ·simpa using h
   ·exact ih y hy
  ·simp at hy
theorem dw_gt {L:List (Int×Int)}{u:Int}(hs:L.Pairwise λa b=>a.2<=b.2):∀ y∈L.dropWhile (λy=>decide (y.2<=u)),u<y.2:=by
 induction L with
 | nil=>intro y hy;simp at hy
 | cons z L ih=>
  intro y hy;rw[List.pairwise_cons] at hs;rw[List.dropWhile_cons] at hy;split at hy
  ·exact ih hs.2 y hy
  ·rename_i h
   have hz:u<z.2:=by simpa using h
   rcases List.mem_cons.1 hy with rfl|hy
   ·exact hz
   ·have:=hs.1 y hy;omega
theorem good_ins {L:List (Int×Int)}{s u:Int}(hL:Good L) (hs:0<=s/\s<=7) (hu:0<=u/\u<=7) (h:findB L s=false):Good (insL L (s,u)):=by
 refine⟨by rw[ins_len];have:=len7 hL hs h;omega,λy hy=>?_,?_,?_⟩
 ·rcases ins_mem.1 hy with rfl|hy
  ·exact⟨hs,hu⟩
  ·exact hL.bd y hy
 ·have hp:(insL L (s,u)).Perm ((s,u)::L):=by
   unfold insL;refine List.perm_middle.trans ?_;rw[qjt]
  have:=(hp.map (·.1)).nodup_iff.2 (List.nodup_cons.2 ⟨qyq h,hL.nd⟩)
  exact this
 ·unfold insL
  rw[List.pairwise_append,List.pairwise_cons];have hsp:=hL.srt;rw[<-qjt L (s,u),List.pairwise_append] at hsp;refine⟨hsp.1,⟨λy hy=>Int.le_of_lt (dw_gt hL.srt y hy),hsp.2.1⟩,λa ha b hb=>?_⟩;have h1:=tw_le a ha;rcases List.mem_cons.1 hb with rfl|hb
  ·exact h1
  ·have:=dw_gt hL.srt b hb
   dsimp only at *;omega
theorem ins_at {L:List (Int×Int)}{s u:Int}{k:Nat}(hk:k<=L.length) (h1:∀ j,j<k->∀ y,L[j]?=some y->y.2<=u) (h2:∀ y,L[k]?=some y->u<y.2):insL L (s,u)=L.take k++(s,u)::L.drop k:=by
 unfold insL
 induction L generalizing k with
 | nil=>simp
 | cons z L ih=>
  cases k with
  | zero=>
   have:=h2 z (by simp)
   rw[List.takeWhile_cons,List.dropWhile_cons,if_neg (by simp;omega),if_neg (by simp;omega)]
   simp
  | succ k=>
   have:=h1 0 (by omega) z (by simp)
   rw[List.takeWhile_cons,List.dropWhile_cons,if_pos (by simpa using this),if_pos (by simpa using this)]
   have:=ih (k:=k) (by simpa using hk) (λj hj y hy=>h1 (j+1) (by omega) y (by simpa using hy)) (λy hy=>h2 y (by simpa using hy))
   simp only[List.take_succ_cons,List.drop_succ_cons,List.cons_append];rw[this]
theorem qzagm {L:List (Int×Int)}{s:Int}{y:Int×Int}:y∈outL L s↔y∈L/\y.1≠s:=by
 unfold outL;rw[List.mem_filter];simp
theorem good_out {L:List (Int×Int)}{s:Int}(hL:Good L):Good (outL L s):=by
 have hsub:(outL L s).Sublist L:=List.filter_sublist;refine⟨by have:=hsub.length_le;have:=hL.len;unfold ilen at *;omega,λy hy=>hL.bd y (qzagm.1 hy).1,(hsub.map _).nodup hL.nd,hL.srt.sublist hsub⟩
theorem out_at {L:List (Int×Int)}{s:Int}{k:Nat}(hL:Good L) (h:findP L s=some k):∃ y,L[k]?=some y/\y.1=s/\outL L s=L.take k++L.drop (k+1)/\k<L.length:=by
 unfold findP at h;rw[List.findIdx?_eq_some_iff_getElem] at h;obtain⟨hk,h1,h2⟩:=h;refine⟨L[k],List.getElem?_eq_getElem hk,by simpa using h1,?_,hk⟩;have hs:L=L.take k++L[k]::L.drop (k+1):=by
  rw[<-List.drop_eq_getElem_cons hk,List.take_append_drop]
 have hnd:=hL.nd;rw[hs,List.map_append,List.map_cons,List.nodup_append] at hnd;have h1':L[k].1=s:=by simpa using h1
 unfold outL
 conv=>lhs;rw[hs]
 rw[List.filter_append,List.filter_cons,if_neg (by simp [h1'])];congr 1
 ·rw[List.filter_eq_self]
  intro y hy;simp only[decide_eq_true_eq];intro e;exact hnd.2.2 y.1 (List.mem_map.2 ⟨y,hy,rfl⟩) L[k].1 (by simp) (e.trans h1'.symm)
 ·rw[List.filter_eq_self]
  intro y hy;simp only[decide_eq_true_eq];intro e
  have:=(List.nodup_cons.1 hnd.2.1).1
  exact this (List.mem_map.2 ⟨y,hy,e.trans h1'.symm⟩)
theorem out_none {L:List (Int×Int)}{s:Int}(h:findB L s=false):outL L s=L:=by
 unfold outL;rw[List.filter_eq_self];intro y hy;simp only[decide_eq_true_eq];exact λe=>qyq h (List.mem_map.2 ⟨y,hy,e⟩)
theorem wd_cut {L:List (Int×Int)}(hL:Good L) {k:Nat}(hk:k<=L.length):wdI L=1152921504606846976*ilen L+(lowI (L.take k)+2 ^ (7*k)*lowI (L.drop k))/\(0<=lowI (L.take k)/\lowI (L.take k)<2 ^ (7*k))/\(0<=lowI (L.drop k)/\lowI (L.drop k)<2 ^ (7*(L.length-k))):=by
 have e:=qzagv (L.take k) (L.drop k);rw[List.take_append_drop,List.length_take,Nat.min_eq_left hk] at e;have b1:=qzald (L:=L.take k) λx hx=>hL.bd x (List.mem_of_mem_take hx);have b2:=qzald (L:=L.drop k) λx hx=>hL.bd x (List.mem_of_mem_drop hx);rw[List.length_take,Nat.min_eq_left hk] at b1;rw[List.length_drop] at b2;exact⟨by unfold wdI;rw[e],b1,b2⟩
end Wr
end Cz
