/- What the claims of this group lean on: WsX WsY WtA. No condition. -/
import Derived.Test.YtfijlhdheiebcaaGreatDoorKB33
set_option linter.unusedSimpArgs false
set_option linter.unusedVariables false
set_option maxRecDepth 100000
set_option maxHeartbeats 4000000
namespace Cz
open Go Go.RowKit Go.Proofs
namespace Wr
theorem qzaqx {i:Nat}{a:St}(ss:List St) (hi:i<ss.length):repl (cellsS ss) (i*11) (stC a)=cellsS (ss.set i a):=by
 have h11:∀ s:St,(stC s).length=11:=λ_=>rfl;have hl:=qyp (enc:=stC) h11 ss;have e1:ss=ss.take i++ss[i]::ss.drop (i+1):=by rw[List.getElem_cons_drop hi,List.take_append_drop]
 have lA:=qyp (enc:=stC) h11 (ss.take i);rw[List.length_take,Nat.min_eq_left (by omega)] at lA;have e2:ss.set i a=ss.take i++a::ss.drop (i+1):=List.set_eq_take_append_cons_drop.trans (by rw[if_pos hi]);unfold cellsS;rw[qwo _ _ _ (by rw[hl,h11];have:=Nat.mul_le_mul_right 11 hi;omega),e2,List.flatMap_append,List.flatMap_cons,h11];have e3:(ss.flatMap stC).take (i*11)=(ss.take i).flatMap stC:=by
  conv=>lhs;rw[e1]
  rw[List.flatMap_append,List.take_append_of_le_length (by omega),List.take_of_length_le (by omega)]
 have e4:(ss.flatMap stC).drop (i*11+11)=(ss.drop (i+1)).flatMap stC:=by
  conv=>lhs;rw[e1]
  rw[List.flatMap_append,List.flatMap_cons,<-List.append_assoc,List.drop_append_of_le_length (by rw[List.length_append,h11];omega),List.drop_of_length_le (by rw[List.length_append,h11];omega),List.nil_append]
 rw[e3,e4,List.append_assoc]
theorem qzaqy {P:Program}{S:Sy}(hS:S0 P=S) {ss:List St}{F ws:List SV}{i:Int}{s':St}{D:List SV}{dn:Int}{K:List SV->Prop}(hF:cellsS ss=F) (h0:0<=i) (hi:i<ilen ss) (hD:cellsB s'.o=D) (hdn:dn=ilen s'.o) (hws:stK s' D dn=ws)
  (h:∀ F',cellsS (ss.set i.toNat s')=F'->K F'):S.wr F i 11 0 ws K:=by
 have hi2:i.toNat<ss.length:=by unfold ilen at hi;omega
 have e:stC s'=ws:=by rw[<-hws];subst hD hdn;rfl
 have hl:=qcq ss;rw[hF] at hl;refine s_wr hS h0 (by rw[hl];have:=Nat.mul_le_mul_right 11 hi2;omega) (by rw[<-e];exact Nat.le_refl _) (by rw[<-e];rfl) ?_;rw[Nat.add_zero,<-e,<-hF,qzaqx ss hi2];exact h _ rfl
theorem sh_o {s s':St}{b:Int}{q:Bool}(h:shiftS s b=(s',q)):s'.o=s.o:=by
 unfold shiftS at h;split at h<;>cases h<;>rfl
def mixS (ss:List St) (b:Int) (i:Nat):List St:=(ss.take i).map (λs=>(shiftS s b).1)++ss.drop i
theorem mix_get {ss:List St}{b:Int}{i:Nat}{s:St}(h:ss[i]?=some s):(mixS ss b i)[i]?=some s:=by
 unfold mixS;have hl:=(List.getElem?_eq_some_iff.1 h).1;rw[List.getElem?_append_right (by simp;omega)];simp only[List.length_map,List.length_take,Nat.min_eq_left (Nat.le_of_lt hl),Nat.sub_self,List.getElem?_drop,Nat.add_zero];exact h
theorem qzanl (ss:List St) (b:Int) (i:Nat):ilen (mixS ss b i)=ilen ss:=by
 unfold mixS ilen;simp only[List.length_append,List.length_map,List.length_take,List.length_drop];omega
theorem mix_set {ss:List St}{b:Int}{i:Nat}{s s':St}{q:Bool}(h:ss[i]?=some s) (hs:shiftS s b=(s',q)):(mixS ss b i).set i s'=mixS ss b (i+1):=by
 have hl:=(List.getElem?_eq_some_iff.1 h).1;unfold mixS;have e1:((ss.take i).map (λs=>(shiftS s b).1)).length=i:=by simp;omega
 have e2:ss.drop i=s::ss.drop (i+1):=by
  obtain⟨h1,h2⟩:=List.getElem?_eq_some_iff.1 h;rw[<-h2,List.getElem_cons_drop h1]
 rw[List.set_append_right _ _ (by omega),e1,Nat.sub_self,e2,List.set_cons_zero,List.take_add_one,h];simp [hs]
theorem mix_all {ss:List St}{b:Int}{i:Nat}(h:ss.length<=i):mixS ss b i=ss.map λs=>(shiftS s b).1:=by
 unfold mixS;rw[List.take_of_length_le h,List.drop_of_length_le h,List.append_nil]
theorem lshift_f {X X':Ln}{n:Int}{t:Bool}{Fo:List SV}{no:Int}{Fr:List SV}{nr:Int}{Fz:List SV}{nz:Int}{Fs Fs':List SV}{ns w w':Int}(hn:LnN X.os X.tr X.zs X.ss Fo no Fr nr Fz nz Fs ns) (hg:GdL X) (hw:w=wdI X.L) (hwt:∀ o∈X.os,WtP o) (hb:Big n) (hr:shiftL X n=(X',t)) (hw':w'=wdI X'.L) (hFs':cellsS X'.ss=Fs'):
  (S0 Tryz.prog).call 34 [.ag (lnK Fo no X.tm Fr nr Fz nz X.se X.re X.ow Fs ns w X.H X.sh),.i .i64 (.y n)] [] (Tell (.tp [.ag (lnK Fo no X'.tm Fr nr Fz nz X'.se X'.re X'.ow Fs' ns w' X'.H X'.sh),.b t])):=by
 obtain⟨f1,f2,f3,f4,f5,f6⟩:=hn.lo;have hrt:∀ (bl:List Blk) (K:SV->List Blk->Prop),K .tt bl->(S0 Tryz.prog).call 36 [.ag (lnK Fo no X.tm Fr nr Fz nz X.se X.re X.ow Fs ns w X.H X.sh)] bl K:=λbl K h=>qlr rfl hn hg hw hwt h;have hgs:=(shift_gd (b:=n) hg).ss;have hss:=hg.ss;have hR:=hg.rd.r;have hse:=hg.se;have hns:=hn.sn;have hns8:ns<=8:=by rw[hns];exact hss.len
 have hsf:=hn.s;clear hg hwt;obtain⟨os,tm,tr,zs,se,re,ow,ss,L,H,sh⟩:=X;rw[hr] at hgs;unfold shiftL setL at hr;dsimp only at *;have hbw:=qgi hse;unfold lnK at *;generalize hS:S0 Tryz.prog=S at *;cases hall:(ss.all λs=>(shiftS s n).2) with
 | true=>
  rw[hall,if_pos rfl] at hr;cases hr;dsimp only at *;obtain⟨ss',hss'⟩:∃ r,(ss.map λs=>(shiftS s n).1)=r:=⟨_,rfl⟩;rw[hss'] at hFs' hw' hgs ⊢;obtain⟨⟨L1,H1⟩,hset⟩:∃ r,settleR (L,H) (want ss' se)=r:=⟨_,rfl⟩;rw[hset] at hw' ⊢;dsimp only at hw' ⊢;refine qaa hS I.qub ?_;cbv
  repeat' (first|(refine qaa hS I.qav ?_;cbv)|(refine qkk hS (H:=H) hn ?_;intro st;cbv)|(refine hrt _ _ ?_;cbv)|(refine qaa hS I.qpf ?_;cbv)|fail)
  refine qad hS 8 I.qik (λx:Int×List SV=>0<=x.1/\x.1<=ns/\cellsS (mixS ss n x.1.toNat)=x.2) (λx=>[(12,.i .i64 (.y x.1))]) (λx=>[(6,.r false false (.y 0) 11 x.2)]) (λx=>(ns-x.1).toNat) (0,Fs) rfl ⟨⟨Int.le_refl _,f6,by show cellsS (mixS ss n 0)=Fs;unfold mixS;simpa using hsf⟩,rfl,?_,?_,by cbv⟩ ?_
  ·cbv;exact s_qA
  ·cbv;exact s_qA
  intro x;obtain⟨x,F⟩:=x;intro hx;dsimp only at hx;cbv;obtain⟨k0,k1,k2⟩:=hx;have hFp:plains F=true:=k2▸qak _;have hFl:ilen F=ns*11:=by rw[<-k2];have:=qcq (mixS ss n x.toNat);have h2:=qzanl ss n x.toNat;rw[<-hns] at h2;unfold ilen at *;omega
  have hxl:x<ns->x<ilen (mixS ss n x.toNat):=λh=>by rw[qzanl,<-hns];exact h
  refine s_br hS ?_ ?_<;>intro h'<;>cbv<;>simp only[<-hS,Int.ofNat_eq_natCast,cq,Bool.not_eq_true',Bool.not_eq_false',decide_eq_true_eq,decide_eq_false_iff_not,beq_iff_eq,beq_eq_false_iff_ne,ne_eq] at h'
  ·replace hxl:=hxl h'
   obtain⟨s,hy⟩:=qbi (l:=ss) (i:=x) (by omega) k0;have hyx:=mix_get (b:=n) hy;have hm:=List.mem_of_getElem? hy;have ok:=(hss.ok s hm).1;obtain⟨⟨s',q⟩,hsh⟩:∃ r,shiftS s n=r:=⟨_,rfl⟩;have hoo:=sh_o hsh;obtain⟨D,hD⟩:∃ F,cellsB s.o=F:=⟨_,rfl⟩;obtain⟨dn,hdn⟩:∃ m,m=ilen s.o:=⟨_,rfl⟩;have hD':cellsB s'.o=D:=by rw[hoo];exact hD
   have hdn':dn=ilen s'.o:=by rw[hoo];exact hdn
   have hmk:=qdg s hD hdn;have hms:=mix_set hy hsh;have hq:q=true:=by have:=List.all_eq_true.1 hall s hm;rw[hsh] at this;exact this
   subst hq;obtain⟨id,sst,sse,sre,sow,an,en,o,ur,ic,sl⟩:=s;obtain⟨id',sst',sse',sre',sow',an',en',o',ur',ic',sl'⟩:=s';dsimp only at hD hdn hD' hdn'
   repeat' (first|(refine s_ck hS ?_;try cbv)|(refine qac hS ?_ ?_<;>intro h<;>(try cbv)<;>try exact s_ab h)|(refine s_ad hS ?_;intro _ _;try cbv)|(refine qal hS (enc:=stC) (l:=mixS ss n x.toNat) k2 hyx (λ_=>rfl) k0 (by omega) hmk ?_;cbv)|(refine qnt hS rfl I.qem (by decide +kernel) ?_;cbv;refine⟨?_,?_⟩<;>cbv)|(refine qzamw hS ⟨id,sst,sse,sre,sow,an,en,o,ur,ic,sl⟩ (s':=⟨id',sst',sse',sre',sow',an',en',o',ur',ic',sl'⟩) ok hb hD hdn hsh hD' hdn' ?_;cbv)|(refine qag hS rfl I.qjd (by decide +kernel) ?_;cbv)|(refine qzaqy hS (ss:=mixS ss n x.toNat) (s':=⟨id',sst',sse',sre',sow',an',en',o',ur',ic',sl'⟩) k2 k0 hxl hD' hdn' rfl ?_;intro F2 hF2;cbv)|fail)
   all_goals first
    | (exfalso;omega)
    | (rename_i r e;exact⟨(r,F2),by dsimp only;omega,⟨by dsimp only;omega,by dsimp only;omega,by dsimp only;rw[e,show (x+1).toNat=x.toNat+1 by omega,<-hms];exact hF2⟩,rfl,by cbv;exact s_qA,by cbv;exact s_qA,by cbv⟩)
  ·have hxn:ss.length<=x.toNat:=by unfold ilen at hns;omega
   rw[mix_all hxn,hss'] at k2;have hFF:F=Fs':=by rw[<-k2,hFs']
   subst hFF;have hn':ns=ilen ss':=by rw[hns,<-hss'];unfold ilen;simp
   repeat' (first|(refine qio hS 7 5 6 (off:=0) (H:=H) (H':=H1) (ss:=ss') (sx:=ss') rfl rfl rfl rfl s_qA hgs hFs' ⟨[],by simp⟩ hn' hbw hR hw hset hw' f1 ?_;cbv)|fail)
   all_goals first
    | (intro g;refine .tp ?_;repeat' (first|exact .nil|refine .cons ?_ ?_|refine .ag ?_|exact .sub .rfl rfl|exact qdn f1 f2 rfl g|exact qqb (n:=.y no) rfl (qzacj f2) f1 rfl g|exact qbz hFp hFl rfl g|(refine .sub (qau ?_) rfl;simp only[Z.v];omega)|exact .sub (qay rfl) rfl))
 | false=>
  rw[hall,if_neg (by exact Bool.false_ne_true)] at hr;cases hr;dsimp only at *;have e1:Fs'=Fs:=by rw[<-hFs',hsf]
  have e3:w'=w:=by rw[hw',hw]
  subst e1 e3;refine qaa hS I.qub ?_;cbv
  repeat' (first|(refine qaa hS I.qav ?_;cbv)|(refine qkk hS (H:=H) hn ?_;intro st;cbv)|(refine hrt _ _ ?_;cbv)|(refine qaa hS I.qpf ?_;cbv)|fail)
  refine qad hS 8 I.qik (λx:Int×List SV=>0<=x.1/\x.1<=ns/\cellsS (mixS ss n x.1.toNat)=x.2/\∀ (j:Nat) (t:St),j<x.1.toNat->ss[j]?=some t->(shiftS t n).2=true) (λx=>[(12,.i .i64 (.y x.1))]) (λx=>[(6,.r false false (.y 0) 11 x.2)]) (λx=>(ns-x.1).toNat) (0,Fs') rfl ⟨⟨Int.le_refl _,f6,by show cellsS (mixS ss n 0)=Fs';unfold mixS;simpa using hsf,λj t h=>by simp at h⟩,rfl,?_,?_,by cbv⟩ ?_
  ·cbv;exact s_qA
  ·cbv;exact s_qA
  intro x;obtain⟨x,F⟩:=x;intro hx;dsimp only at hx;cbv;obtain⟨k0,k1,k2,k3⟩:=hx;have hFp:plains F=true:=k2▸qak _;have hFl:ilen F=ns*11:=by rw[<-k2];have:=qcq (mixS ss n x.toNat);have h2:=qzanl ss n x.toNat;rw[<-hns] at h2;unfold ilen at *;omega
  have hxl:x<ns->x<ilen (mixS ss n x.toNat):=λh=>by rw[qzanl,<-hns];exact h
  refine s_br hS ?_ ?_<;>intro h'<;>cbv<;>simp only[<-hS,Int.ofNat_eq_natCast,cq,Bool.not_eq_true',Bool.not_eq_false',decide_eq_true_eq,decide_eq_false_iff_not,beq_iff_eq,beq_eq_false_iff_ne,ne_eq] at h'
  ·replace hxl:=hxl h'
   obtain⟨s,hy⟩:=qbi (l:=ss) (i:=x) (by omega) k0;have hyx:=mix_get (b:=n) hy;have hm:=List.mem_of_getElem? hy;have ok:=(hss.ok s hm).1;obtain⟨⟨s',q⟩,hsh⟩:∃ r,shiftS s n=r:=⟨_,rfl⟩;have hoo:=sh_o hsh;obtain⟨D,hD⟩:∃ F,cellsB s.o=F:=⟨_,rfl⟩;obtain⟨dn,hdn⟩:∃ m,m=ilen s.o:=⟨_,rfl⟩;have hD':cellsB s'.o=D:=by rw[hoo];exact hD
   have hdn':dn=ilen s'.o:=by rw[hoo];exact hdn
   have hmk:=qdg s hD hdn;have hms:=mix_set hy hsh;cases q with
   | true=>
    have k4:∀ r,r=x+1->∀ (j:Nat) (t:St),j<r.toNat->ss[j]?=some t->(shiftS t n).2=true:=λr hr j t hj ht=>by
     rcases Nat.lt_or_ge j x.toNat with h|h
     ·exact k3 j t h ht
     ·have:j=x.toNat:=by omega
      subst this;rw[hy] at ht;cases ht;rw[hsh]
    obtain⟨id,sst,sse,sre,sow,an,en,o,ur,ic,sl⟩:=s;obtain⟨id',sst',sse',sre',sow',an',en',o',ur',ic',sl'⟩:=s';dsimp only at hD hdn hD' hdn'
    repeat' (first|(refine s_ck hS ?_;try cbv)|(refine qac hS ?_ ?_<;>intro h<;>(try cbv)<;>try exact s_ab h)|(refine s_ad hS ?_;intro _ _;try cbv)|(refine qal hS (enc:=stC) (l:=mixS ss n x.toNat) k2 hyx (λ_=>rfl) k0 (by omega) hmk ?_;cbv)|(refine qnt hS rfl I.qem (by decide +kernel) ?_;cbv;refine⟨?_,?_⟩<;>cbv)|(refine qzamw hS ⟨id,sst,sse,sre,sow,an,en,o,ur,ic,sl⟩ (s':=⟨id',sst',sse',sre',sow',an',en',o',ur',ic',sl'⟩) ok hb hD hdn hsh hD' hdn' ?_;cbv)|(refine qag hS rfl I.qjd (by decide +kernel) ?_;cbv)|(refine qzaqy hS (ss:=mixS ss n x.toNat) (s':=⟨id',sst',sse',sre',sow',an',en',o',ur',ic',sl'⟩) k2 k0 hxl hD' hdn' rfl ?_;intro F2 hF2;cbv)|fail)
    all_goals first
     | (exfalso;omega)
     | (rename_i r e;exact⟨(r,F2),by dsimp only;omega,⟨by dsimp only;omega,by dsimp only;omega,by dsimp only;rw[e,show (x+1).toNat=x.toNat+1 by omega,<-hms];exact hF2,k4 r e⟩,rfl,by cbv;exact s_qA,by cbv;exact s_qA,by cbv⟩)
   | false=>
    obtain⟨id,sst,sse,sre,sow,an,en,o,ur,ic,sl⟩:=s;obtain⟨id',sst',sse',sre',sow',an',en',o',ur',ic',sl'⟩:=s';dsimp only at hD hdn hD' hdn'
    repeat' (first|(refine s_ck hS ?_;try cbv)|(refine qac hS ?_ ?_<;>intro h<;>(try cbv)<;>try exact s_ab h)|(refine qal hS (enc:=stC) (l:=mixS ss n x.toNat) k2 hyx (λ_=>rfl) k0 (by omega) hmk ?_;cbv)|(refine qnt hS rfl I.qem (by decide +kernel) ?_;cbv;refine⟨?_,?_⟩<;>cbv)|(refine qzamw hS ⟨id,sst,sse,sre,sow,an,en,o,ur,ic,sl⟩ (s':=⟨id',sst',sse',sre',sow',an',en',o',ur',ic',sl'⟩) ok hb hD hdn hsh hD' hdn' ?_;cbv)|(refine qkk hS (H:=H) hn ?_;intro st;cbv)|fail)
    all_goals first
     | (exfalso;omega)
     | (intro g;refine .tp ?_;repeat' (first|exact .nil|refine .cons ?_ ?_|refine .ag ?_|exact .sub .rfl rfl|exact qdn f1 f2 rfl g|exact qbz f4 f5 rfl g|exact .sub (qao rfl) rfl))
  ·exfalso
   have:(ss.all λs=>(shiftS s n).2)=true:=List.all_eq_true.2 λt ht=>by
    obtain⟨j,hj⟩:=List.getElem?_of_mem ht;refine k3 j t ?_ hj
    have:=(List.getElem?_eq_some_iff.1 hj).1
    unfold ilen at hns;omega
   rw[hall] at this;cases this
end Wr
end Cz
namespace Cz
open Go Go.RowKit Go.Proofs
namespace Wr
section
variable {P:Program}{S:Sy}{l:List Blk}
theorem s_setr {g:FuncId}{args:List SV}{K:SV->List Blk->Prop}(hS:S0 P=S) (k:Nat) {lit:Bool}{st:Z}{sz:Nat}{F F':List SV}(h:lget l k=.r false lit st sz F) (hs:FSub F F') (hp:plains F'=true) (hK:S.call g args (lset l k (.r false false st sz F')) K):S.call g args l K:=
 s_less hS (qzanp h (.r hs rfl hp)) hK
theorem s_setv (hS:S0 P=S) {ss:List St}{F ws:List SV}{i:Int}{s':St}{D:List SV}{dn:Int}{K:List SV->Prop}(hF:cellsS ss=F) (h0:0<=i) (hi:i<ilen ss) (hD:cellsB s'.o=D) (hdn:dn=ilen s'.o) (hws:SubL ws (stK s' D dn)) (hl:ws.length=11) (hp:plains ws=true)
  (h:∀ F2 F',FSub F2 F'->cellsS (ss.set i.toNat s')=F'->K F2):S.wr F i 11 0 ws K:=by
 have hi2:i.toNat<ss.length:=by unfold ilen at hi;omega
 have e:stC s'=stK s' D dn:=by subst hD hdn;rfl
 have hl2:=qcq ss;rw[hF] at hl2;refine s_wr hS h0 (by rw[hl2];have:=Nat.mul_le_mul_right 11 hi2;omega) (by omega) hp ?_;rw[Nat.add_zero];refine h _ _ ?_ rfl;rw[<-qzaqx ss hi2,hF,qwo _ _ _ (by rw[hl2,hl];have:=Nat.mul_le_mul_right 11 hi2;omega),qwo _ _ _ (by rw[hl2];show _+11<=_;have:=Nat.mul_le_mul_right 11 hi2;omega),hl];exact qzafe (qzafe .rfl (by rw[e];exact qyb hws)) .rfl
end
def laidX (ss:List St) (i:Nat) (s0 s:St):List St:=if livB s.st=true then ss.set i (laidS s0 s) else ss.eraseIdx i++[zeroS]
theorem laid_x (ss:List St) (i:Nat) (s0 s:St):∃ ex,laidX ss i s0 s=laidI ss i s0 s++ex:=by
 unfold laidX laidI;split
 ·exact⟨[],by simp⟩
 ·exact⟨[zeroS],rfl⟩
section
variable {S:Sy}{l:List Blk}{K:SV->List Blk->Prop}
theorem del_u (hS:S0 Tryz.prog=S) (k:Nat) {lit:Bool}{st:Z}{ss:List St}{i j n:Int}{F F':List SV}(h1:lget l k=.r false lit st 11 F) (hz:st.v=0) (hF:cellsS ss=F) (hn:n=ilen ss) (h8:n<=1000) (h0:0<=i) (hi:i<n) (hj:j=i+1) (hF':cellsS (ss.eraseIdx i.toNat++[zeroS])=F')
  (hK:K (.sl k 11 (.l 0) (.y (n-1)) none) (lays (fOf [k]) 1 0 [.r false false (.y 0) 11 F'] l)):S.call 141 [.sl k 11 (.l 0) (.y n) none,.i .i64 (.y i),.i .i64 (.y j)] l K:=by
 refine quk hS [k] (del_f hF hn h8 h0 hi hj hF') rfl rfl (.cons .rfl (.cons .rfl (.cons .rfl .nil))) ⟨?_,trivial⟩ rfl λsts=>hK;show BUp 1 (fOf [k]) (lget l k) _;rw[h1];exact .r .rfl (hF▸qak _) hz
end
section
variable {ss:List St}{off no tm:Int}{Fr:List SV}{nr:Int}{Fz:List SV}{nz se re ow:Int}{Fs Fs':List SV}{ns ns' w:Int}{H:Nat->Int}{sh:Bool}{st1:Int}{Fo D:List SV}{dn:Int}
theorem lay_f {i:Int}{s0 s:St}(hF:cellsS ss=Fs) (hn:ns=ilen ss) (h8:ns<=1000) (h0:0<=i) (hi:i<ns) (hs0:ss[i.toNat]?=some s0) (ok:StOk s) (ok0:StOk s0) (hD:cellsB s.o=D) (hdn:dn=ilen s.o) (hF':cellsS (laidX ss i.toNat s0 s)=Fs') (hn':ns'=ilen (laidI ss i.toNat s0 s)) (hfo:plains Fo=true):
  (S0 Tryz.prog).call 78 [.p 0 0,.i .i64 (.y i),.ag (stK s D dn)] [.c (bxK 1 2 off no tm Fr nr Fz nz se re ow ns w H sh),.r false false (.y st1) 7 Fo,.r false false (.y 0) 11 Fs]
   (PostB 3 (λ_ g=>[.c (bxK (g 1) (g 2) off no tm Fr nr Fz nz se re ow ns' w H sh),.r false false (.y st1) 7 Fo,.r false false (.y 0) 11 Fs']) (λ_=>.any)):=by
 have hfs':plains Fs'=true:=hF'▸qak _;obtain⟨a,ha⟩:∃ a,ansB s.st=a:=⟨_,rfl⟩;obtain⟨b,hl⟩:∃ b,livB s.st=b:=⟨_,rfl⟩;have hst:=ok.st;unfold laidX at hF';unfold laidI at hn';rw[hl] at hF' hn';have hls:laidS s0 s={ s with sl:=if a=true then s0.sl else -1 }:=by unfold laidS;rw[ha]
 rw[hls] at hF' hn';clear hls;have ok':=ok;obtain⟨id,sst,sse,sre,sow,an,en,o,ur,ic,sl⟩:=s;obtain⟨id0,st0,se0,re0,ow0,an0,en0,o0,ur0,ic0,sl0⟩:=s0;dsimp only at *;unfold bxK;generalize hS:S0 Tryz.prog=S;refine qaa hS I.qzasp ?_;cbv;cases a with
 | true=>
  cases b with
  | true=>
   rw[if_pos rfl] at hF' hn';rw[if_pos rfl] at hF' hn';have hlen:ns=ns':=by rw[hn',hn];unfold ilen;rw[List.length_set]
   repeat' (first|(refine s_ck hS ?_;try cbv)|(refine qac hS ?_ ?_<;>intro h<;>(try cbv)<;>try exact s_ab h)|(refine qeq hS ⟨id,sst,sse,sre,sow,an,en,o,ur,ic,sl⟩ ok' hD hdn ?_;cbv)|(refine qfx hS (enc:=stC) (l:=ss) hF hs0 rfl (λ_=>rfl) (by omega) (by omega) rfl ?_;cbv)|(refine qcd hS true hst ha ?_;cbv)|(refine qag hS rfl I.qfb (by decide +kernel) ?_;cbv)|(refine qzaqy hS (ss:=ss) (s':=⟨id,sst,sse,sre,sow,an,en,o,ur,ic,sl0⟩) hF h0 (by omega) hD hdn rfl ?_;intro F2 hF2;cbv)|(refine qzale hS true hst hl ?_;cbv)|fail)
   all_goals (try (obtain rfl:F2=Fs':=hF2.symm.trans hF'))
   all_goals first
    | (exfalso;omega)
    | (refine⟨[some 0,some 1,some 2],λ_=>0,first3,λg=>⟨⟨⟨_,rfl,rfl,.c ?_⟩,rfl,⟨_,rfl,rfl,.r .rfl hfo rfl⟩,rfl,⟨_,rfl,rfl,.r .rfl hfs' rfl⟩,rfl,trivial⟩,.sub qlm rfl⟩⟩;repeat' (first|exact .nil|refine .cons ?_ ?_|exact .keep (i:=1) rfl rfl rfl|exact .keep (i:=2) rfl rfl rfl|exact .keep (i:=2) rfl rfl hlen|exact .sub .rfl rfl))
  | false=>
   rw[if_neg (by exact Bool.false_ne_true)] at hF' hn';have hil:i.toNat<ss.length:=by unfold ilen at hn;omega
   have hlen:ns-1=ns':=by rw[hn',hn];unfold ilen;rw[List.length_eraseIdx_of_lt hil];omega
   have hn2:ns=ilen (ss.set i.toNat ⟨id,sst,sse,sre,sow,an,en,o,ur,ic,sl0⟩):=by rw[hn];unfold ilen;rw[List.length_set]
   have hF2':cellsS ((ss.set i.toNat ⟨id,sst,sse,sre,sow,an,en,o,ur,ic,sl0⟩).eraseIdx i.toNat++[zeroS])=Fs':=by rw[List.eraseIdx_set_eq];exact hF'
   repeat' (first|(refine s_ck hS ?_;try cbv)|(refine qac hS ?_ ?_<;>intro h<;>(try cbv)<;>try exact s_ab h)|(refine s_ad hS ?_;intro _ _;try cbv)|(refine qeq hS ⟨id,sst,sse,sre,sow,an,en,o,ur,ic,sl⟩ ok' hD hdn ?_;cbv)|(refine qfx hS (enc:=stC) (l:=ss) hF hs0 rfl (λ_=>rfl) (by omega) (by omega) rfl ?_;cbv)|(refine qcd hS true hst ha ?_;cbv)|(refine qag hS rfl I.qfb (by decide +kernel) ?_;cbv)|(refine qzaqy hS (ss:=ss) (s':=⟨id,sst,sse,sre,sow,an,en,o,ur,ic,sl0⟩) hF h0 (by omega) hD hdn rfl ?_;intro F2 hF2;cbv)|(refine qzale hS false hst hl ?_;cbv)|(refine del_u hS 2 rfl rfl hF2 hn2 h8 h0 hi (by omega) hF2' ?_;cbv)|fail)
   all_goals first
    | (exfalso;omega)
    | (refine⟨[some 0,some 1,some 2],λ_=>0,first3,λg=>⟨⟨⟨_,rfl,rfl,.c ?_⟩,rfl,⟨_,rfl,rfl,.r .rfl hfo rfl⟩,rfl,⟨_,rfl,rfl,.r .rfl hfs' rfl⟩,rfl,trivial⟩,.sub qlm rfl⟩⟩;repeat' (first|exact .nil|refine .cons ?_ ?_|exact .keep (i:=1) rfl rfl rfl|exact .keep (i:=2) rfl rfl rfl|exact .keep (i:=2) rfl rfl hlen|exact .sub .rfl rfl))
 | false=>
  cases b with
  | true=>
   rw[if_pos rfl] at hF' hn';rw[if_neg (by exact Bool.false_ne_true)] at hF' hn';have hlen:ns=ns':=by rw[hn',hn];unfold ilen;rw[List.length_set]
   repeat' (first|(refine s_ck hS ?_;try cbv)|(refine qac hS ?_ ?_<;>intro h<;>(try cbv)<;>try exact s_ab h)|(refine qeq hS ⟨id,sst,sse,sre,sow,an,en,o,ur,ic,sl⟩ ok' hD hdn ?_;cbv)|(refine qfx hS (enc:=stC) (l:=ss) hF hs0 rfl (λ_=>rfl) (by omega) (by omega) rfl ?_;cbv)|(refine qcd hS false hst ha ?_;cbv)|(refine qag hS rfl I.qfb (by decide +kernel) ?_;cbv)|(refine s_setv hS (ss:=ss) (s':=⟨id,sst,sse,sre,sow,an,en,o,ur,ic,-1⟩) hF h0 (by omega) hD hdn (.cons .rfl (.cons .rfl (.cons .rfl (.cons .rfl (.cons .rfl (.cons .rfl (.cons .rfl (.cons .rfl (.cons .rfl (.cons .rfl (.cons (qau rfl) .nil))))))))))) rfl rfl ?_;intro F3 F2 hF3 hF2;cbv)|(refine s_setr hS 2 rfl hF3 (hF2▸qak _) ?_;refine qzale hS true hst hl ?_;cbv)|fail)
   all_goals (try (obtain rfl:F2=Fs':=hF2.symm.trans hF'))
   all_goals first
    | (exfalso;omega)
    | (refine⟨[some 0,some 1,some 2],λ_=>0,first3,λg=>⟨⟨⟨_,rfl,rfl,.c ?_⟩,rfl,⟨_,rfl,rfl,.r .rfl hfo rfl⟩,rfl,⟨_,rfl,rfl,.r .rfl hfs' rfl⟩,rfl,trivial⟩,.sub qlm rfl⟩⟩;repeat' (first|exact .nil|refine .cons ?_ ?_|exact .keep (i:=1) rfl rfl rfl|exact .keep (i:=2) rfl rfl rfl|exact .keep (i:=2) rfl rfl hlen|exact .sub .rfl rfl))
  | false=>
   rw[if_neg (by exact Bool.false_ne_true)] at hF' hn';have hil:i.toNat<ss.length:=by unfold ilen at hn;omega
   have hlen:ns-1=ns':=by rw[hn',hn];unfold ilen;rw[List.length_eraseIdx_of_lt hil];omega
   have hn2:ns=ilen (ss.set i.toNat ⟨id,sst,sse,sre,sow,an,en,o,ur,ic,-1⟩):=by rw[hn];unfold ilen;rw[List.length_set]
   have hF2':cellsS ((ss.set i.toNat ⟨id,sst,sse,sre,sow,an,en,o,ur,ic,-1⟩).eraseIdx i.toNat++[zeroS])=Fs':=by rw[List.eraseIdx_set_eq];exact hF'
   repeat' (first|(refine s_ck hS ?_;try cbv)|(refine qac hS ?_ ?_<;>intro h<;>(try cbv)<;>try exact s_ab h)|(refine s_ad hS ?_;intro _ _;try cbv)|(refine qeq hS ⟨id,sst,sse,sre,sow,an,en,o,ur,ic,sl⟩ ok' hD hdn ?_;cbv)|(refine qfx hS (enc:=stC) (l:=ss) hF hs0 rfl (λ_=>rfl) (by omega) (by omega) rfl ?_;cbv)|(refine qcd hS false hst ha ?_;cbv)|(refine qag hS rfl I.qfb (by decide +kernel) ?_;cbv)|(refine s_setv hS (ss:=ss) (s':=⟨id,sst,sse,sre,sow,an,en,o,ur,ic,-1⟩) hF h0 (by omega) hD hdn (.cons .rfl (.cons .rfl (.cons .rfl (.cons .rfl (.cons .rfl (.cons .rfl (.cons .rfl (.cons .rfl (.cons .rfl (.cons .rfl (.cons (qau rfl) .nil))))))))))) rfl rfl ?_;intro F3 F2 hF3 hF2;cbv)|(refine s_setr hS 2 rfl hF3 (hF2▸qak _) ?_;refine qzale hS false hst hl ?_;cbv)|(refine del_u hS 2 rfl rfl hF2 hn2 h8 h0 hi (by omega) hF2' ?_;cbv)|fail)
   all_goals first
    | (exfalso;omega)
    | (refine⟨[some 0,some 1,some 2],λ_=>0,first3,λg=>⟨⟨⟨_,rfl,rfl,.c ?_⟩,rfl,⟨_,rfl,rfl,.r .rfl hfo rfl⟩,rfl,⟨_,rfl,rfl,.r .rfl hfs' rfl⟩,rfl,trivial⟩,.sub qlm rfl⟩⟩;repeat' (first|exact .nil|refine .cons ?_ ?_|exact .keep (i:=1) rfl rfl rfl|exact .keep (i:=2) rfl rfl rfl|exact .keep (i:=2) rfl rfl hlen|exact .sub .rfl rfl))
end
end Wr
end Cz
namespace Cz
open Go Go.RowKit Go.Proofs
namespace Wr
section
variable {P:Program}{S:Sy}{l:List Blk}
theorem use_keptF {S:Sy}(hS:S0 P=S) (fs:List Nat) {Z:(Nat->Int)->Prop}{g:FuncId}{args args':List SV}{rows:List (Nat×List SV)}{y:Nat->SV}{K:SV->List Blk->Prop}(hF:(S0 P).call g args' [] (KeptZ Z rows y)) (ha:FzL l id (others fs (len l)) args args')
  (hr:refsBL (λ_=>false) args'=true) (hg:goodRows rows) (hK:∀ sts,Z sts->K (y (len l)) (snocs (frzL fs 0 l) (rowBs sts rows 0))):S.call g args l K:=by
 subst hS;refine call_frz fs (by rw[<-qbs];exact ha) hr (qzace hF hr hg λsts hz=>?_)
 have:=hK sts hz
 rwa[qno,qbs,<-qyc (fs:=fs) (i:=0)] at this
end
theorem qzagl:∀ {F:List SV}{n:Nat},plains F=true->plains (F.drop n)=true
 | [],n,h=>by rw[List.drop_nil];exact h
 | _::_,0,h=>h
 | _::F,n+1,h=>by
  simp only[plains,Bool.and_eq_true] at h;exact qzagl (F:=F) h.2
theorem qzagj:∀ {F:List SV}{n:Nat},plains F=true->plains (F.take n)=true
 | [],n,h=>by rw[List.take_nil];exact h
 | _::_,0,h=>rfl
 | _::F,n+1,h=>by
  simp only[plains,Bool.and_eq_true] at h;simp only[List.take_succ_cons,plains,Bool.and_eq_true];exact⟨h.1,qzagj (F:=F) h.2⟩
section
variable {Fo:List SV}{no tm:Int}{Fr:List SV}{nr:Int}{Fz:List SV}{nz se re ow:Int}{Fs:List SV}{ns w:Int}{H:Nat->Int}{sh:Bool}{ss:List St}
theorem at_f {id r:Int}(hF:cellsS ss=Fs) (hn:ns=ilen ss) (hb:ns<=100000000) (hr:plR ss id=r):
  (S0 Tryz.prog).call 72 [.ag (lnK Fo no tm Fr nr Fz nz se re ow Fs ns w H sh),.i .i64 (.y id)] [] (λx _=>Sub x (.i .i64 (.y r))):=by
 have hn0:=qaj ss;rw[<-hn] at hn0;unfold lnK;generalize hS:S0 Tryz.prog=S;refine qaa hS I.qzawc ?_;cbv
 repeat' (first|(refine qaa hS I.qaz ?_;cbv)|fail)
 refine qad hS 2 I.qaw (λx:Int=>0<=x/\x<=ns/\∀ (j:Nat) (t:St),j<x.toNat->ss[j]?=some t->t.id≠id) (λx=>[(8,.i .i64 (.y x))]) (λ_=>[]) (λx=>(ns-x).toNat) 0 rfl ⟨⟨Int.le_refl _,hn0,λj t hj=>by omega⟩,rfl,?_,?_,by cbv⟩ ?_
 ·cbv;exact s_qA
 ·cbv;exact s_qA
 intro x hx;cbv;obtain⟨g0,g1,g2⟩:=hx;refine s_br hS ?_ ?_<;>intro h'<;>cbv<;>simp only[<-hS,Int.ofNat_eq_natCast,cq,Bool.not_eq_true',Bool.not_eq_false',decide_eq_true_eq,decide_eq_false_iff_not,beq_iff_eq,beq_eq_false_iff_ne,ne_eq] at h'
 ·obtain⟨⟨sid,st,se,re,ow,an,en,o,ur,ic,sv⟩,hy⟩:=qbi (l:=ss) (i:=x) (by omega) g0
  repeat' (first|(refine s_ck hS ?_;try cbv)|(refine qac hS ?_ ?_<;>intro h<;>(try cbv)<;>try exact s_ab h)|(refine s_ad hS ?_;intro _ _;try cbv)|(refine qal hS (enc:=stC) (l:=ss) hF hy (λ_=>rfl) g0 (by omega) rfl ?_;cbv)|(refine qaa hS I.qzaol ?_;cbv)|fail)
  ·have h3:=qzang hy h (λj t hj ht=>g2 j t (by omega) ht)
   unfold plR at hr;rw[h3] at hr;refine qau ?_;simp only[Z.v];rw[<-hr];simp only[Int.ofNat_eq_natCast];omega
  ·rename_i r1 e1
   refine⟨r1,by omega,⟨by omega,by omega,λj t hj ht=>?_⟩,rfl,by cbv;exact s_qA,by cbv;exact s_qA,by cbv⟩;by_cases e:j=x.toNat
   ·subst e
    rw[hy] at ht;cases ht;exact h
   ·exact g2 j t (by omega) ht
 ·skip
  have h3:plI ss id=none:=pl_none λj t ht=>g2 j t (by have:=(List.getElem?_eq_some_iff.1 ht).1;unfold ilen at hn;omega) ht;unfold plR at hr;rw[h3] at hr;exact qau hr
end
end Wr
end Cz
