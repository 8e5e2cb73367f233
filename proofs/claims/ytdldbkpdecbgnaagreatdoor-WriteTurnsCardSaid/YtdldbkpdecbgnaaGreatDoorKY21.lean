/- What the claims of this group lean on: WrK WrL WrM. No condition. -/
import Derived.Test.YtdldbkpdecbgnaaGreatDoorKY20
set_option linter.unusedSimpArgs false
set_option linter.unusedVariables false
set_option maxRecDepth 100000
set_option maxHeartbeats 4000000
namespace Cz
open Go Go.RowKit Go.Proofs
namespace Wr
def sendB (s:St) (all:Int):Bool:=s.an&&ansB s.st&&(if 0<ilen s.o then decide (0<canI s.se)&&decide (0<canI all) else s.en)
theorem sendable_f {s:St}{all:Int}{t:Bool}(ok:StOk s) (ha:Big all) (ht:sendB s all=t):(S0 Tryz.prog).call 106 [.ag (stC s),.i .i64 (.y all)] [] (λx _=>Sub x (.b t)):=by
 obtain⟨id,st,se,re,ow,an,en,o,ur,ic,sl⟩:=s;obtain⟨k1,k2,k3,k4,k5,k6,k7,k8,k9⟩:=ok;unfold sendB at ht;dsimp only at *;obtain⟨F,hF⟩:∃ F,cellsB o=F:=⟨_,rfl⟩;obtain⟨n,hn⟩:∃ n,n=ilen o:=⟨_,rfl⟩;have hn0:=qaj o;obtain⟨a,haa⟩:∃ a,ansB st=a:=⟨_,rfl⟩;obtain⟨p,hp⟩:∃ a,canI se=a:=⟨_,rfl⟩;obtain⟨q,hq⟩:∃ a,canI all=a:=⟨_,rfl⟩;unfold stC;dsimp only;rw[<-hn] at hn0 k7 ht;rw[haa,hp,hq] at ht;rw[hF,<-hn];generalize hS:S0 Tryz.prog=S;refine qaa hS I.qzaak ?_;cbv
 repeat' (first|(refine qac hS ?_ ?_<;>intro h<;>(try cbv)<;>try exact s_ab h)|(refine qcd hS a k2 haa ?_;cbv)|(refine can_u hS p k3 hp ?_;cbv)|(refine can_u hS q ha hq ?_;cbv)|fail)
 all_goals subst ht
 all_goals clear hn hF haa hp hq
 all_goals first
  | (refine qao ?_;simp [*];done)
  | (refine qgc ?_;subst hS;simp only[cmp_gt];simp [*];done)
  | (refine qgc ?_;simp [*];done)
def stK (s:St) (F:List SV) (n:Int):List SV:=[.i .i64 (.y s.id),.i .u8 (.y s.st),.i .i64 (.y s.se),.i .i64 (.y s.re),.i .i64 (.y s.ow),.b s.an,.b s.en,.v false 1 F (.y n),.i .u8 (.y s.ur),.b s.ic,.i .i64 (.y s.sl)]
section
variable {S:Sy}{l:List Blk}{K:SV->List Blk->Prop}{F:List SV}{n:Int}
theorem qeq (hS:S0 Tryz.prog=S) (s:St) (ok:StOk s) (hF:cellsB s.o=F) (hn:n=ilen s.o) (h:K (.ag (stK s F n)) l):S.call 60 [.ag (stK s F n)] l K:=by
 subst hF hn;exact sown_u hS ok h
theorem qci (hS:S0 Tryz.prog=S) (s:St) (t:Bool) (ok:StOk s) (hF:cellsB s.o=F) (hn:n=ilen s.o) (ht:stB s=t) (h:K (.b t) l):S.call 58 [.ag (stK s F n)] l K:=by
 subst hF hn;exact sright_u hS t ok ht h
theorem qcl (hS:S0 Tryz.prog=S) (s:St) {all:Int}(t:Bool) (ok:StOk s) (ha:Big all) (hF:cellsB s.o=F) (hn:n=ilen s.o) (ht:sendB s all=t) (h:K (.b t) l):S.call 106 [.ag (stK s F n),.i .i64 (.y all)] l K:=by
 subst hF hn hS;exact qai (qae (sendable_f ok ha ht) λx _ hx=>⟨_,hx,.rfl⟩) rfl rfl h
end
def overS (s:St) (x:Int):St:=if stB s=true/\x<7/\x≠0 then (if ansB x=true then { s with st:=x } else { s with st:=x,o:=[],en:=false,sl:=-1 }) else s
theorem over_f {s s':St}{x:Int}(ok:StOk s) (hx:0<=x/\x<=255) (hs:overS s x=s'):(S0 Tryz.prog).call 104 [.ag (stC s),.i .u8 (.y x)] [] (Tell (.ag (stC s'))):=by
 obtain⟨t,ht⟩:∃ t,stB s=t:=⟨_,rfl⟩;obtain⟨a,haa⟩:∃ a,ansB x=a:=⟨_,rfl⟩;obtain⟨F,hF⟩:∃ F,cellsB s.o=F:=⟨_,rfl⟩;obtain⟨n,hn⟩:∃ n,n=ilen s.o:=⟨_,rfl⟩;have e1:stC s=stK s F n:=by subst hF hn;rfl
 unfold overS at hs;rw[ht,haa] at hs;rw[e1];by_cases hc:t=true/\x<7/\x≠0
 ·rw[if_pos hc] at hs
  obtain⟨ht1,hx1,hx2⟩:=hc;subst ht1;cases a with
  | true=>
   rw[if_pos rfl] at hs;have e2:stC s'=stK s' F n:=by subst hs hF hn;rfl
   rw[e2];subst hs;obtain⟨id,st,se,re,ow,an,en,o,ur,ic,sl⟩:=s;unfold stK;dsimp only at *;generalize hS:S0 Tryz.prog=S;refine qaa hS I.qlz ?_;cbv
   repeat' (first|(refine qac hS ?_ ?_<;>intro h<;>(try cbv)<;>try exact s_ab h)|(refine qeq hS ⟨id,st,se,re,ow,an,en,o,ur,ic,sl⟩ ok hF hn ?_;cbv)|(refine qci hS ⟨id,st,se,re,ow,an,en,o,ur,ic,sl⟩ true ok hF hn ht ?_;cbv)|(refine qcd hS true hx haa ?_;cbv)|fail)
   exact λg=>.sub .rfl rfl
  | false=>
   rw[if_neg (by decide)] at hs;subst hs;obtain⟨id,st,se,re,ow,an,en,o,ur,ic,sl⟩:=s;unfold stK stC;dsimp only at *;rw[show cellsB []=[] from rfl];generalize hS:S0 Tryz.prog=S;refine qaa hS I.qlz ?_;cbv
   repeat' (first|(refine qac hS ?_ ?_<;>intro h<;>(try cbv)<;>try exact s_ab h)|(refine qeq hS ⟨id,st,se,re,ow,an,en,o,ur,ic,sl⟩ ok hF hn ?_;cbv)|(refine qci hS ⟨id,st,se,re,ow,an,en,o,ur,ic,sl⟩ true ok hF hn ht ?_;cbv)|(refine qcd hS false hx haa ?_;cbv)|fail)
   exact λg=>.ag (.cons (.sub .rfl rfl) (.cons (.sub .rfl rfl) (.cons (.sub .rfl rfl) (.cons (.sub .rfl rfl) (.cons (.sub .rfl rfl) (.cons (.sub .rfl rfl) (.cons (.sub (qao rfl) rfl) (.cons (.nil (by decide) rfl) (.cons (.sub .rfl rfl) (.cons (.sub .rfl rfl) (.cons (.sub (qau rfl) rfl) .nil)))))))))))
 ·rw[if_neg hc] at hs
  subst hs;rw[e1];obtain⟨id,st,se,re,ow,an,en,o,ur,ic,sl⟩:=s;unfold stK;dsimp only at *;generalize hS:S0 Tryz.prog=S;refine qaa hS I.qlz ?_;cbv
  repeat' (first|(refine qac hS ?_ ?_<;>intro h<;>(try cbv)<;>try exact s_ab h)|(refine qeq hS ⟨id,st,se,re,ow,an,en,o,ur,ic,sl⟩ ok hF hn ?_;cbv)|(refine qci hS ⟨id,st,se,re,ow,an,en,o,ur,ic,sl⟩ t ok hF hn ht ?_;cbv)|(refine qcd hS a hx haa ?_;cbv)|fail)
  all_goals first
   | (exfalso;exact hc ⟨by assumption,by omega,by assumption⟩)
   | exact λg=>.sub .rfl rfl
def backS (s:St):St×Int:=if stB s=true then (if s.st=1∨s.st=3 then ({ s with ow:=0,re:=min (s.re+s.ow) 2147483647 },s.ow) else ({ s with ow:=0 },0)) else (s,0)
theorem back_f {s s':St}{k:Int}(ok:StOk s) (hs:backS s=(s',k)):(S0 Tryz.prog).call 155 [.ag (stC s)] [] (Tell (.tp [.ag (stC s'),.i .i64 (.y k)])):=by
 obtain⟨t,ht⟩:∃ t,stB s=t:=⟨_,rfl⟩;obtain⟨F,hF⟩:∃ F,cellsB s.o=F:=⟨_,rfl⟩;obtain⟨n,hn⟩:∃ n,n=ilen s.o:=⟨_,rfl⟩;have e1:stC s=stK s F n:=by subst hF hn;rfl
 have e2:stC s'=stK s' F n:=by
  unfold backS at hs;split at hs
  ·split at hs
   ·cases hs;subst hF hn;rfl
   ·cases hs;subst hF hn;rfl
  ·cases hs;exact e1
 rw[e1,e2];unfold backS at hs;rw[ht] at hs;obtain⟨id,st,se,re,ow,an,en,o,ur,ic,sl⟩:=s;cases t with
 | false=>
  rw[if_neg (by decide)] at hs;cases hs;unfold stK;dsimp only at *;generalize hS:S0 Tryz.prog=S;refine qaa hS I.qma ?_;cbv
  repeat' (first|(refine qac hS ?_ ?_<;>intro h<;>(try cbv)<;>try exact s_ab h)|(refine qeq hS ⟨id,st,se,re,ow,an,en,o,ur,ic,sl⟩ ok hF hn ?_;cbv)|(refine qci hS ⟨id,st,se,re,ow,an,en,o,ur,ic,sl⟩ false ok hF hn ht ?_;cbv)|fail)
  exact λg=>.tp (.cons (.sub .rfl rfl) (.cons (.sub (qau rfl) rfl) .nil))
 | true=>
  have hb:=of_decide_eq_true ht;dsimp only at hb hs;rw[if_pos rfl] at hs;by_cases hc:st=1∨st=3
  ·rw[if_pos hc] at hs
   obtain⟨hs1,hs2⟩:=Prod.mk.inj hs;subst hs1;subst hs2;unfold stK;dsimp only at *;obtain⟨r,hr⟩:∃ r,min (re+ow) 2147483647=r:=⟨_,rfl⟩;rw[hr];generalize hS:S0 Tryz.prog=S;refine qaa hS I.qma ?_;cbv
   repeat' (first|(refine qac hS ?_ ?_<;>intro h<;>(try cbv)<;>try exact s_ab h)|(refine s_ad hS ?_;intro _ _;try cbv)|(refine qeq hS ⟨id,st,se,re,ow,an,en,o,ur,ic,sl⟩ ok hF hn ?_;cbv)|(refine qci hS ⟨id,st,se,re,ow,an,en,o,ur,ic,sl⟩ true ok hF hn ht ?_;cbv)|(refine s_mn hS ?_;intro _ _;cbv)|fail)
   all_goals first
    | (exfalso;omega)
    | exact λg=>.tp (.cons (.sub s_qA rfl) (.cons (.sub s_qA rfl) .nil))
  ·rw[if_neg hc] at hs
   cases hs;unfold stK;dsimp only at *;generalize hS:S0 Tryz.prog=S;refine qaa hS I.qma ?_;cbv
   repeat' (first|(refine qac hS ?_ ?_<;>intro h<;>(try cbv)<;>try exact s_ab h)|(refine qeq hS ⟨id,st,se,re,ow,an,en,o,ur,ic,sl⟩ ok hF hn ?_;cbv)|(refine qci hS ⟨id,st,se,re,ow,an,en,o,ur,ic,sl⟩ true ok hF hn ht ?_;cbv)|fail)
   all_goals first
    | (exfalso;omega)
    | exact λg=>.tp (.cons (.sub s_qA rfl) (.cons (.sub s_qA rfl) .nil))
section
variable {S:Sy}{l:List Blk}{K:SV->List Blk->Prop}{F:List SV}{n:Int}
theorem over_w (hS:S0 Tryz.prog=S) (s:St) {s':St}{x:Int}{F':List SV}{n':Int}(ok:StOk s) (hx:0<=x/\x<=255) (hF:cellsB s.o=F) (hn:n=ilen s.o) (hs:overS s x=s') (hF':cellsB s'.o=F') (hn':n'=ilen s'.o) (h:K (.ag (stK s' F' n')) l):S.call 104 [.ag (stK s F n),.i .u8 (.y x)] l K:=by
 subst hF hn hF' hn';exact qaq hS (over_f ok hx hs) (.cons .rfl (.cons .rfl .nil)) rfl h
theorem back_w (hS:S0 Tryz.prog=S) (s:St) {s':St}{k:Int}{F':List SV}{n':Int}(ok:StOk s) (hF:cellsB s.o=F) (hn:n=ilen s.o) (hs:backS s=(s',k)) (hF':cellsB s'.o=F') (hn':n'=ilen s'.o) (h:K (.tp [.ag (stK s' F' n'),.i .i64 (.y k)]) l):S.call 155 [.ag (stK s F n)] l K:=by
 subst hF hn hF' hn';exact qaq hS (back_f ok hs) (.cons .rfl .nil) rfl h
end
end Wr
end Cz
namespace Cz
open Go Go.RowKit Go.Proofs
namespace Wr
section
variable {S:Sy}{l:List Blk}{K:SV->List Blk->Prop}{F:List SV}{n:Int}
theorem shift_u (hS:S0 Tryz.prog=S) {w b:Int}(r:Int) (t:Bool) (hw:Big w) (hb:Big b) (hr:movI w b (wB b)=(r,t)) (h:K (.tp [.i .i64 (.y r),.b t]) l):S.call 134 [.i .i64 (.y w),.i .i64 (.y b)] l K:=by
 subst hS;exact qai (qae (shift_f hw hb hr) λx _ hx=>⟨_,hx,.rfl⟩) rfl rfl h
theorem give_u (hS:S0 Tryz.prog=S) {w b:Int}(r:Int) (t:Bool) (hw:Big w) (hb:Big b) (hr:movI w b (givB b)=(r,t)) (h:K (.tp [.i .i64 (.y r),.b t]) l):S.call 67 [.i .i64 (.y w),.i .i64 (.y b)] l K:=by
 subst hS;exact qai (qae (give_f hw hb hr) λx _ hx=>⟨_,hx,.rfl⟩) rfl rfl h
theorem cut_u (hS:S0 Tryz.prog=S) {a b c d e:Int}(r:Int) (ha:Big a) (hb:Big b) (hr:cutI a b c d e=r) (h:K (.i .i64 (.y r)) l):S.call 101 [.i .i64 (.y a),.i .i64 (.y b),.i .i64 (.y c),.i .i64 (.y d),.i .i64 (.y e)] l K:=by
 subst hS;exact qai (qae (cut_f ha hb hr) λx _ hx=>⟨_,hx,.rfl⟩) rfl rfl h
end
def shiftS (s:St) (b:Int):St×Bool:=if stB s=true then ({ s with se:=(movI s.se b (wB b)).1 },(movI s.se b (wB b)).2) else (s,false)
theorem sshift_f {s s':St}{b:Int}{q:Bool}(ok:StOk s) (hb:Big b) (hs:shiftS s b=(s',q)):(S0 Tryz.prog).call 69 [.ag (stC s),.i .i64 (.y b)] [] (Tell (.tp [.ag (stC s'),.b q])):=by
 obtain⟨t,ht⟩:∃ t,stB s=t:=⟨_,rfl⟩;obtain⟨F,hF⟩:∃ F,cellsB s.o=F:=⟨_,rfl⟩;obtain⟨n,hn⟩:∃ n,n=ilen s.o:=⟨_,rfl⟩;obtain⟨⟨r,u⟩,hr⟩:∃ r,movI s.se b (wB b)=r:=⟨_,rfl⟩;have hse:=ok.se;have e1:stC s=stK s F n:=by subst hF hn;rfl
 unfold shiftS at hs;rw[ht,hr] at hs;have e2:stC s'=stK s' F n:=by
  split at hs
  ·cases hs;subst hF hn;rfl
  ·cases hs;exact e1
 rw[e1,e2];obtain⟨id,st,se,re,ow,an,en,o,ur,ic,sl⟩:=s;dsimp only at hse hr;cases t with
 | false=>
  rw[if_neg (by decide)] at hs;obtain⟨hs1,hs2⟩:=Prod.mk.inj hs;subst hs1;subst hs2;unfold stK;dsimp only at *;generalize hS:S0 Tryz.prog=S;refine qaa hS I.qra ?_;cbv
  repeat' (first|(refine qac hS ?_ ?_<;>intro h<;>(try cbv)<;>try exact s_ab h)|(refine qaa hS I.qqz ?_;cbv)|(refine qeq hS ⟨id,st,se,re,ow,an,en,o,ur,ic,sl⟩ ok hF hn ?_;cbv)|(refine qci hS ⟨id,st,se,re,ow,an,en,o,ur,ic,sl⟩ false ok hF hn ht ?_;cbv)|(refine qtk hS rfl ?_;cbv)|fail)
  all_goals first
   | (exfalso;assumption)
   | exact λg=>.tp (.cons (.sub s_qA rfl) (.cons (.sub s_qA rfl) .nil))
 | true=>
  rw[if_pos rfl] at hs;obtain⟨hs1,hs2⟩:=Prod.mk.inj hs;subst hs1;subst hs2;unfold stK;dsimp only at *;generalize hS:S0 Tryz.prog=S;refine qaa hS I.qra ?_;cbv
  repeat' (first|(refine qac hS ?_ ?_<;>intro h<;>(try cbv)<;>try exact s_ab h)|(refine qaa hS I.qqz ?_;cbv)|(refine qeq hS ⟨id,st,se,re,ow,an,en,o,ur,ic,sl⟩ ok hF hn ?_;cbv)|(refine qci hS ⟨id,st,se,re,ow,an,en,o,ur,ic,sl⟩ true ok hF hn ht ?_;cbv)|(refine shift_u hS r u hse hb hr ?_;cbv)|fail)
  all_goals exact λg=>.tp (.cons (.sub s_qA rfl) (.cons (.sub s_qA rfl) .nil))
section
variable {S:Sy}{l:List Blk}{K:SV->List Blk->Prop}{F:List SV}{n:Int}
theorem qzamw (hS:S0 Tryz.prog=S) (s:St) {s':St}{b:Int}{q:Bool}{F':List SV}{n':Int}(ok:StOk s) (hb:Big b) (hF:cellsB s.o=F) (hn:n=ilen s.o) (hs:shiftS s b=(s',q)) (hF':cellsB s'.o=F') (hn':n'=ilen s'.o) (h:K (.tp [.ag (stK s' F' n'),.b q]) l):S.call 69 [.ag (stK s F n),.i .i64 (.y b)] l K:=by
 subst hF hn hF' hn';exact qaq hS (sshift_f ok hb hs) (.cons .rfl (.cons .rfl .nil)) rfl h
end
end Wr
end Cz
namespace Cz
open Go Go.RowKit Go.Proofs
namespace Wr
theorem sends_1:(S0 Tryz.prog).call 103 [.i .u8 (.l 1),.i .u8 (.l 0),.tt] [] (Tell (.tp [.i .u8 (.y 3),.tt])):=by
 generalize hS:S0 Tryz.prog=S;refine qaa hS I.qrb ?_;cbv
 repeat' (first|(refine qax hS ?_;cbv)|(refine s_lk hS ?_;try cbv)|(refine s_mu hS ?_;try cbv)|fail)
 exact λg=>.sub s_qA rfl
theorem sends_2:(S0 Tryz.prog).call 103 [.i .u8 (.l 2),.i .u8 (.l 0),.tt] [] (Tell (.tp [.i .u8 (.y 4),.tt])):=by
 generalize hS:S0 Tryz.prog=S;refine qaa hS I.qrb ?_;cbv
 repeat' (first|(refine qax hS ?_;cbv)|(refine s_lk hS ?_;try cbv)|(refine s_mu hS ?_;try cbv)|fail)
 exact λg=>.sub s_qA rfl
def endS (x:Int):Int:=if x=1 then 3 else 4
section
variable {S:Sy}{l:List Blk}{K:SV->List Blk->Prop}
theorem sends_u (hS:S0 Tryz.prog=S) {x:Int}(y:Int) (hx:ansB x=true) (hy:endS x=y) (h:K (.tp [.i .u8 (.y y),.tt]) l):S.call 103 [.i .u8 (.y x),.i .u8 (.l 0),.tt] l K:=by
 have:=of_decide_eq_true hx
 unfold endS at hy;by_cases h1:x=1
 ·rw[if_pos h1] at hy
  subst h1 hy;exact qaq hS sends_1 (.cons (qau rfl) (.cons .rfl (.cons .rfl .nil))) rfl h
 ·rw[if_neg h1] at hy
  obtain rfl:x=2:=by omega
  subst hy;exact qaq hS sends_2 (.cons (qau rfl) (.cons .rfl (.cons .rfl .nil))) rfl h
end
end Wr
end Cz
