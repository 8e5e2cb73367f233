/- What the claims of this group lean on: E1. No condition. -/
import Derived.Test.YtfijlhdheiebcaaGreatDoorKB0
import Derived.Below
import Derived.Laws.World
import Derived.Laws.Sem
import Derived.Laws.Cells
import Derived.Laws.IdiomCopy
import Derived.Laws.StructEq
import Derived.ChangeKeysEq
set_option linter.unusedSimpArgs false
set_option linter.unusedVariables false
namespace Cz
open Go Go.RowKit
inductive Z where
 | l (n:Int)
 | y (n:Int)
def Z.v:Z->Int
 | .l n=>n
 | .y n=>n
inductive SV where
 | tt|ff
 | b (x:Bool)
 | i (k:IntKind) (z:Z)
 | s (x:List UInt8)
 | p (k o:Nat)
 | pe (k:Nat) (i:Z) (sz j:Nat)
 | pv (lit:Bool) (F:List SV) (i:Z) (sz j:Nat)
 | v (lit:Bool) (sz:Nat) (F:List SV) (n:Z)
 | sl (k sz:Nat) (off len:Z) (cap:Option Z)
 | ag (cs:List SV)
 | tp (vs:List SV)
 | fn (f:Fn) (first cap:List SV)
 | yl (k:Nat)
 | m (k:Nat)
 | re (v:Value)
 | un
 | any
structure View where
 base:Option Addr
 n:Nat
 cap:Nat
structure Nms where
 nm:Nat->List View
 fz:Nat->Nat->Option Value
 q:Nat->Prop
instance:CoeFun Nms (λ_=>Nat->List View):=⟨Nms.nm⟩
def SlVal (vw:View) (sz off len:Nat) (cap:Option Int) (v:Value):Prop:=
 match vw.base with
 | none=>(off=0/\∀ m,cap=some m->0<=m)/\len=0/\∃ a',v=.slice a' 0 0
 | some a=>(∃ c,v=.slice (some ⟨a.block,a.off+off*sz,none⟩) len c/\len<=c/\off+c<=vw.cap /\
   (match cap with|none=>off+c=vw.cap|some m=>(c:Int)=m∨m<0/\off+c=vw.cap/\-1-m<=c/\(off+(-1-m).toNat)*sz<=vw.n))∨(len=0/\(∃ a',v=.slice a' 0 0)/\∀ m,cap=some m->m=0∨m=-1)
def oneC:Value->Bool
 | .agg _=>false
 | .tuple _=>false
 | _=>true
def plainV:SV->Bool
 | .tt | .ff | .b _ | .i _ _ | .s _ | .v _ _ _ _=>true
 | _=>false
def plains:List SV->Bool
 | []=>true
 | x::xs=>plainV x&&plains xs
mutual
def den (ρ:Nms):SV->Value->Prop
 | .tt,v=>v=.bool true
 | .ff,v=>v=.bool false
 | .b x,v=>v=.bool x
 | .i k z,v=>v=.int k z.v
 | .s x,v=>v=.string ⟨x.toArray⟩
 | .p k o,v=>∃ vw∈ρ k,∃ a,vw.base=some a/\v=.pointer (some ⟨a.block,a.off+o,none⟩)
 | .pe k i sz j,v=>0<=i.v/\∃ vw∈ρ k,∃ a,vw.base=some a/\(i.v.toNat+1)*sz<=vw.n/\v=.pointer (some ⟨a.block,a.off+(i.v.toNat*sz+j),none⟩)
 | .pv _ F i sz j,v=>0<=i.v/\(i.v.toNat+1)*sz<=F.length/\plains F=true/\∃ b o,v=.pointer (some ⟨b,o+(i.v.toNat*sz+j),none⟩)/\denF ρ F b o
 | .v _ sz F n,v=>0<=n.v/\0<sz/\n.v.toNat*sz=F.length/\plains F=true/\((∃ b o c,v=.slice (some ⟨b,o,none⟩) n.v.toNat c/\n.v.toNat<=c/\(∃ o' u,ρ.fz b o'=some u)/\denF ρ F b o)∨(n.v=0/\∃ a,v=.slice a 0 0))
 | .sl k sz off len cap,v=>0<=off.v/\0<=len.v/\∃ vw∈ρ k,(off.v.toNat+len.v.toNat)*sz<=vw.n/\SlVal vw sz off.v.toNat len.v.toNat (cap.map Z.v) v
 | .ag cs,v=>∃ vs,v=.agg vs/\denL ρ cs vs.toList
 | .tp cs,v=>∃ vs,v=.tuple vs/\denL ρ cs vs.toList
 | .fn f a c,v=>∃ as cs,v=.func f as cs/\denL ρ a as.toList/\denL ρ c cs.toList
 | .yl k,v=>∃ vw∈ρ k,∃ a,vw.base=some a/\v=.func (.yield a.block) #[] #[]
 | .m k,v=>∃ vw∈ρ k,∃ a,vw.base=some a/\v=.map (some a.block)
 | .re x,v=>v=x/\oneC x=true
 | .un,v=>v=undef
 | .any,_=>True
def denL (ρ:Nms):List SV->List Value->Prop
 | [],[]=>True
 | x::xs,v::vs=>den ρ x v/\denL ρ xs vs
 | _,_=>False
def denF (ρ:Nms):List SV->Nat->Nat->Prop
 | [],_,_=>True
 | x::xs,b,o=>(∃ u,ρ.fz b o=some u/\den ρ x u)/\denF ρ xs b (o+1)
end
structure Le (m:Nat) (ρ ρ':Nms):Prop where
 nm:∀ k,k<m->∀ vw∈ρ k,vw∈ρ' k
 fz:∀ b o u,ρ.fz b o=some u->ρ'.fz b o=some u
 fq:∀ b o u,ρ'.fz b o=some u->ρ.fz b o=some u∨ρ.q b
 q:ρ'.q=ρ.q
theorem Le.refl (m:Nat) (ρ:Nms):Le m ρ ρ:=⟨λ_ _ _ h=>h,λ_ _ _ h=>h,λ_ _ _ h=>.inl h,rfl⟩
theorem Le.trans {m:Nat}{ρ ρ' ρ'':Nms}(h:Le m ρ ρ') (h':Le m ρ' ρ''):Le m ρ ρ'':=
 ⟨λk hk vw hv=>h'.nm k hk vw (h.nm k hk vw hv),λb o u e=>h'.fz b o u (h.fz b o u e),λb o u e=>by
  rcases h'.fq b o u e with e1|e1
  ·exact h.fq b o u e1
  ·exact .inr (h.q▸e1),h'.q.trans h.q⟩
theorem Le.mono {m m':Nat}{ρ ρ':Nms}(h:Le m ρ ρ') (hm:m'<=m):Le m' ρ ρ':=⟨λk hk=>h.nm k (by omega),h.fz,h.fq,h.q⟩
theorem Le.of {m:Nat}{ρ ρ':Nms}(h:∀ k,k<m->∀ vw∈ρ k,vw∈ρ' k) (hf:ρ'.fz=ρ.fz) (hq:ρ'.q=ρ.q):Le m ρ ρ':=
 ⟨h,λb o u e=>by rw[hf];exact e,λb o u e=>.inl (by rw[<-hf];exact e),hq⟩
theorem lew {m:Nat}{ρ ρ':Nms}(h:Le m ρ ρ') (hout:∀ k,m<=k->ρ k=[]) {k:Nat}{vw:View}(hv:vw∈ρ k):vw∈ρ' k:=by
 by_cases hk:k<m
 ·exact h.nm k hk vw hv
 ·rw[hout k (by omega)] at hv;cases hv
mutual
theorem qfr {m:Nat}{ρ ρ':Nms}(h:Le m ρ ρ') (hout:∀ k,m<=k->ρ k=[]):∀ (x:SV) (v:Value),den ρ x v->den ρ' x v
 | .tt,_,d=>d
 | .ff,_,d=>d
 | .b _,_,d=>d
 | .i _ _,_,d=>d
 | .s _,_,d=>d
 | .p k o,v,d=>by
  simp only[den] at d ⊢;obtain⟨vw,hv,r⟩:=d;exact⟨vw,lew h hout hv,r⟩
 | .pe k i sz j,v,d=>by
  simp only[den] at d ⊢;obtain⟨h0,vw,hv,r⟩:=d;exact⟨h0,vw,lew h hout hv,r⟩
 | .pv lit F i sz j,v,d=>by
  simp only[den] at d ⊢;obtain⟨h0,h1,hp,b,o,e,r⟩:=d;exact⟨h0,h1,hp,b,o,e,qzawi h hout F b o r⟩
 | .v lit sz F n,v,d=>by
  simp only[den] at d ⊢;obtain⟨h0,h1,h2,hp,r⟩:=d;exact⟨h0,h1,h2,hp,r.imp (λ⟨b,o,c,e,hc,⟨o',u,he⟩,r⟩=>⟨b,o,c,e,hc,⟨o',u,h.fz _ _ _ he⟩,qzawi h hout F b o r⟩) id⟩
 | .sl k sz off len cap,v,d=>by
  simp only[den] at d ⊢;obtain⟨h0,h1,vw,hv,r⟩:=d;exact⟨h0,h1,vw,lew h hout hv,r⟩
 | .ag cs,v,d=>by
  simp only[den] at d ⊢;obtain⟨vs,e,r⟩:=d;exact⟨vs,e,qmd h hout cs _ r⟩
 | .tp cs,v,d=>by
  simp only[den] at d ⊢;obtain⟨vs,e,r⟩:=d;exact⟨vs,e,qmd h hout cs _ r⟩
 | .fn f a c,v,d=>by
  simp only[den] at d ⊢;obtain⟨as,cs,e,r1,r2⟩:=d;exact⟨as,cs,e,qmd h hout a _ r1,qmd h hout c _ r2⟩
 | .yl k,v,d=>by
  simp only[den] at d ⊢;obtain⟨vw,hv,r⟩:=d;exact⟨vw,lew h hout hv,r⟩
 | .m k,v,d=>by
  simp only[den] at d ⊢;obtain⟨vw,hv,r⟩:=d;exact⟨vw,lew h hout hv,r⟩
 | .re _,_,d=>d
 | .un,_,d=>d
 | .any,_,d=>d
theorem qmd {m:Nat}{ρ ρ':Nms}(h:Le m ρ ρ') (hout:∀ k,m<=k->ρ k=[]):∀ (xs:List SV) (vs:List Value),denL ρ xs vs->denL ρ' xs vs
 | [],[],d=>d
 | [],_::_,d=>d
 | _::_,[],d=>d
 | x::xs,v::vs,d=>by
  simp only[denL] at d ⊢;exact⟨qfr h hout x v d.1,qmd h hout xs vs d.2⟩
theorem qzawi {m:Nat}{ρ ρ':Nms}(h:Le m ρ ρ') (hout:∀ k,m<=k->ρ k=[]):∀ (F:List SV) (b o:Nat),denF ρ F b o->denF ρ' F b o
 | [],_,_,_=>by simp [denF]
 | x::xs,b,o,d=>by
  simp only[denF] at d ⊢;obtain⟨⟨u,e,d1⟩,d2⟩:=d;exact⟨⟨u,h.fz b o u e,qfr h hout x u d1⟩,qzawi h hout xs b (o+1) d2⟩
end
theorem qse {ρ:Nms}:∀ {F:List SV}{b o:Nat}(q:Nat) (x:SV),denF ρ F b o->F[q]?=some x->∃ u,ρ.fz b (o+q)=some u/\den ρ x u
 | [],_,_,q,x,_,h=>by simp at h
 | y::F,b,o,0,x,d,h=>by
  simp only[denF] at d;simp only[List.getElem?_cons_zero,Option.some.injEq] at h;subst h;exact d.1
 | y::F,b,o,q+1,x,d,h=>by
  simp only[denF] at d;simp only[List.getElem?_cons_succ] at h;obtain⟨u,e,r⟩:=qse q x d.2 h;exact⟨u,by rw[<-e];congr 1;omega,r⟩
theorem qzaoy {ρ:Nms}:∀ {F:List SV}{b o:Nat},(∀ (q:Nat) (x:SV),F[q]?=some x->∃ u,ρ.fz b (o+q)=some u/\den ρ x u)->denF ρ F b o
 | [],_,_,_=>by simp [denF]
 | y::F,b,o,h=>by
  simp only[denF];refine⟨h 0 y (by simp),qzaoy λq x hx=>?_⟩;obtain⟨u,e,r⟩:=h (q+1) x (by simpa using hx);exact⟨u,by rw[<-e];congr 1;omega,r⟩
theorem qzatf {ρ:Nms}{F:List SV}{b o:Nat}(i n:Nat) (h:denF ρ F b o):denF ρ ((F.drop i).take n) b (o+i):=by
 refine qzaoy λq x hx=>?_;rw[List.getElem?_take] at hx;split at hx
 ·rw[List.getElem?_drop] at hx
  obtain⟨u,e,r⟩:=qse (i+q) x h hx;exact⟨u,by rw[Nat.add_assoc];exact e,r⟩
 ·cases hx
theorem qbw:∀ {F:List SV},plains F=true->∀ x∈F,plainV x=true
 | [],_,x,hx=>by cases hx
 | y::F,h,x,hx=>by
  simp only[plains,Bool.and_eq_true] at h;rcases List.mem_cons.1 hx with rfl|hx
  ·exact h.1
  ·exact qbw h.2 x hx
theorem qwt:∀ {F:List SV},(∀ x∈F,plainV x=true)->plains F=true
 | [],_=>rfl
 | y::F,h=>by
  simp only[plains,Bool.and_eq_true];exact⟨h y (by simp),qwt λx hx=>h x (by simp [hx])⟩
theorem qzavh {F:List SV}(i n:Nat) (h:plains F=true):plains ((F.drop i).take n)=true:=
 qwt λx hx=>qbw h x (List.mem_of_mem_drop (List.mem_of_mem_take hx))
def FzLe (ρ ρ':Nms):Prop:=∀ b o u,ρ.fz b o=some u->ρ'.fz b o=some u
mutual
theorem qrh {ρ ρ':Nms}(hz:FzLe ρ ρ'):∀ (x:SV) (v:Value),plainV x=true->den ρ x v->den ρ' x v
 | .tt,_,_,d=>d
 | .ff,_,_,d=>d
 | .b _,_,_,d=>d
 | .i _ _,_,_,d=>d
 | .s _,_,_,d=>d
 | .v lit sz F n,v,_,d=>by
  simp only[den] at d ⊢;obtain⟨h0,h1,h2,hp,r⟩:=d;exact⟨h0,h1,h2,hp,r.imp (λ⟨b,o,c,e,hc,⟨o',u,he⟩,r⟩=>⟨b,o,c,e,hc,⟨o',u,hz _ _ _ he⟩,qzaay hz F b o hp r⟩) id⟩
 | .p _ _,_,h,_=>by simp [plainV] at h
 | .pe _ _ _ _,_,h,_=>by simp [plainV] at h
 | .pv _ _ _ _ _,_,h,_=>by simp [plainV] at h
 | .sl _ _ _ _ _,_,h,_=>by simp [plainV] at h
 | .ag _,_,h,_=>by simp [plainV] at h
 | .tp _,_,h,_=>by simp [plainV] at h
 | .fn _ _ _,_,h,_=>by simp [plainV] at h
 | .yl _,_,h,_=>by simp [plainV] at h
 | .m _,_,h,_=>by simp [plainV] at h
 | .re _,_,h,_=>by simp [plainV] at h
 | .un,_,h,_=>by simp [plainV] at h
 | .any,_,h,_=>by simp [plainV] at h
theorem qzaay {ρ ρ':Nms}(hz:FzLe ρ ρ'):∀ (F:List SV) (b o:Nat),plains F=true->denF ρ F b o->denF ρ' F b o
 | [],_,_,_,_=>by simp [denF]
 | x::xs,b,o,hp,d=>by
  simp only[denF] at d ⊢;simp only[plains,Bool.and_eq_true] at hp;obtain⟨⟨u,e,d1⟩,d2⟩:=d;exact⟨⟨u,hz b o u e,qrh hz x u hp.1 d1⟩,qzaay hz xs b (o+1) hp.2 d2⟩
end
theorem den_v {ρ ρ':Nms}(hz:FzLe ρ ρ') {lit:Bool}{sz:Nat}{F:List SV}{n:Z}{v:Value}(d:den ρ (.v lit sz F n) v):den ρ' (.v lit sz F n) v:=qrh hz _ _ rfl d
theorem den_pv {ρ ρ':Nms}(hz:FzLe ρ ρ') {lit:Bool}{F:List SV}{i:Z}{sz j:Nat}{v:Value}(d:den ρ (.pv lit F i sz j) v):den ρ' (.pv lit F i sz j) v:=by
 simp only[den] at d ⊢;obtain⟨h0,h1,hp,b,o,e,r⟩:=d;exact⟨h0,h1,hp,b,o,e,qzaay hz F b o hp r⟩
theorem qan {ρ:Nms}:∀ {xs:List SV}{vs:List Value},denL ρ xs vs->xs.length=vs.length
 | [],[],_=>rfl
 | [],_::_,d=>by simp [denL] at d
 | _::_,[],d=>by simp [denL] at d
 | x::xs,v::vs,d=>by simp only[denL] at d;simp [qan d.2]
theorem qbk {ρ:Nms}:∀ {xs:List SV}{vs:List Value}(q:Nat) (x:SV),denL ρ xs vs->xs[q]?=some x->∃ v,vs[q]?=some v/\den ρ x v
 | [],[],q,x,_,h=>by simp at h
 | [],_::_,_,_,d,_=>by simp [denL] at d
 | _::_,[],_,_,d,_=>by simp [denL] at d
 | y::xs,v::vs,0,x,d,h=>by
  simp only[denL] at d;simp only[List.getElem?_cons_zero,Option.some.injEq] at h;subst h;exact⟨v,by simp,d.1⟩
 | y::xs,v::vs,q+1,x,d,h=>by
  simp only[denL] at d;simp only[List.getElem?_cons_succ] at h ⊢;exact qbk q x d.2 h
theorem qcx {ρ:Nms}:∀ {xs:List SV}{vs:List Value},xs.length=vs.length->(∀ (q:Nat) (x:SV),xs[q]?=some x->∃ v,vs[q]?=some v/\den ρ x v)->denL ρ xs vs
 | [],[],_,_=>by simp [denL]
 | [],_::_,h,_=>by simp at h
 | _::_,[],h,_=>by simp at h
 | x::xs,v::vs,h,g=>by
  simp only[denL];refine⟨?_,qcx (by simpa using h) (λq y hy=>?_)⟩
  ·obtain⟨v',e,d⟩:=g 0 x (by simp)
   simp at e;subst e;exact d
  ·have:=g (q+1) y (by simpa using hy)
   simpa using this
theorem qcy {ρ:Nms}:∀ {xs ys:List SV}{vs us:List Value},denL ρ xs vs->denL ρ ys us->denL ρ (xs++ys) (vs++us)
 | [],_,[],_,_,d=>by simpa using d
 | [],_,_::_,_,d,_=>by simp [denL] at d
 | _::_,_,[],_,d,_=>by simp [denL] at d
 | x::xs,ys,v::vs,us,d,e=>by
  simp only[denL] at d;simp only[List.cons_append,denL];exact⟨d.1,qcy d.2 e⟩
inductive Opd where
 | t (n:Nat)
 | c (x:SV)
inductive Kd where
 | kb|ki|ks
structure Sg where
 agg:Bool
 ks:List Kd
inductive BK where
 | add|sub|mul|quo|rem|and|or|xor|andn|shl|shr|lt|le|gt|ge|eq|ne|min|max
inductive AOp where
 | mv (x:Opd)
 | pick (c a b:Opd)
 | alloc (cs:List SV)
 | box (x:Opd)
 | build (zero:List SV) (parts:List (Nat×Nat×Opd))
 | buildS (sz len:Nat) (zero:List SV) (parts:List (Nat×Opd))
 | load (agg:Bool) (n:Nat) (x:Opd)
 | store (n:Nat) (x v:Opd)
 | nilc (x:Opd)
 | bin (op:BK) (x y:Opd)
 | eqA (sig:Sg) (neg:Bool) (x y:Opd)
 | eqN (map neg:Bool) (x y:Opd)
 | nilS (neg:Bool) (x:Opd)
 | not (x:Opd)
 | neg (x:Opd)
 | cv (k:IntKind) (x:Opd)
 | cvSS (x:Opd)
 | cvBS (x:Opd)
 | cvSB (x:Opd)
 | cvLL (x:Opd)
 | mkF (f:Fn) (first cap:List Opd)
 | mkM
 | mkS (sz:Nat) (zero:List SV) (len cap:Opd)
 | slc (sz:Nat) (x:Opd) (lo hi mx:Option Opd)
 | slcS (x:Opd) (lo hi:Option Opd)
 | fad (off:Nat) (x:Opd)
 | fld (agg:Bool) (off n:Nat) (x:Opd)
 | iadA (len sz:Nat) (x i:Opd)
 | iadS (sz:Nat) (x i:Opd)
 | ixA (agg:Bool) (len sz:Nat) (x i:Opd)
 | ixS (x i:Opd)
 | look (sig:Sg) (zero:SV) (ok:Bool) (m k:Opd)
 | mupd (sig:Sg) (m k v:Opd)
 | ext (x:Opd) (n:Nat)
 | call (f:Opd) (args:List Opd)
 | len (str:Bool) (x:Opd)
 | app (sz:Nat) (x y:Opd)
 | capS (x:Opd)
 | appZ (sz:Nat) (zero:List SV) (x y:Opd)
 | rng (x:Opd)
 | nxt (x:Opd)
 | ent (x:Opd)
 | nilP (neg:Bool) (x:Opd)
 | ment (sig:Sg) (zero:SV) (m k:Opd)
 | mest (m s v:Opd)
 | clr (sz:Nat) (zero:List SV) (x:Opd)
 | bins (op:BK) (xs:List Opd)
 | die
structure AO where
 dst:Option Nat
 op:AOp
 g:Option (Nat×Bool)
inductive IR where
 | skip
 | reg (ops:List AO) (kill:List Nat)
 | draw (ops:List AO) (pre:List (List Nat)) (kill:List Nat)
 | seq (a b:IR)
 | cond (x:Opd) (a b:IR)
 | block (id:Nat) (b:IR)
 | loop (b:IR)
 | rf (f:Opd) (ps:List Nat) (asg body:IR)
 | exit (id:Nat)
 | scope (b:IR)
 | label (l:Nat)
 | goto (l:Nat)
 | ret
def cSV:Value->Option SV
 | .bool true=>some .tt
 | .bool false=>some .ff
 | .int k n=>some (.i k (.l n))
 | .string s=>some (.s s.data.toList)
 | .agg _=>none
 | .tuple _=>none
 | v=>some (.re v)
def cSVs (l:List Value):Option (List SV):=l.mapM cSV
def cOpd:Operand->Option Opd
 | .tmp t=>some (.t t)
 | .const v=>(cSV v).map .c
 | .func f=>some (.c (.fn (.func f) [] []))
 | .global _=>some (.c .any)
def cOpds (l:List Operand):Option (List Opd):=l.mapM cOpd
def cOpt:Option Operand->Option (Option Opd)
 | none=>some none
 | some x=>(cOpd x).map some
def aggOf (P:Program) (t:TypeId):Option Bool:=
 match P.underlying t with
 | some (.struct _)|some (.array _ _)=>some true
 | some _=>some false
 | none=>none
def szOf (P:Program) (t:TypeId):Option Nat:=(P.info? t).map (·.size)
def zeroOf (P:Program) (t:TypeId):Option (List SV):=do
 let i <-P.info? t
 let z <-i.zero
 cSVs z.cells.toList
def zeroV (P:Program) (t:TypeId):Option SV:=do
 let i <-P.info? t
 match i.zero with
 | some (.agg cs)=>(cSVs cs.toList).map .ag
 | some v=>cSV v
 | none=>none
def sigOf (P:Program):Nat->TypeId->Option (List Kd)
 | 0,_=>none
 | d+1,t=>match P.underlying t with
  | some .bool=>some [.kb]
  | some (.int _)=>some [.ki]
  | some .string=>some [.ks]
  | some (.struct fs)=>if P.stoodInHeld t then none else
   fs.toList.foldr (λ(f:Field) (acc:Nat->Option (List Kd))=>λoff=>do
    let s <-sigOf P d f.type
    if f.name = "_"∨f.offset≠off∨szOf P f.type≠some s.length∨s.length=0 then none else
    let r <-acc (off+s.length)
    pure (s++r)) (λ_=>some []) 0
  | some (.array n e)=>do
   let s <-sigOf P d e
   if szOf P e≠some s.length∨s.length=0 then none else pure (List.replicate n s).flatten
  | _=>none
def sgOf (P:Program) (t:TypeId):Option Sg:=do
 let s <-sigOf P 50 t
 let a <-aggOf P t
 pure ⟨a,s⟩
def bkOf:BinOp->Option BK
 | .add=>some .add | .sub=>some .sub | .mul=>some .mul | .quo=>some .quo | .rem=>some .rem
 | .and=>some .and | .or=>some .or | .xor=>some .xor | .andNot=>some .andn | .shl=>some .shl | .shr=>some .shr
 | .eql=>some .eq | .neq=>some .ne | .lss=>some .lt | .leq=>some .le | .gtr=>some .gt | .geq=>some .ge
def isU8 (P:Program) (t:TypeId):Bool:=match P.underlying t with|some (.int .u8)=>true|_=>false
def convOp0 (P : Program) (o : Oper) : Option AOp :=
  match o.op with
  | .move x | .assign x => (cOpd x).map .mv
  | .pick c a b => do pure (.pick (← cOpd c) (← cOpd a) (← cOpd b))
  | .alloc t => (zeroOf P t).map .alloc
  | .box _ x => (cOpd x).map .box
  | .build t parts => do
    let zero ← zeroOf P t
    match P.underlying t with
    | some (.struct fs) => do
      if !fs.all (fun f => (szOf P f.type).isSome) then none else
      let ps ← parts.toList.mapM fun (i, x) => do
        let f ← fs[i]?
        let n ← szOf P f.type
        pure (f.offset, n, ← cOpd x)
      pure (.build zero ps)
    | some (.array _ e) => do
      let n ← szOf P e
      let ps ← parts.toList.mapM fun (i, x) => do pure (i * n, n, ← cOpd x)
      pure (.build zero ps)
    | _ => none
  | .buildSlice t len parts => do
    match P.underlying t with
    | some (.slice e) => do
      let n ← szOf P e
      let zero ← zeroOf P e
      if n = 0 ∨ zero.length ≠ n ∨ len * n > 2 ^ 20 then none else
      let ps ← parts.toList.mapM fun (i, x) => do pure (i, ← cOpd x)
      pure (.buildS n len zero ps)
    | _ => none
  | .load t a => do
    let g ← aggOf P t
    let n ← szOf P t
    if !g && n != 1 then none else pure (.load g n (← cOpd a))
  | .store t a x => do pure (.store (← szOf P t) (← cOpd a) (← cOpd x))
  | .nilCheck x => (cOpd x).map .nilc
  | .binOp op t x y _ => do
    let x' ← cOpd x
    let y' ← cOpd y
    match P.underlying t with
    | some (.int _) | some .string => do pure (.bin (← bkOf op) x' y')
    | some .bool | some (.struct _) | some (.array _ _) =>
      if P.eqGuardType P.depth t then none else do
      let sig ← sgOf P t
      match op with
      | .eql => some (.eqA sig false x' y')
      | .neq => some (.eqA sig true x' y')
      | _ => none
    | some (.func _ _ _) =>
      match op with
      | .eql => some (.eqN false false x' y')
      | .neq => some (.eqN false true x' y')
      | _ => none
    | some (.map _ _) =>
      match op with
      | .eql => some (.eqN true false x' y')
      | .neq => some (.eqN true true x' y')
      | _ => none
    | some (.slice _) =>
      match op, y' with
      | .eql, .c (.re (.slice none 0 0)) => some (.nilS false x')
      | .neq, .c (.re (.slice none 0 0)) => some (.nilS true x')
      | _, _ => none
    | some (.pointer _) =>
      match op, y' with
      | .eql, .c (.re (.pointer none)) => some (.nilP false x')
      | .neq, .c (.re (.pointer none)) => some (.nilP true x')
      | _, _ => none
    | _ => none
  | .unOp .not _ x => (cOpd x).map .not
  | .unOp .neg t x => match P.underlying t with | some (.int _) => (cOpd x).map .neg | _ => none
  | .convert src dst x => do
    let x' ← cOpd x
    match P.underlying src, P.underlying dst with
    | some (.int _), some (.int k) => some (.cv k x')
    | some .string, some .string => some (.cvSS x')
    | some (.slice e), some .string => if isU8 P e then some (.cvBS x') else none
    | some .string, some (.slice e) => if isU8 P e then some (.cvSB x') else none
    | some (.slice e), some (.slice _) => if isU8 P e ∧ src = dst then some (.cvLL x') else none
    | _, _ => none
  | .makeFunc (.func f) first captured => do pure (.mkF (.func f) (← cOpds first.toList) (← cOpds captured.toList))
  | .makeMap _ none => some .mkM
  | .makeMap t (some (.const (.int _ _))) =>
    match P.underlying t with
    | some (.map _ _) => some .mkM
    | _ => none
  | .makeSlice t l c => do
    match P.underlying t with
    | some (.slice e) => do
      let n ← szOf P e
      let zero ← zeroOf P e
      if n = 0 ∨ zero.length ≠ n ∨ P.bytesOf e > 1024 then none else
      pure (.mkS n zero (← cOpd l) (← cOpd c))
    | _ => none
  | .slice t x lo hi mx => do
    match P.underlying t with
    | some .string => if mx.isSome then none else do pure (.slcS (← cOpd x) (← cOpt lo) (← cOpt hi))
    | some (.slice e) => do
      let n ← szOf P e
      if n = 0 ∨ (mx.isSome && hi.isNone) = true then none else
      pure (.slc n (← cOpd x) (← cOpt lo) (← cOpt hi) (← cOpt mx))
    | _ => none
  | .fieldAddr t x f => do
    match P.underlying t with
    | some (.struct fs) => do
      let g ← fs[f]?
      let n ← szOf P g.type
      if n = 0 then none else pure (.fad g.offset (← cOpd x))
    | _ => none
  | .field t x f => do
    match P.underlying t with
    | some (.struct fs) => do
      let g ← fs[f]?
      let n ← szOf P g.type
      let a ← aggOf P g.type
      if !a && n != 1 then none else pure (.fld a g.offset n (← cOpd x))
    | _ => none
  | .indexAddr t x i => do
    match P.underlying t with
    | some (.array len e) => do
      let n ← szOf P e
      if n = 0 ∨ len ≤ 1 then none else pure (.iadA len n (← cOpd x) (← cOpd i))
    | some (.slice e) => do
      let n ← szOf P e
      if n = 0 then none else pure (.iadS n (← cOpd x) (← cOpd i))
    | _ => none
  | .index t x i => do
    match P.underlying t with
    | some (.array len e) => do
      let n ← szOf P e
      let a ← aggOf P e
      if n = 0 ∨ (!a && n != 1) then none else pure (.ixA a len n (← cOpd x) (← cOpd i))
    | some .string => do pure (.ixS (← cOpd x) (← cOpd i))
    | _ => none
  | .lookup t m k ok => do
    match P.underlying t with
    | some (.map kt e) => do
      let zero ← zeroV P e
      let sig ← sgOf P kt
      pure (.look sig zero ok (← cOpd m) (← cOpd k))
    | _ => none
  | .mapUpdate t m k x | .insert t m k x => do
    match P.underlying t with
    | some (.map kt _) => do pure (.mupd (← sgOf P kt) (← cOpd m) (← cOpd k) (← cOpd x))
    | _ => none
  | .extract t n => do pure (.ext (← cOpd t) n)
  | .call c => match c.callee with
    | .value f => do pure (.call (← cOpd f) (← cOpds c.args.toList))
    | .builtin .len => do
      let t ← c.argTypes[0]?
      let x ← c.args[0]?
      match P.underlying t with
      | some .string => do pure (.len true (← cOpd x))
      | some (.slice _) => do pure (.len false (← cOpd x))
      | _ => none
    | .builtin .cap => do
      let t ← c.argTypes[0]?
      let x ← c.args[0]?
      match P.underlying t with
      | some (.slice _) => do pure (.capS (← cOpd x))
      | _ => none
    | .builtin .min =>
      match c.args.toList with
      | [x, y] => do pure (.bin .min (← cOpd x) (← cOpd y))
      | _ => none
    | .builtin .max =>
      match c.args.toList with
      | [x, y] => do pure (.bin .max (← cOpd x) (← cOpd y))
      | _ => none
    | .builtin .append => do
      let t ← c.argTypes[0]?
      let u ← c.argTypes[1]?
      let x ← c.args[0]?
      let y ← c.args[1]?
      match P.underlying t, P.underlying u with
      | some (.slice e), some (.slice _) => do
        let n ← szOf P e
        let zero ← zeroOf P e
        if n = 0 ∨ zero.length ≠ n ∨ P.bytesOf e > 1024 then none else pure (.app n (← cOpd x) (← cOpd y))
      | some (.slice e), some .string => do
        let n ← szOf P e
        let zero ← zeroOf P e
        if n = 0 ∨ zero.length ≠ n ∨ P.bytesOf e > 1024 then none else pure (.app n (← cOpd x) (← cOpd y))
      | some (.slice e), some (.int _) => do
        let n ← szOf P e
        let zero ← zeroOf P e
        if n = 0 ∨ zero.length ≠ n ∨ P.bytesOf e > 1024 then none else pure (.appZ n zero (← cOpd x) (← cOpd y))
      | _, _ => none
    | _ => none
  | .range t x => match P.underlying t with
    | some (.map _ _) => (cOpd x).map .rng
    | _ => none
  | .next x false => (cOpd x).map .nxt
  | .entry x => (cOpd x).map .ent
  | _ => none
def convOp1 (P : Program) (o : Oper) : Option AOp :=
  match o.op with
  | .mapEntry t m k =>
    match P.underlying t with
    | some (.map kt e) => do pure (.ment (← sgOf P kt) (← zeroV P e) (← cOpd m) (← cOpd k))
    | _ => none
  | .entryStore _ m s x => do pure (.mest (← cOpd m) (← cOpd s) (← cOpd x))
  | .call c => match c.callee with
    | .builtin .clear => do
      let t ← c.argTypes[0]?
      let x ← c.args[0]?
      match P.underlying t with
      | some (.slice e) => do
        let n ← szOf P e
        let zero ← zeroOf P e
        if n = 0 ∨ zero.length ≠ n then none else pure (.clr n zero (← cOpd x))
      | _ => none
    | .builtin .min => do pure (.bins .min (← cOpds c.args.toList))
    | .builtin .max => do pure (.bins .max (← cOpds c.args.toList))
    | _ => none
  | _ => none
def convOp (P:Program) (o:Oper):Option AOp:=match convOp0 P o with
 | some a=>some a
 | none=>match convOp1 P o with
  | some a=>some a
  | none=>some .die
def convAO (P:Program) (ops:Array Oper) (o:Oper):Option AO:=do
 let a <-convOp P o
 match o.guard with
 | none=>pure ⟨o.dst,a,none⟩
 | some (j,want)=>do
  let x <-ops[j]?
  let d <-x.dst
  pure ⟨o.dst,a,some (d,want)⟩
def preds (ops:List Oper):List (List Nat):=
 ops.map λo=>(o.after.toList.filter (Region.binds .any)).map (·.on)
def conv (P : Program) (kl : Nat → List Nat) : Code → Option IR
  | .skip => some .skip
  | .region id ops false => do pure (.reg (← ops.toList.mapM (convAO P ops)) (kl id))
  | .region id ops true => do pure (.draw (← ops.toList.mapM (convAO P ops)) (preds ops.toList) (kl id))
  | .seq a b => do pure (.seq (← conv P kl a) (← conv P kl b))
  | .cond c a b => do pure (.cond (← cOpd c) (← conv P kl a) (← conv P kl b))
  | .block id b => (conv P kl b).map (.block id)
  | .loop b => (conv P kl b).map .loop
  | .rangeFunc f ps a b => do pure (.rf (← cOpd f) ps.toList (← conv P kl a) (← conv P kl b))
  | .exit id => some (.exit id)
  | .scope b => (conv P kl b).map .scope
  | .label l => some (.label l)
  | .goto l => some (.goto l)
  | .ret => some .ret
  | .refuse _ => none
end Cz
namespace Cz
open Go Go.RowKit
inductive Ph where
 | ready
 | busy
 | done (e:Ex)
inductive Blk where
 | c (cs:List SV)
 | r (ro lit:Bool) (st:Z) (sz:Nat) (F:List SV)
 | m (es:List (SV×SV))
 | it (km n:Nat) (seen:List Nat)
 | df
 | lp (vs:List SV) (ps:List Nat) (asg body:IR) (ph:Ph)
 | dead
structure Env where
 vs:List SV
 mks:List Nat
structure Cx where
 ro:Option Nat
 m:Nat
structure Sy where
 ar:BK->IntKind->Int->Int->(Int->Prop)->Prop
 cmp:BK->Int->Int->Bool
 scmp:BK->List UInt8->List UInt8->Bool
 scat:List UInt8->List UInt8->List UInt8
 beq:Bool->Bool->Bool
 nt:Bool->Bool
 cv:IntKind->Int->(Int->Prop)->Prop
 pl:Int->Int->Int
 mi:Int->Int->Int
 sc:Int->Nat->Int
 slen:List UInt8->Int
 sat:List UInt8->Int->Int
 ssub:List UInt8->Int->Int->List UInt8
 app:List SV->List SV->List SV
 sub:List SV->Int->Int->Nat->List SV
 flen:List SV->Int
 br:Bool->(Unit->Prop)->(Unit->Prop)->Prop
 nil:Int->(Unit->Prop)->(Unit->Prop)->Prop
 eqv:Sg->SV->SV->(Unit->Prop)->(Unit->Prop)->Prop
 lk:Sg->SV->(SV->Bool->Prop)->SV->List (SV×SV)->Prop
 mu:Sg->SV->SV->(List (SV×SV)->Prop)->List (SV×SV)->List (SV×SV)->Prop
 chk:Bool->(Unit->Prop)->Prop
 rd:List SV->Int->Nat->Nat->Nat->Bool->(SV->Prop)->Prop
 wr:List SV->Int->Nat->Nat->List SV->(List SV->Prop)->Prop
 bs:List SV->Int->Int->(List UInt8->Prop)->Prop
 mkr:List SV->Int->Int->(List SV->Prop)->Prop
 sb:List UInt8->List SV
 call:FuncId->List SV->List Blk->(SV->List Blk->Prop)->Prop
 rfc:FuncId->List SV->List Blk->(SV->List Blk->Prop)->Prop
 yld:Nat->List SV->List Blk->(SV->List Blk->Prop)->Prop
 loop:Cx->IR->Env->List Blk->(Ex->Env->List Blk->Prop)->Prop
 jump:Cx->IR->Nat->Env->List Blk->(Ex->Env->List Blk->Prop)->Prop
 drw:Cx->List AO->List (List Nat)->Env->List Blk->(Env->List Blk->Prop)->Prop
def nth:List SV->Nat->SV
 | [],_=>.any
 | v::_,0=>v
 | _::l,n+1=>nth l n
def put:List SV->Nat->SV->List SV
 | [],_,_=>[]
 | _::l,0,v=>v::l
 | x::l,n+1,v=>x::put l n v
def putO (vs:List SV) (d:Option Nat) (v:SV):List SV:=match d with|some d=>put vs d v|none=>vs
def puts:List SV->List Nat->SV->List SV
 | vs,[],_=>vs
 | vs,d::ds,v=>puts (put vs d v) ds v
def lget:List Blk->Nat->Blk
 | [],_=>.dead
 | v::_,0=>v
 | _::l,n+1=>lget l n
def lset:List Blk->Nat->Blk->List Blk
 | [],_,_=>[]
 | _::l,0,v=>v::l
 | x::l,n+1,v=>x::lset l n v
def len:List Blk->Nat
 | []=>0
 | _::l=>len l+1
def snoc:List Blk->Blk->List Blk
 | [],b=>[b]
 | x::l,b=>x::snoc l b
def dropS:List SV->Nat->List SV
 | l,0=>l
 | [],_+1=>[]
 | _::l,n+1=>dropS l n
def takeS:List SV->Nat->List SV
 | _,0=>[]
 | [],_+1=>[]
 | x::l,n+1=>x::takeS l n
def lenS:List SV->Nat
 | []=>0
 | _::l=>lenS l+1
def catS:List SV->List SV->List SV
 | [],m=>m
 | x::l,m=>x::catS l m
def repl:List SV->Nat->List SV->List SV
 | cs,_,[]=>cs
 | cs,o,v::vs=>repl (put cs o v) (o+1) vs
def over:List SV->List SV->List SV
 | cs,[]=>cs
 | [],_::_=>[]
 | _::cs,v::vs=>v::over cs vs
def replL:List SV->Nat->List SV->List SV
 | cs,0,ws=>over cs ws
 | [],_+1,_=>[]
 | c::cs,o+1,ws=>c::replL cs o ws
theorem qzand:∀ (ws:List SV) (o:Nat),repl [] o ws=[]
 | [],_=>rfl
 | _::ws,o=>by rw[repl,put,qzand ws]
theorem qzagg:∀ (ws cs:List SV) (c:SV) (o:Nat),repl (c::cs) (o+1) ws=c::repl cs o ws
 | [],_,_,_=>rfl
 | _::ws,cs,c,o=>by rw[repl,repl,put,qzagg ws]
theorem qzare:∀ (ws cs:List SV),repl cs 0 ws=over cs ws
 | [],cs=>by cases cs<;>rfl
 | v::ws,[]=>by rw[qzand];rfl
 | v::ws,c::cs=>by rw[repl,put,qzagg,over,qzare ws cs]
theorem qrt:∀ (cs:List SV) (o:Nat) (ws:List SV),replL cs o ws=repl cs o ws
 | cs,0,ws=>by rw[replL,qzare]
 | [],o+1,ws=>by rw[replL,qzand]
 | c::cs,o+1,ws=>by rw[replL,qzagg,qrt cs o ws]
def ev (vs:List SV):Opd->SV
 | .t n=>nth vs n
 | .c x=>x
def evs (vs:List SV):List Opd->List SV
 | []=>[]
 | x::xs=>ev vs x::evs vs xs
def mkv (agg:Bool) (cs:List SV):Option SV:=
 match agg,cs with
 | true,cs=>some (.ag cs)
 | false,[x]=>some x
 | false,_=>none
def cellsOf:SV->Option (List SV)
 | .ag cs=>some cs
 | .any | .un | .tp _=>none
 | x=>some [x]
def fillS (vs:List SV):List SV->List (Nat×Nat×Opd)->Option (List SV)
 | cs,[]=>some cs
 | cs,(o,n,x)::r=>match cellsOf (ev vs x) with
  | some ws=>if lenS ws=n/\o+n<=lenS cs then fillS vs (replL cs o ws) r else none
  | none=>none
def repS:Nat->List SV->List SV
 | 0,_=>[]
 | n+1,z=>catS z (repS n z)
def arS (op:BK) (k:IntKind) (a b:Int):Int:=
 match op with
 | .add=>k.wrap (a+b)
 | .sub=>k.wrap (a-b)
 | .mul=>k.wrap (a*b)
 | .quo=>k.wrap (a.tdiv b)
 | .rem=>a.tmod b
 | .and=>k.wrap (BitVec.ofInt k.bits a &&& BitVec.ofInt k.bits b).toNat
 | .or=>k.wrap (BitVec.ofInt k.bits a ||| BitVec.ofInt k.bits b).toNat
 | .xor=>k.wrap (BitVec.ofInt k.bits a ^^^ BitVec.ofInt k.bits b).toNat
 | .andn=>k.wrap (BitVec.ofInt k.bits a &&& ~~~ BitVec.ofInt k.bits b).toNat
 | .shl=>k.wrap (a*2 ^ (min b.toNat k.bits))
 | .shr=>a.fdiv (2 ^ (min b.toNat k.bits))
 | .min=>if b<a then b else a
 | .max=>if a<b then b else a
 | _=>0
def BK.lit (op:BK) (k:IntKind) (a b:Int):Option Int:=
 match op with
 | .add=>some (k.wrap (a+b))
 | .sub=>some (k.wrap (a-b))
 | .mul=>some (k.wrap (a*b))
 | .min=>some (if b<a then b else a)
 | .max=>some (if a<b then b else a)
 | .and=>some (arS .and k a b)
 | .or=>some (arS .or k a b)
 | .xor=>some (arS .xor k a b)
 | .andn=>some (arS .andn k a b)
 | _=>none
def BK.isCmp:BK->Bool
 | .lt | .le | .gt | .ge | .eq | .ne=>true
 | _=>false
def BK.cmpLit (op:BK) (a b:Int):Bool:=
 match op with
 | .lt=>decide (a<b)
 | .le=>decide (a<=b)
 | .gt=>decide (b<a)
 | .ge=>decide (b<=a)
 | .eq=>decide (a=b)
 | .ne=>!decide (a=b)
 | _=>false
def ofB:Bool->SV
 | true=>.tt
 | false=>.ff
def brv (S:Sy) (x:SV) (k1 k2:Unit->Prop):Prop:=
 match x with
 | .tt=>k1 ()
 | .ff=>k2 ()
 | .b x=>S.br x k1 k2
 | _=>False
def vbin (S:Sy) (op:BK) (x y:SV) (K:SV->Prop):Prop:=
 match x,y with
 | .i k a,.i k' b=>
  match op with
  | .shl | .shr=>
   match b with
   | .l n=>if 0<=n then (match a with
    | .l m=>K (.i k (.l (arS op k m n)))
    | .y m=>S.ar op k m n λr=>K (.i k (.y r))) else False
   | .y n=>S.chk (S.cmp .ge n 0) λ_=>S.ar op k a.v n λr=>K (.i k (.y r))
  | .quo | .rem=>
   if k=k' then
    match b with
    | .l n=>if n=0 then False else (match a with
     | .l m=>K (.i k (.l (arS op k m n)))
     | .y m=>S.ar op k m n λr=>K (.i k (.y r)))
    | .y n=>S.chk (S.cmp .ne n 0) λ_=>S.ar op k a.v n λr=>K (.i k (.y r))
   else False
  | _=>
   if k=k' then
    if op.isCmp then
     match a,b with
     | .l m,.l n=>K (ofB (op.cmpLit m n))
     | a,b=>K (.b (S.cmp op a.v b.v))
    else
     match a,b with
     | .l m,.l n=>match op.lit k m n with
      | some r=>K (.i k (.l r))
      | none=>S.ar op k m n λr=>K (.i k (.y r))
     | a,b=>S.ar op k a.v b.v λr=>K (.i k (.y r))
   else False
 | .s a,.s b=>
  match op with
  | .add=>S.chk (S.cmp .le (S.pl (S.slen a) (S.slen b)) 1099511627776) λ_=>K (.s (S.scat a b))
  | op=>if op.isCmp then K (.b (S.scmp op a b)) else False
 | _,_=>False
def veq1 (S:Sy) (s:Kd) (x y:SV) (K1 K2:Unit->Prop):Prop:=
 match s with
 | .kb=>match x,y with
  | .tt,.tt=>K1 ()
  | .ff,.ff=>K1 ()
  | .tt,.ff=>K2 ()
  | .ff,.tt=>K2 ()
  | .b x,.tt=>S.br x K1 K2
  | .b x,.ff=>S.br x K2 K1
  | .tt,.b x=>S.br x K1 K2
  | .ff,.b x=>S.br x K2 K1
  | .b x,.b y=>S.br (S.beq x y) K1 K2
  | _,_=>False
 | .ki=>match x,y with
  | .i k a,.i k' b=>if k=k' then (match a,b with
   | .l m,.l n=>if m=n then K1 () else K2 ()
   | a,b=>S.br (S.cmp .eq a.v b.v) K1 K2) else False
  | _,_=>False
 | .ks=>match x,y with
  | .s a,.s b=>S.br (S.scmp .eq a b) K1 K2
  | _,_=>False
def kinds:List Kd->List SV->List SV->Bool
 | [],[],[]=>true
 | .kb::ss,x::xs,y::ys=>(match x with | .tt | .ff | .b _=>true|_=>false)&&(match y with | .tt | .ff | .b _=>true|_=>false)&&kinds ss xs ys
 | .ki::ss,.i k _::xs,.i k' _::ys=>(if k=k' then true else false)&&kinds ss xs ys
 | .ks::ss,.s _::xs,.s _::ys=>kinds ss xs ys
 | _,_,_=>false
def veqL (S:Sy):List Kd->List SV->List SV->(Unit->Prop)->(Unit->Prop)->Prop
 | [],_,_,K1,_=>K1 ()
 | s::ss,x::xs,y::ys,K1,K2=>veq1 S s x y (λ_=>veqL S ss xs ys K1 K2) K2
 | _,_,_,_,_=>False
def isAg:SV->Bool
 | .ag _=>true
 | _=>false
def veq (S:Sy) (sig:Sg) (x y:SV) (K1 K2:Unit->Prop):Prop:=
 match cellsOf x,cellsOf y with
 | some xs,some ys=>if isAg x=sig.agg/\isAg y=sig.agg/\kinds sig.ks xs ys=true then veqL S sig.ks xs ys K1 K2 else False
 | _,_=>False
def vkey (sig:Sg) (x:SV):Bool:=
 match cellsOf x with
 | some xs=>(match isAg x,sig.agg with|true,true=>true|false,false=>true|_,_=>false)&&kinds sig.ks xs xs
 | none=>false
def vnil (map:Bool) (x:SV):Option Bool:=
 match map,x with
 | false,.re .nilFunc=>some true
 | true,.re (.map none)=>some true
 | false,.fn _ _ _=>some false
 | false,.yl _=>some false
 | true,.m _=>some false
 | _,_=>none
def veqN (map:Bool) (x y:SV) (K:Bool->Prop):Prop:=
 match vnil map x,vnil map y with
 | some true,some b=>K b
 | some false,some true=>K false
 | _,_=>False
def vload (S:Sy) (l:List Blk) (agg:Bool) (n:Nat) (x:SV) (K:SV->Prop):Prop:=
 match x with
 | .p k o=>match lget l k with
  | .c cs=>if o+n<=lenS cs then (match mkv agg (takeS (dropS cs o) n) with|some v=>K v|none=>False) else False
  | _=>False
 | .pe k i sz j=>match lget l k with
  | .r _ lit _ sz' F=>if sz=sz' then (match lit,i with
   | true,.l i'=>if i'.toNat*sz+j+n<=lenS F/\j+n<=sz then (match mkv agg (takeS (dropS F (i'.toNat*sz+j)) n) with|some v=>K v|none=>False) else False
   | _,i=>S.rd F i.v sz j n agg K) else False
  | .c cs=>match i with
   | .l i'=>if i'.toNat*sz+j+n<=lenS cs then (match mkv agg (takeS (dropS cs (i'.toNat*sz+j)) n) with|some v=>K v|none=>False) else False
   | .y i'=>S.rd cs i' sz j n agg K
  | _=>False
 | .pv lit F i sz j=>match lit,i with
  | true,.l i'=>if i'.toNat*sz+j+n<=lenS F/\j+n<=sz then (match mkv agg (takeS (dropS F (i'.toNat*sz+j)) n) with|some v=>K v|none=>False) else False
  | _,i=>S.rd F i.v sz j n agg K
 | _=>False
def scalar:SV->Bool
 | .ag _ | .tp _ | .un | .any=>false
 | _=>true
def scalars:List SV->Bool
 | []=>true
 | x::xs=>scalar x&&scalars xs
def plainIf:Bool->List SV->Bool
 | true,F=>plains F
 | false,_=>true
def vstore0 (S:Sy) (l:List Blk) (n:Nat) (x v:SV) (K:List Blk->Prop):Prop:=
 match cellsOf v with
 | none=>False
 | some ws=>
  if lenS ws=n/\scalars ws=true/\n≠0 then
   match x with
   | .p k o=>match lget l k with
    | .c cs=>if o+n<=lenS cs then K (lset l k (.c (replL cs o ws))) else False
    | _=>False
   | .pe k i sz j=>match lget l k with
    | .c cs=>match i with
     | .l i'=>if i'.toNat*sz+j+n<=lenS cs then K (lset l k (.c (replL cs (i'.toNat*sz+j) ws))) else False
     | .y i'=>S.wr cs i' sz j ws λcs'=>K (lset l k (.c cs'))
    | .r false lit st sz' F=>if sz=sz'/\j+n<=sz then (match lit,i,st with
     | true,.l i',.l s=>if i'.toNat*sz+j+n<=lenS F/\s<=i'.toNat*sz then K (lset l k (.r false true st sz (replL F (i'.toNat*sz+j) ws))) else False
     | lit,i,st=>if plainIf lit F=true then S.chk (S.cmp .le st.v (S.sc i.v sz)) λ_=>S.wr F i.v sz j ws λF'=>K (lset l k (.r false false st sz F')) else False) else False
    | _=>False
   | _=>False
  else False
def vstoreB (S:Sy) (l:List Blk) (n:Nat) (x v:SV) (K:List Blk->Prop):Prop:=
 match v with
 | .ag ws=>match x with
  | .p k o=>match lget l k with
   | .c cs=>S.chk (S.cmp .eq (S.flen ws) n) λ_=>S.wr cs 0 (o+n) o ws λcs'=>K (lset l k (.c cs'))
   | _=>False
  | _=>False
 | _=>False
def vstore (S:Sy) (l:List Blk) (n:Nat) (x v:SV) (K:List Blk->Prop):Prop:=
 match Nat.ble 100 n with
 | true=>vstoreB S l n x v K
 | false=>vstore0 S l n x v K
def zadd (S:Sy) (a b:Z):Z:=match a,b with | .l m,.l n=>.l (m+n) | .l 0,.y n=>.y n | .y m,.l 0=>.y m|a,b=>.y (S.pl a.v b.v)
def zsub (S:Sy) (a b:Z):Z:=match a,b with | .l m,.l n=>.l (m-n) | .y m,.l 0=>.y m|a,b=>.y (S.mi a.v b.v)
def zle (S:Sy) (a b:Z) (K:Unit->Prop):Prop:=match a,b with | .l m,.l n=>if m<=n then K () else False|a,b=>S.chk (S.cmp .le a.v b.v) K
def zlt (S:Sy) (a b:Z) (K:Unit->Prop):Prop:=match a,b with | .l m,.l n=>if m<n then K () else False|a,b=>S.chk (S.cmp .lt a.v b.v) K
def intZ:SV->Option Z
 | .i _ z=>some z
 | _=>none
def optZ (vs:List SV) (d:Z):Option Opd->Option Z
 | none=>some d
 | some x=>intZ (ev vs x)
def srcOf (S:Sy) (l:List Blk) (sz:Nat) (y:SV):Option (List SV×Z×Bool):=
 match y with
 | .sl k sz' off len _=>match lget l k with
  | .r _ lit _ sz'' F=>if sz=sz'/\sz'=sz'' then (match lit,off,len with
   | true,.l o,.l n=>some (takeS (dropS F (o.toNat*sz)) (n.toNat*sz),.l n,true)
   | lit,off,len=>if plainIf lit F=true then some (S.sub F off.v len.v sz,len,false) else none) else none
  | _=>none
 | .v lit sz' F n=>if sz=sz' then (match lit,n with
  | true,.l n=>some (F,.l n,true)
  | _,n=>some (F,n,false)) else none
 | .re (.slice none 0 0)=>some ([],.l 0,true)
 | .s x=>if sz=1 then some (S.sb x,.y (S.slen x),false) else none
 | _=>none
def allN:Option Opd->Option Opd->Option Opd->Bool
 | none,none,none=>true
 | _,_,_=>false
def vpart (S:Sy) (lit:Bool) (sz:Nat) (F:List SV) (a n:Z):SV:=
 match lit,a,n with
 | true,.l a,.l n=>.v true sz (takeS (dropS F (a.toNat*sz)) (n.toNat*sz)) (.l n)
 | _,a,n=>.v false sz (S.sub F a.v n.v sz) n
def vnew (S:Sy) (l:List Blk) (sz:Nat) (ys:List SV) (n:Z) (ylit:Bool) (K:SV->List Blk->Prop):Prop:=
 zle S n (.l 137438953472) λ_=>K (.sl (len l) sz (.l 0) n none) (snoc l (.r false ylit (.l 0) sz ys))
def scalarsIf:Bool->List SV->Bool
 | true,F=>scalars F
 | false,_=>true
def vsl2 (S:Sy) (k sz:Nat) (off a b c:Z) (K:SV->Prop):Prop:=
 zle S c (.l (-1)) λ_=>zle S (.l 0) a λ_=>zle S a b λ_=>zle S b (zsub S (.l (-1)) c) λ_=>K (.sl k sz (zadd S off a) (zsub S b a) (some (zadd S c a)))
def vap2 (S:Sy) (l:List Blk) (k sz:Nat) (ln:Z) (ys:List SV) (n:Z) (ylit:Bool) (c:Z) (K:SV->List Blk->Prop):Prop:=
 match lget l k with
 | .r false lit st sz' F=>if sz=sz'/\plainIf ylit ys=true then
   zle S c (.l (-1)) λ_=>zle S (zadd S ln n) (zsub S (.l (-1)) c) λ_=>S.chk (S.cmp .le st.v (S.sc ln.v sz)) λ_=>K (.sl k sz (.l 0) (zadd S ln n) (some c)) (lset l k (.r false lit st sz (repl F (ln.v.toNat*sz) ys)))
  else False
 | _=>False
def vapp (S:Sy) (l:List Blk) (sz:Nat) (x y:SV) (K:SV->List Blk->Prop):Prop:=
 match srcOf S l sz y with
 | none=>False
 | some (ys,n,ylit)=>
  if scalarsIf ylit ys=true then
   match x with
   | .re (.slice none 0 0)=>vnew S l sz ys n ylit K
   | .sl _ sz' (.l off) (.l ln) (some (.l 0))=>if sz=sz'/\off=0/\ln=0 then vnew S l sz ys n ylit K else False
   | .sl k sz' (.l off) ln (some c)=>if sz=sz'/\off=0 then vap2 S l k sz ln ys n ylit c K else False
   | .sl k sz' (.l off) ln none=>if sz=sz'/\off=0 then (match lget l k with
    | .r false lit _ sz'' F=>if sz=sz'' then (match lit,ylit,ln with
     | true,true,.l ln'=>if ln'.toNat*sz=lenS F then zle S (zadd S ln n) (.l 137438953472) λ_=>
       K (.sl k sz (.l 0) (zadd S ln n) none) (lset l k (.r false true (.l (lenS F)) sz (catS F ys)))
      else if 0<ln'.toNat then zle S (zadd S ln n) (.l 137438953472) λ_=>
       K (.sl (len l) sz (.l 0) (zadd S ln n) none) (snoc (lset l k .dead) (.r true true (.l 0) sz (catS (takeS F (ln'.toNat*sz)) ys))) else False
     | lit,ylit,ln=>if plainIf lit F=true/\plainIf ylit ys=true then S.chk (S.cmp .eq (S.sc ln.v sz) (S.flen F)) λ_=>zle S (zadd S ln n) (.l 137438953472) λ_=>
       K (.sl k sz (.l 0) (zadd S ln n) none) (lset l k (.r false false (.y (S.flen F)) sz (S.app F ys))) else False) else False
    | _=>False) else False
   | _=>False
  else False
def vlook (S:Sy) (sig:Sg) (key:SV) (K:SV->Bool->Prop) (zero:SV):List (SV×SV)->Prop
 | []=>K zero false
 | (k,v)::r=>veq S sig key k (λ_=>K v true) (λ_=>vlook S sig key K zero r)
def lenM:List (SV×SV)->Nat
 | []=>0
 | _::l=>lenM l+1
def hasM:List Nat->Nat->Bool
 | [],_=>false
 | x::l,i=>Nat.beq x i||hasM l i
def allM (seen:List Nat):Nat->Bool
 | 0=>true
 | n+1=>hasM seen n&&allM seen n
def addM:List Nat->Nat->List Nat
 | [],i=>[i]
 | x::l,i=>x::addM l i
def lastM:List Nat->Option Nat
 | []=>none
 | [x]=>some x
 | _::y::l=>lastM (y::l)
def vpos (seen:List Nat) (K:Nat->SV->SV->Prop):Nat->List (SV×SV)->Prop
 | _,[]=>True
 | i,(a,b)::r=>if hasM seen i then vpos seen K (i+1) r else K i a b/\vpos seen K (i+1) r
def vent:Option Nat->List (SV×SV)->(SV->SV->Prop)->Prop
 | none,_,_=>False
 | some _,[],_=>False
 | some 0,(a,b)::_,K=>K a b
 | some (i+1),_::r,K=>vent (some i) r K
def vmupd (S:Sy) (sig:Sg) (key v:SV) (K:List (SV×SV)->Prop):List (SV×SV)->List (SV×SV)->Prop
 | acc,[]=>K (acc++[(key,v)])
 | acc,(k,u)::r=>veq S sig key k (λ_=>K (acc++(key,v)::r)) (λ_=>vmupd S sig key v K (acc++[(k,u)]) r)
def vment (S:Sy) (sig:Sg) (key zero:SV) (K:SV->Nat->List (SV×SV)->Prop):List (SV×SV)->List (SV×SV)->Prop
 | acc,[]=>K zero (lenM acc) (acc++[(key,zero)])
 | acc,(k,u)::r=>veq S sig key k (λ_=>K u (lenM acc) (acc++(key,u)::r)) (λ_=>vment S sig key zero K (acc++[(k,u)]) r)
def setM:List (SV×SV)->Nat->SV->List (SV×SV)
 | [],_,_=>[]
 | (k,_)::r,0,v=>(k,v)::r
 | e::r,i+1,v=>e::setM r i v
def vmest (es:List (SV×SV)) (i:Int) (v:SV) (K:List (SV×SV)->Prop):Prop:=if 0<=i/\i.toNat<lenM es then K (setM es i.toNat v) else False
def vbins (S:Sy) (op:BK):List SV->SV->(SV->Prop)->Prop
 | [],v,K=>K v
 | y::r,v,K=>vbin S op v y λu=>vbins S op r u K
def pz:List SV->List SV
 | []=>[]
 | .re (.slice none 0 0)::r=>.v true 1 [] (.l 0)::pz r
 | x::r=>x::pz r
def roomC (a b:Option Z) (ln:Z) (cap:Option Z):Option Z:=
 match a,b,ln,cap with
 | some (.l 0),some (.l 0),.l n,none=>if 0<n then some (.l (-1-n)) else none
 | _,_,_,cap=>cap
def vclr1 (S:Sy) (l:List Blk) (sz:Nat) (zero:List SV) (k:Nat) (off ln:Z) (K:List Blk->Prop):Prop:=
 match lget l k with
 | .r false lit st sz'' F=>if sz=sz''/\scalars zero=true then (match lit,off,ln,st with
  | true,.l o,.l n,.l s=>if s<=o.toNat*sz/\0<n then K (lset l k (.r false true (.l s) sz (replL F (o.toNat*sz) (repS n.toNat zero)))) else False
  | lit,off,ln,st=>if plainIf lit F=true/\plains (pz zero)=true then S.chk (S.cmp .le st.v (S.sc off.v sz)) λ_=>S.chk (S.cmp .lt 0 ln.v) λ_=>K (lset l k (.r false false st sz (repl F (off.v.toNat*sz) (repS ln.v.toNat (pz zero))))) else False) else False
 | _=>False
def isL0:Z->Bool
 | .l 0=>true
 | _=>false
def vclr (S:Sy) (l:List Blk) (sz:Nat) (zero:List SV) (x:SV) (K:List Blk->Prop):Prop:=
 match x with
 | .re (.slice none 0 0)=>K l
 | .sl k sz' off ln _=>if sz=sz' then (match isL0 ln with
  | true=>K l
  | false=>vclr1 S l sz zero k off ln K) else False
 | _=>False
def vop (S:Sy) (o:AOp) (vs:List SV) (l:List Blk) (K:SV->List Blk->Prop):Prop:=
 match o with
 | .mv x=>K (ev vs x) l
 | .pick c a b=>brv S (ev vs c) (λ_=>K (ev vs a) l) (λ_=>K (ev vs b) l)
 | .alloc cs=>K (.p (len l) 0) (snoc l (.c cs))
 | .box x=>match cellsOf (ev vs x) with
  | some cs=>if scalars cs then K (.p (len l) 0) (snoc l (.c cs)) else False
  | none=>False
 | .build zero parts=>match fillS vs zero parts with
  | some cs=>if scalars cs then K (.ag cs) l else False
  | none=>False
 | .buildS sz n zero parts=>match fillS vs (repS n zero) (parts.map λ(i,x)=>(i*sz,sz,x)) with
  | some cs=>if scalars cs then K (.sl (len l) sz (.l 0) (.l n) none) (snoc l (.r false true (.l 0) sz cs)) else False
  | none=>False
 | .load agg n x=>vload S l agg n (ev vs x) λv=>K v l
 | .store n x v=>vstore S l n (ev vs x) (ev vs v) λl'=>K .un l'
 | .nilc x=>match ev vs x with
  | .p k o=>K (.p k o) l
  | .pe k i sz j=>K (.pe k i sz j) l
  | .pv lit F i sz j=>K (.pv lit F i sz j) l
  | .fn (.func f) a c=>K (.fn (.func f) a c) l
  | .yl k=>K (.yl k) l
  | _=>False
 | .bin op x y=>vbin S op (ev vs x) (ev vs y) λv=>K v l
 | .eqA sig neg x y=>S.eqv sig (ev vs x) (ev vs y) (λ_=>K (ofB (!neg)) l) (λ_=>K (ofB neg) l)
 | .eqN map neg x y=>veqN map (ev vs x) (ev vs y) λb=>K (ofB (if neg then !b else b)) l
 | .nilS neg x=>match ev vs x with
  | .re (.slice none 0 0)=>K (ofB (!neg)) l
  | .sl _ _ _ ln _=>S.nil ln.v (λ_=>K (ofB (!neg)) l) (λ_=>K (ofB neg) l)
  | .v _ _ _ ln=>S.nil ln.v (λ_=>K (ofB (!neg)) l) (λ_=>K (ofB neg) l)
  | _=>False
 | .not x=>match ev vs x with
  | .tt=>K .ff l
  | .ff=>K .tt l
  | .b x=>K (.b (S.nt x)) l
  | _=>False
 | .neg x=>match ev vs x with
  | .i k (.l n)=>K (.i k (.l (arS .sub k 0 n))) l
  | .i k (.y n)=>S.ar .sub k 0 n λr=>K (.i k (.y r)) l
  | _=>False
 | .cv k x=>match ev vs x with
  | .i _ (.l n)=>K (.i k (.l (k.wrap n))) l
  | .i _ (.y n)=>S.cv k n λr=>K (.i k (.y r)) l
  | _=>False
 | .cvSS x=>match ev vs x with
  | .s s=>K (.s s) l
  | _=>False
 | .cvBS x=>match ev vs x with
  | .sl k sz off len _=>match lget l k with
   | .r _ _ _ sz' F=>if sz=1/\sz'=1 then S.bs F off.v len.v λx=>K (.s x) l else False
   | _=>False
  | .v _ sz F n=>if sz=1 then S.bs F 0 n.v λx=>K (.s x) l else False
  | .re (.slice none _ _)=>K (.s []) l
  | _=>False
 | .cvSB x=>match ev vs x with
  | .s x=>K (.sl (len l) 1 (.l 0) (.y (S.slen x)) none) (snoc l (.r false false (.l 0) 1 (S.sb x)))
  | _=>False
 | .cvLL x=>match ev vs x with
  | .sl k sz off (.l n) cap=>if 0<n/\0<sz then (match lget l k with
   | .r false _ _ _ _=>K (.sl k sz off (.l n) cap) l
   | _=>False) else False
  | _=>False
 | .mkF f a c=>K (.fn f (evs vs a) (evs vs c)) l
 | .mkM=>K (.m (len l)) (snoc l (.m []))
 | .mkS sz zero n cap=>match intZ (ev vs n),intZ (ev vs cap) with
  | some (.l n),some (.l c)=>if n=c/\0<=n/\n<=65536 then K (.sl (len l) sz (.l 0) (.l n) none) (snoc l (.r false true (.l 0) sz (repS n.toNat zero))) else False
  | some a,some b=>S.mkr zero a.v b.v λF=>K (.sl (len l) sz (.l 0) (.y a.v) none) (snoc l (.r false false (.l 0) sz F))
  | _,_=>False
 | .slc sz x lo hi mx=>match ev vs x with
  | .sl k sz' off ln cap=>
   if sz=sz' then
    match optZ vs (.l 0) lo,optZ vs ln hi,mx,roomC (optZ vs (.l 0) lo) (optZ vs ln hi) ln cap with
    | some a,some b,none,none=>zle S (.l 0) a λ_=>zle S a b λ_=>zle S b ln λ_=>K (.sl k sz (zadd S off a) (zsub S b a) none) l
    | some a,some b,some m,none=>match intZ (ev vs m) with
     | some m=>zle S (.l 0) a λ_=>zle S a b λ_=>zle S b m λ_=>zle S m ln λ_=>K (.sl k sz (zadd S off a) (zsub S b a) (some (zsub S m a))) l
     | none=>False
    | some a,some b,none,some c=>vsl2 S k sz off a b c λv=>K v l
    | some a,some b,some m,some c=>match intZ (ev vs m) with
     | some m=>zle S c (.l (-1)) λ_=>zle S (.l 0) a λ_=>zle S a b λ_=>zle S b m λ_=>zle S m (zsub S (.l (-1)) c) λ_=>K (.sl k sz (zadd S off a) (zsub S b a) (some (zsub S m a))) l
     | none=>False
    | _,_,_,_=>False
   else False
  | .v lit sz' F n=>
   if sz=sz' then
    match allN lo hi mx with
    | true=>K (.v lit sz F n) l
    | false=>match optZ vs (.l 0) lo,optZ vs n hi,optZ vs n mx with
     | some a,some b,some m=>zle S (.l 0) a λ_=>zle S a b λ_=>zle S b m λ_=>zle S m n λ_=>K (vpart S lit sz F a (zsub S b a)) l
     | _,_,_=>False
   else False
  | .re (.slice none 0 0)=>match optZ vs (.l 0) lo,optZ vs (.l 0) hi,optZ vs (.l 0) mx with
   | some a,some b,some m=>zle S (.l 0) a λ_=>zle S a b λ_=>zle S b m λ_=>zle S m (.l 0) λ_=>K (.re (.slice none 0 0)) l
   | _,_,_=>False
  | _=>False
 | .slcS x lo hi=>match ev vs x with
  | .s x=>match optZ vs (.l 0) lo,optZ vs (.y (S.slen x)) hi with
   | some a,some b=>zle S (.l 0) a λ_=>zle S a b λ_=>zle S b (.y (S.slen x)) λ_=>K (.s (S.ssub x a.v b.v)) l
   | _,_=>False
  | _=>False
 | .fad off x=>match ev vs x with
  | .p k o=>K (.p k (o+off)) l
  | .pe k i sz j=>K (.pe k i sz (j+off)) l
  | .pv lit F i sz j=>K (.pv lit F i sz (j+off)) l
  | _=>False
 | .fld agg off n x=>match ev vs x with
  | .ag cs=>if off+n<=lenS cs then (match mkv agg (takeS (dropS cs off) n) with|some v=>K v l|none=>False) else False
  | _=>False
 | .iadA n sz x i=>match ev vs x,intZ (ev vs i) with
  | .p k o,some z=>match lget l k with
   | .c cs=>if o=0/\n*sz=lenS cs then zle S (.l 0) z λ_=>zlt S z (.l n) λ_=>K (.pe k z sz 0) l
    else if o+n*sz<=lenS cs then zle S (.l 0) z λ_=>zlt S z (.l n) λ_=>K (.p k (o+z.v.toNat*sz)) l else False
   | _=>False
  | .pe k i sz0 j,some (.l z)=>if 0<=z/\z<n/\j+n*sz<=sz0 then K (.pe k i sz0 (j+z.toNat*sz)) l else False
  | .pv lit F i sz0 j,some (.l z)=>if 0<=z/\z<n/\j+n*sz<=sz0 then K (.pv lit F i sz0 (j+z.toNat*sz)) l else False
  | _,_=>False
 | .iadS sz x i=>match ev vs x,intZ (ev vs i) with
  | .sl k sz' off ln _,some z=>if sz=sz' then zle S (.l 0) z λ_=>zlt S z ln λ_=>K (.pe k (zadd S off z) sz 0) l else False
  | .v lit sz' F n,some z=>if sz=sz' then zle S (.l 0) z λ_=>zlt S z n λ_=>K (.pv lit F z sz 0) l else False
  | _,_=>False
 | .ixA agg n sz x i=>match ev vs x,intZ (ev vs i) with
  | .ag cs,some (.l z)=>if 0<=z/\z<n/\n*sz=lenS cs then (match mkv agg (takeS (dropS cs (z.toNat*sz)) sz) with|some v=>K v l|none=>False) else False
  | .ag cs,some (.y z)=>if n*sz=lenS cs then S.rd cs z sz 0 sz agg λv=>K v l else False
  | _,_=>False
 | .ixS x i=>match ev vs x,intZ (ev vs i) with
  | .s x,some z=>zle S (.l 0) z λ_=>zlt S z (.y (S.slen x)) λ_=>K (.i .u8 (.y (S.sat x z.v))) l
  | _,_=>False
 | .look sig zero ok m k=>if vkey sig (ev vs k)=true then (match ev vs m with
  | .m b=>match lget l b with
   | .m es=>S.lk sig (ev vs k) (λv f=>K (if ok then .tp [v,ofB f] else v) l) zero es
   | _=>False
  | .re (.map none)=>K (if ok then .tp [zero,.ff] else zero) l
  | _=>False) else False
 | .mupd sig m k v=>if vkey sig (ev vs k)=true then (match ev vs m with
  | .m b=>match lget l b with
   | .m es=>S.mu sig (ev vs k) (ev vs v) (λes'=>K .un (lset l b (.m es'))) [] es
   | _=>False
  | _=>False) else False
 | .ment sig zero m k=>if vkey sig (ev vs k)=true then (match ev vs m with
  | .m b=>match lget l b with
   | .m es=>vment S sig (ev vs k) zero (λv i es'=>K (.tp [v,.i .i64 (.l (i:Int))]) (lset l b (.m es'))) [] es
   | _=>False
  | _=>False) else False
 | .mest m s x=>match ev vs m,ev vs s with
  | .m b,.i _ (.l i)=>match lget l b with
   | .m es=>vmest es i (ev vs x) λes'=>K .un (lset l b (.m es'))
   | _=>False
  | _,_=>False
 | .clr sz zero x=>vclr S l sz zero (ev vs x) λl'=>K (.tp []) l'
 | .bins op xs=>match evs vs xs with
  | []=>False
  | x::r=>vbins S op r x λv=>K v l
 | .nilP neg x=>match ev vs x with
  | .p _ _=>K (ofB neg) l
  | .re (.pointer none)=>K (ofB (!neg)) l
  | _=>False
 | .rng x=>match ev vs x with
  | .m b=>match lget l b with
   | .m es=>K (.p (len l) 0) (snoc l (.it b (lenM es) []))
   | _=>False
  | _=>False
 | .nxt x=>match ev vs x with
  | .p k 0=>match lget l k with
   | .it km n seen=>match lget l km with
    | .m es=>if lenM es=n then (if allM seen n then K (.tp [.ff]) l else
      vpos seen (λi a b=>K (.tp [.tt,a,b]) (lset l k (.it km n (addM seen i)))) 0 es) else False
    | _=>False
   | _=>False
  | _=>False
 | .ent x=>match ev vs x with
  | .p k 0=>match lget l k with
   | .it km n seen=>match lget l km with
    | .m es=>if lenM es=n then vent (lastM seen) es (λa b=>K (.tp [a,b]) l) else False
    | _=>False
   | _=>False
  | _=>False
 | .ext x n=>match ev vs x with
  | .tp ws=>if n<lenS ws then K (nth ws n) l else False
  | _=>False
 | .call f args=>match ev vs f with
  | .fn (.func g) a c=>S.call g (catS a (catS (evs vs args) c)) l K
  | .yl k=>S.yld k (evs vs args) l K
  | _=>False
 | .len str x=>match str,ev vs x with
  | false,.sl _ _ _ ln _=>K (.i .i64 ln) l
  | false,.v _ _ _ ln=>K (.i .i64 ln) l
  | false,.re (.slice none 0 _)=>K (.i .i64 (.l 0)) l
  | true,.s x=>K (.i .i64 (.y (S.slen x))) l
  | _,_=>False
 | .app sz x y=>vapp S l sz (ev vs x) (ev vs y) K
 | .capS x=>match ev vs x with
  | .re (.slice none 0 0)=>K (.i .i64 (.l 0)) l
  | _=>False
 | .appZ sz zero x y=>match ev vs x,intZ (ev vs y) with
  | .re (.slice none 0 0),some z=>zlt S (.l 0) z λ_=>S.mkr zero z.v z.v λF=>K (.sl (len l) sz (.l 0) z none) (snoc l (.r false false (.l 0) sz F))
  | _,_=>False
 | .die=>False
def vrg (S:Sy):List AO->List SV->List Blk->(List SV->List Blk->Prop)->Prop
 | [],vs,l,K=>K vs l
 | o::r,vs,l,K=>
  match o.g with
  | none=>vop S o.op vs l λv l'=>vrg S r (putO vs o.dst v) l' K
  | some (s,want)=>match nth vs s with
   | .un=>vrg S r (putO vs o.dst .un) l K
   | x=>brv S x
    (λ_=>if want then vop S o.op (put vs s .tt) l λv l'=>vrg S r (putO (put vs s .tt) o.dst v) l' K else vrg S r (putO (put vs s .tt) o.dst .un) l K)
    (λ_=>if want then vrg S r (putO (put vs s .ff) o.dst .un) l K else vop S o.op (put vs s .ff) l λv l'=>vrg S r (putO (put vs s .ff) o.dst v) l' K)
abbrev VK:=Ex->Env->List Blk->Prop
def findL:IR->Nat->Option IR
 | .seq a b,l=>match findL a l with
  | some rest=>some (.seq rest b)
  | none=>findL b l
 | .label l',l=>if l'==l then some .skip else none
 | _,_=>none
def seqK (f:VK->Env->List Blk->Prop) (K:VK):VK:=λex e l=>match ex with
 | .normal=>f K e l
 | ex=>K ex e l
def blkK (id:Nat) (K:VK):VK:=λex e l=>match ex with
 | .exit id'=>if id'=id then K .normal e l else K (.exit id') e l
 | ex=>K ex e l
def scpK (S:Sy) (cx:Cx) (b:IR) (K:VK):VK:=λex e l=>match ex with
 | .goto g=>match findL b g with
  | some _=>S.jump cx b g e l K
  | none=>K (.goto g) e l
 | ex=>K ex e l
def rfK (K:VK) (vs:List SV) (mks:List Nat) (k:Nat):SV->List Blk->Prop:=λ_ l2=>match lget l2 k with
 | .lp _ _ _ _ .ready=>K .normal ⟨vs,mks⟩ (lset l2 k .dead)
 | .lp _ _ _ _ (.done ex)=>K ex ⟨vs,mks⟩ (lset l2 k .dead)
 | _=>False
def drK (K:VK) (kl mks:List Nat):Env->List Blk->Prop:=λe' l'=>K .normal ⟨puts e'.vs kl .any,e'.mks⟩ l'
def rgK (K:VK) (kl mks:List Nat):List SV->List Blk->Prop:=λvs l'=>K .normal ⟨puts vs kl .any,mks⟩ l'
def vc (S:Sy) (cx:Cx):IR->VK->Env->List Blk->Prop
 | .skip,K,e,l=>K .normal e l
 | .label _,K,e,l=>K .normal e l
 | .exit id,K,e,l=>K (.exit id) e l
 | .goto g,K,e,l=>K (.goto g) e l
 | .ret,K,e,l=>K .ret e l
 | .reg ops kl,K,e,l=>vrg S ops e.vs l (rgK K kl e.mks)
 | .draw ops pre kl,K,e,l=>S.drw cx ops pre e l (drK K kl e.mks)
 | .seq a b,K,e,l=>vc S cx a (seqK (vc S cx b) K) e l
 | .cond x a b,K,e,l=>brv S (ev e.vs x) (λ_=>vc S cx a K e l) (λ_=>vc S cx b K e l)
 | .block id b,K,e,l=>vc S cx b (blkK id K) e l
 | .loop b,K,e,l=>S.loop cx b e l K
 | .scope b,K,e,l=>vc S cx b (scpK S cx b K) e l
 | .rf f ps asg body,K,e,l=>match ev e.vs f with
  | .fn (.func g) a c=>match cx.ro with
   | none=>S.rfc g (catS a (.yl (len l+1)::c)) (snoc (snoc l .df) (.lp e.vs ps asg body .ready)) (rfK K e.vs (len l::e.mks) (len l+1))
   | some k0=>match lget l k0 with
    | .lp _ _ _ _ _=>S.rfc g (catS a (.yl (len l)::c)) (snoc l (.lp e.vs ps asg body .ready)) (rfK K e.vs e.mks (len l))
    | _=>False
  | _=>False
end Cz
namespace Cz
open Go Go.RowKit
def EnvOk (ρ:Nms) (vs:List SV) (tmps:Array Value):Prop:=
 ∀ (q:Nat) (x:SV),vs[q]?=some x->∃ v,tmps[q]?=some v/\den ρ x v
def ViewOk (W:World) (ρ:Nms) (F:List SV) (vw:View):Prop:=
 vw.n<=F.length/\(vw.base=none->vw.n=0/\vw.cap=0) /\
  ∀ (q:Nat) (x:SV),q<vw.n->F[q]?=some x->∃ a v,vw.base=some a/\W.cell? ⟨a.block,a.off+q,none⟩=some v/\den ρ x v
structure BelowQ (N:Nat->Prop) (w w':World):Prop where
 os:w'.os=w.os
 tape:w'.tape=w.tape
 output:w'.output=w.output
 size:w.heap.size<=w'.heap.size
 block:∀ k,¬ N k->w'.heap[k]?=w.heap[k]?
theorem BelowQ.trans {N:Nat->Prop}{a b c:World}(h:BelowQ N a b) (k:BelowQ N b c):BelowQ N a c:=
 ⟨k.os.trans h.os,k.tape.trans h.tape,k.output.trans h.output,Nat.le_trans h.size k.size,λi hi=>(k.block i hi).trans (h.block i hi)⟩
theorem BelowQ.mono {N N':Nat->Prop}{a b:World}(h:BelowQ N a b) (hN:∀ k,N k->N' k):BelowQ N' a b:=
 ⟨h.os,h.tape,h.output,h.size,λk hk=>h.block k λh'=>hk (hN k h')⟩
theorem BelowQ.of {N:Nat->Prop}{a b:World}{B:Nat}(h:Below B a b) (hN:∀ k,B<=k->N k):BelowQ N a b:=
 ⟨h.os,h.tape,h.output,h.size,λk hk=>h.block k (by
  rcases Nat.lt_or_ge k B with h1|h1
  ·exact h1
  ·exact absurd (hN k h1) hk)⟩
theorem BelowQ.alloc {N:Nat->Prop}{a w:World}(h:BelowQ N a w) (hN:∀ b,w.heap.size<=b->N b) (o:Obj):BelowQ N a (w.alloc o):=
 h.trans (.of (B:=w.heap.size) ⟨rfl,rfl,rfl,by simp,λk hk=>Below.heap_alloc _ _ _ hk⟩ hN)
def OwnOk (N:Nat->Prop) (W:World) (vw:View) (cells:Nat):Prop:=
 ∀ a,vw.base=some a->N a.block/\∃ c e fz,W.heap[a.block]?=some (.cells c e fz)/\a.off+cells<=c.size /\
  (∀ q,q<c.size->W.frozen? ⟨a.block,q,none⟩=false)/\(fz.1=fz.2∨c.size<=fz.1)
def MapRel (ρ:Nms):List (SV×SV)->List MapEntry->Prop
 | [],[]=>True
 | (k,v)::r,e::es=>den ρ k e.key/\den ρ v e.val/\MapRel ρ r es
 | _,_=>False
def PhOk (ph:Ph) (L:Loop):Prop:=
 match ph with
 | .ready=>L.state=.ready/\L.pending=none
 | .busy=>L.state=.busy/\L.pending=none
 | .done e=>L.state=.done/\L.pending=e.jump
def One (ρ:Nms) (k:Nat) (N:Nat->Prop) (b:Nat):Prop:=ρ k=[⟨some ⟨b,0,none⟩,0,0⟩]/\N b
def Born (es:Array MapEntry) (clock:Nat):Prop:=clock=es.size/\∀ (i:Nat) (e:MapEntry),es[i]?=some e->e.born=i
def BlkOk (P:Program) (N:Nat->Prop) (W:World) (ρ:Nms) (k:Nat):Blk->Prop
 | .c cs=>∃ b,ρ k=[⟨some ⟨b,0,none⟩,cs.length,cs.length⟩]/\ViewOk W ρ cs ⟨some ⟨b,0,none⟩,cs.length,cs.length⟩/\OwnOk N W ⟨some ⟨b,0,none⟩,cs.length,cs.length⟩ cs.length
 | .r ro lit st sz F=>0<sz/\(∀ vw∈ρ k,ViewOk W ρ F vw)/\(lit=false->∀ x∈F,plainV x=true) /\
   (ro=false->∃ cur∈ρ k,cur.n=F.length/\(∀ vw∈ρ k,OwnOk N W vw (vw.cap*sz))/\cur.n<=cur.cap*sz /\
    ∀ vw∈ρ k,(vw.base=cur.base/\vw.cap=cur.cap)∨(vw.n<=st.v.toNat/\vw.n<F.length/\∀ a a',vw.base=some a->cur.base=some a'->a.block≠a'.block))
 | .m es=>∃ b es' clock,One ρ k N b/\W.heap[b]?=some (.map es' clock)/\MapRel ρ es es'.toList/\Born es' clock
 | .it km n seen=>∃ b mb,One ρ k N b/\den ρ (.m km) (.map (some mb))/\W.heap[b]?=some (.mapIter (some mb) n seen.toArray n)
 | .df=>∃ b,One ρ k N b/\W.heap[b]?=some (.deferred (some []))
 | .lp vs ps asg body ph=>∃ b L,One ρ k N b/\W.heap[b]?=some (.loop L)/\L.params.toList=ps/\(∃ kl,conv P kl L.assign=some asg)/\(∃ kl,conv P kl L.body=some body) /\
   EnvOk ρ vs L.tmps/\PhOk ph L
 | .dead=>True
def Blk.wr:Blk->Bool
 | .r true _ _ _ _=>false
 | .dead=>false
 | _=>true
structure Rel (P:Program) (N:Nat->Prop) (W0:World) (ρ:Nms) (l:List Blk) (W:World):Prop where
 below:BelowQ N W0 W
 le:∀ b,W0.heap.size<=b->N b
 out:∀ k,l.length<=k->ρ k=[]
 ids:∀ k vw a,vw∈ρ k->vw.base=some a->a.block<W.heap.size
 blk:∀ k B,l[k]?=some B->BlkOk P N W ρ k B
 sep:∀ k k' B vw vw' a a',l[k]?=some B->B.wr=true->k≠k'->vw∈ρ k->vw'∈ρ k'->vw.base=some a->vw'.base=some a'->a.block≠a'.block
 own:∀ k B vw a,l[k]?=some B->B.wr=true->vw∈ρ k->vw.base=some a->N a.block
 qN:ρ.q=N
 fin:∀ b o u,ρ.fz b o=some u->W.cell? ⟨b,o,none⟩=some u
 fsep:∀ k B vw a,l[k]?=some B->B.wr=true->vw∈ρ k->vw.base=some a->∀ o,ρ.fz a.block o=none
theorem Rel.hN {P:Program}{N:Nat->Prop}{W0 W:World}{ρ:Nms}{l:List Blk}(h:Rel P N W0 ρ l W) (b:Nat) (hb:W.heap.size<=b):N b:=
 h.le b (Nat.le_trans h.below.size hb)
theorem qms {W:World}{b o:Nat}{u:Value}(h:W.cell? ⟨b,o,none⟩=some u):b<W.heap.size:=by
 simp only[World.cell?] at h;cases hb:W.heap[b]? with
 | none=>rw[hb] at h;simp at h
 | some x=>exact (Array.getElem?_eq_some_iff.1 hb).1
def MkOk (ρ:Nms):List Nat->List Deferred->Prop
 | [],[]=>True
 | k::ks,d::ds=>(∃ vw∈ρ k,∃ b,vw.base=some ⟨b,0,none⟩/\d=mark b)/\MkOk ρ ks ds
 | _,_=>False
theorem EnvOk.le {m:Nat}{ρ ρ':Nms}{vs:List SV}{t:Array Value}(h:EnvOk ρ vs t) (hl:Le m ρ ρ') (ho:∀ k,m<=k->ρ k=[]):EnvOk ρ' vs t:=
 λq x hx=>let ⟨v,e,d⟩:=h q x hx;⟨v,e,qfr hl ho x v d⟩
theorem qcr {W W':World}{a:Addr}(h:W'.heap[a.block]?=W.heap[a.block]?):W'.cell? a=W.cell? a:=by
 simp only[World.cell?,h]
theorem qzash {W W':World}{a:Addr}(h:W'.heap[a.block]?=W.heap[a.block]?):W'.frozen? a=W.frozen? a:=by
 simp only[World.frozen?,h]
theorem ViewOk.keep {m:Nat}{W W':World}{ρ ρ':Nms}{F:List SV}{vw:View}(h:ViewOk W ρ F vw) (hl:Le m ρ ρ') (ho:∀ k,m<=k->ρ k=[])
  (hw:∀ a,vw.base=some a->W'.heap[a.block]?=W.heap[a.block]?):ViewOk W' ρ' F vw:=by
 refine⟨h.1,h.2.1,λq x hq hx=>?_⟩;obtain⟨a,v,e,c,d⟩:=h.2.2 q x hq hx;exact⟨a,v,e,(qcr (a:=⟨a.block,a.off+q,none⟩) (hw a e)).trans c,qfr hl ho x v d⟩
theorem OwnOk.keep {N:Nat->Prop}{W W':World}{vw:View}{n:Nat}(h:OwnOk N W vw n) (hw:∀ a,vw.base=some a->W'.heap[a.block]?=W.heap[a.block]?):OwnOk N W' vw n:=by
 intro a ha;obtain⟨h1,c,e,fz,h2,h3,h4,h5⟩:=h a ha;exact⟨h1,c,e,fz,by rw[hw a ha];exact h2,h3,λq hq=>(qzash (a:=⟨a.block,q,none⟩) (hw a ha)).trans (h4 q hq),h5⟩
theorem MapRel.le {m:Nat}{ρ ρ':Nms}(hl:Le m ρ ρ') (ho:∀ k,m<=k->ρ k=[]):∀ (es:List (SV×SV)) (es':List MapEntry),MapRel ρ es es'->MapRel ρ' es es'
 | [],[],h=>h
 | [],_::_,h=>h
 | (_,_)::_,[],h=>h
 | (k,v)::r,_::es,h=>⟨qfr hl ho k _ h.1,qfr hl ho v _ h.2.1,MapRel.le hl ho r es h.2.2⟩
theorem BlkOk.keep {P:Program}{N:Nat->Prop}{m:Nat}{W W':World}{ρ ρ':Nms}{k:Nat}{B:Blk}(h:BlkOk P N W ρ k B) (hl:Le m ρ ρ') (ho:∀ k,m<=k->ρ k=[])
  (hk:ρ' k=ρ k) (hw:∀ vw∈ρ k,∀ a,vw.base=some a->W'.heap[a.block]?=W.heap[a.block]?):BlkOk P N W' ρ' k B:=by
 cases B with
 | c cs=>
  obtain⟨b,e,hv,hown⟩:=h;have hw':=hw _ (by rw[e];exact List.mem_singleton.2 rfl);exact⟨b,hk.trans e,hv.keep hl ho hw',hown.keep hw'⟩
 | r ro lit st sz F=>
  obtain⟨h0,hv,hp,hown⟩:=h;refine⟨h0,?_,hp,?_⟩
  ·rw[hk];exact λvw hm=>(hv vw hm).keep hl ho (hw vw hm)
  ·intro hr
   obtain⟨cur,hc,hn,h1,h2,h3⟩:=hown hr;rw[hk];exact⟨cur,hc,hn,λvw hv=>(h1 vw hv).keep (hw vw hv),h2,h3⟩
 | m es=>
  obtain⟨b,es',clock,⟨e,hN⟩,hh,hm,hbo⟩:=h;exact⟨b,es',clock,⟨hk.trans e,hN⟩,(hw _ (by rw[e];exact List.mem_singleton.2 rfl) _ rfl).trans hh,MapRel.le hl ho _ _ hm,hbo⟩
 | it km n seen=>
  obtain⟨b,mb,⟨e,hN⟩,hd,hh⟩:=h;exact⟨b,mb,⟨hk.trans e,hN⟩,qfr hl ho (.m km) _ hd,(hw _ (by rw[e];exact List.mem_singleton.2 rfl) _ rfl).trans hh⟩
 | df=>
  obtain⟨b,⟨e,hN⟩,hh⟩:=h;exact⟨b,⟨hk.trans e,hN⟩,(hw _ (by rw[e];exact List.mem_singleton.2 rfl) _ rfl).trans hh⟩
 | lp vs ps asg body ph=>
  obtain⟨b,L,⟨e,hN⟩,hh,h1,h2,h3,h4,h5⟩:=h;exact⟨b,L,⟨hk.trans e,hN⟩,(hw _ (by rw[e];exact List.mem_singleton.2 rfl) _ rfl).trans hh,h1,h2,h3,h4.le hl ho,h5⟩
 | dead=>trivial
theorem MkOk.le {m:Nat}{ρ ρ':Nms}(hl:Le m ρ ρ') (ho:∀ k,m<=k->ρ k=[]):∀ (ks:List Nat) (ds:List Deferred),MkOk ρ ks ds->MkOk ρ' ks ds
 | [],[],h=>h
 | [],_::_,h=>h
 | _::_,[],h=>h
 | _::ks,_::ds,⟨⟨vw,hv,r⟩,h⟩=>⟨⟨vw,lew hl ho hv,r⟩,MkOk.le hl ho ks ds h⟩
def upd (ρ:Nms) (k:Nat) (vws:List View):Nms:=⟨λj=>if j=k then vws else ρ j,ρ.fz,ρ.q⟩
theorem qam {ρ:Nms}{k:Nat}{vws:List View}:upd ρ k vws k=vws:=by simp [upd]
theorem qap {ρ:Nms}{k j:Nat}{vws:List View}(h:j≠k):upd ρ k vws j=ρ j:=by simp [upd,h]
theorem qdf {ρ:Nms}{k:Nat}:upd ρ k (ρ k)=ρ:=by
 unfold upd
 have:(λj=>if j=k then ρ k else ρ j)=ρ.nm:=by
  funext j;split
  ·rename_i h;rw[h]
  ·rfl
 rw[this]
theorem qhk {ρ:Nms}{k m:Nat}{vws:List View}(h:∀ vw∈ρ k,vw∈vws):Le m ρ (upd ρ k vws):=by
 refine .of ?_ rfl rfl;intro j _ vw hv;by_cases hj:j=k
 ·subst hj;rw[qam];exact h vw hv
 ·rw[qap hj];exact hv
theorem Rel.push {P:Program}{N:Nat->Prop}{W0 W W':World}{ρ:Nms}{l:List Blk}(h:Rel P N W0 ρ l W) {B:Blk}{vws:List View}(hW:BelowQ N W0 W')
  (hsz:W.heap.size<=W'.heap.size) (hold:∀ i,i<W.heap.size->W'.heap[i]?=W.heap[i]?)
  (hids:∀ vw∈vws,∀ a,vw.base=some a->W.heap.size<=a.block/\a.block<W'.heap.size)
  (hB:BlkOk P N W' (upd ρ l.length vws) l.length B):Rel P N W0 (upd ρ l.length vws) (l++[B]) W':=by
 have hl:Le l.length ρ (upd ρ l.length vws):=qhk (by rw[h.out _ (Nat.le_refl _)];simp);refine⟨hW,h.le,?_,?_,?_,?_,?_,h.qN,λb o u e=>?_,?_⟩;rotate_left 5
 ·have hc:=h.fin b o u e
  rw[qcr (a:=⟨b,o,none⟩) (hold b (qms hc))];exact hc
 ·intro k C vw a hC hwr hv ha o
  show ρ.fz a.block o=none;by_cases hk:k=l.length
  ·subst hk
   rw[qam] at hv;cases he:ρ.fz a.block o with
   | none=>rfl
   | some u=>have:=qms (h.fin _ _ _ he);have:=(hids vw hv a ha).1;omega
  ·have hlt:k<l.length:=by
    have:=(List.getElem?_eq_some_iff.1 hC).1
    simp at this;omega
   rw[List.getElem?_append_left hlt] at hC;rw[qap hk] at hv;exact h.fsep k C vw a hC hwr hv ha o
 ·intro k hk
  simp at hk;rw[qap (by omega)];exact h.out k (by omega)
 ·intro k vw a hv ha
  by_cases hk:k=l.length
  ·subst hk;rw[qam] at hv;exact (hids vw hv a ha).2
  ·rw[qap hk] at hv;exact Nat.lt_of_lt_of_le (h.ids k vw a hv ha) hsz
 ·intro k C hC
  by_cases hk:k=l.length
  ·subst hk;simp at hC;subst hC;exact hB
  ·have hlt:k<l.length:=by
    have:=(List.getElem?_eq_some_iff.1 hC).1
    simp at this;omega
   rw[List.getElem?_append_left hlt] at hC;exact (h.blk k C hC).keep hl h.out (qap hk) λvw hv a ha=>hold _ (h.ids k vw a hv ha)
 ·intro k k' C vw vw' a a' hC hwr hne hv hv' ha ha'
  by_cases hk:k=l.length
  ·subst hk
   rw[qam] at hv;rw[qap (Ne.symm hne)] at hv'
   have:=(hids vw hv a ha).1
   have:=h.ids k' vw' a' hv' ha'
   omega
  ·have hlt:k<l.length:=by
    have:=(List.getElem?_eq_some_iff.1 hC).1
    simp at this;omega
   rw[List.getElem?_append_left hlt] at hC;rw[qap hk] at hv;by_cases hk':k'=l.length
   ·subst hk'
    rw[qam] at hv'
    have:=(hids vw' hv' a' ha').1
    have:=h.ids k vw a hv ha
    omega
   ·rw[qap hk'] at hv'
    exact h.sep k k' C vw vw' a a' hC hwr hne hv hv' ha ha'
 ·intro k C vw a hC hwr hv ha
  by_cases hk:k=l.length
  ·subst hk
   rw[qam] at hv;exact h.hN _ (hids vw hv a ha).1
  ·have hlt:k<l.length:=by
    have:=(List.getElem?_eq_some_iff.1 hC).1
    simp at this;omega
   rw[List.getElem?_append_left hlt] at hC;rw[qap hk] at hv;exact h.own k C vw a hC hwr hv ha
theorem Rel.turn {P:Program}{N:Nat->Prop}{W0 W W':World}{ρ:Nms}{l:List Blk}(h:Rel P N W0 ρ l W) {k:Nat}{A B:Blk}{vws:List View}
  (hk:l[k]?=some A) (hA:A.wr=true) (hW:BelowQ N W0 W') (hsz:W.heap.size<=W'.heap.size)
  (hold:∀ i,i<W.heap.size->(∀ vw∈ρ k,∀ a,vw.base=some a->a.block≠i)->W'.heap[i]?=W.heap[i]?)
  (hsub:∀ vw∈ρ k,vw∈vws)
  (hids:∀ vw∈vws,∀ a,vw.base=some a->a.block<W'.heap.size/\(W.heap.size<=a.block∨∃ vw'∈ρ k,∃ a',vw'.base=some a'/\a'.block=a.block))
  (hB:BlkOk P N W' (upd ρ k vws) k B):Rel P N W0 (upd ρ k vws) (l.set k B) W':=by
 have hlt:k<l.length:=(List.getElem?_eq_some_iff.1 hk).1;have hl:Le l.length ρ (upd ρ k vws):=qhk hsub;have other:∀ j vw a,j≠k->vw∈ρ j->vw.base=some a->∀ vw'∈ρ k,∀ a',vw'.base=some a'->a'.block≠a.block:=
  λj vw a hj hv ha vw' hv' a' ha'=>h.sep k j A vw' vw a' a hk hA (Ne.symm hj) hv' hv ha' ha
 refine⟨hW,h.le,?_,?_,?_,?_,?_,h.qN,λb o u e=>?_,?_⟩;rotate_left 5
 ·have hc:=h.fin b o u e
  rw[qcr (a:=⟨b,o,none⟩) (hold b (qms hc) λvw hv a ha hb=>by
   have:=h.fsep k A vw a hk hA hv ha o
   have e':ρ.fz b o=some u:=e;rw[hb,e'] at this;cases this)];exact hc
 ·intro j C vw a hC hwr hv ha o
  show ρ.fz a.block o=none;by_cases hj:j=k
  ·subst hj
   rw[qam] at hv;rcases (hids vw hv a ha).2 with h2|⟨vw2,hv2,a2,ha2,e⟩
   ·cases he:ρ.fz a.block o with
    | none=>rfl
    | some u=>have:=qms (h.fin _ _ _ he);omega
   ·rw[<-e];exact h.fsep j A vw2 a2 hk hA hv2 ha2 o
  ·rw[List.getElem?_set_ne (Ne.symm hj)] at hC
   rw[qap hj] at hv;exact h.fsep j C vw a hC hwr hv ha o
 ·intro j hj
  simp at hj;rw[qap (by omega)];exact h.out j hj
 ·intro j vw a hv ha
  by_cases hj:j=k
  ·subst hj;rw[qam] at hv;exact (hids vw hv a ha).1
  ·rw[qap hj] at hv;exact Nat.lt_of_lt_of_le (h.ids j vw a hv ha) hsz
 ·intro j C hC
  by_cases hj:j=k
  ·subst hj
   rw[List.getElem?_set_self hlt] at hC;simp at hC;subst hC;exact hB
  ·rw[List.getElem?_set_ne (Ne.symm hj)] at hC
   exact (h.blk j C hC).keep hl h.out (qap hj) λvw hv a ha=>hold _ (h.ids j vw a hv ha) (other j vw a hj hv ha)
 ·intro j j' C vw vw' a a' hC hwr hne hv hv' ha ha'
  have key:∀ j vw a,j≠k->vw∈ρ j->vw.base=some a->∀ vw'∈vws,∀ a',vw'.base=some a'->a'.block≠a.block:=by
   intro j vw a hj hv ha vw' hv' a' ha';have h1:=h.ids j vw a hv ha;rcases (hids vw' hv' a' ha').2 with h2|⟨vw2,hv2,a2,ha2,e⟩
   ·omega
   ·rw[<-e];exact other j vw a hj hv ha vw2 hv2 a2 ha2
  by_cases hj:j=k
  ·subst hj
   rw[qam] at hv;rw[qap (Ne.symm hne)] at hv';exact key j' vw' a' (Ne.symm hne) hv' ha' vw hv a ha
  ·rw[qap hj] at hv
   rw[List.getElem?_set_ne (Ne.symm hj)] at hC;by_cases hj':j'=k
   ·subst hj'
    rw[qam] at hv';exact λe=>key j vw a hj hv ha vw' hv' a' ha' e.symm
   ·rw[qap hj'] at hv'
    exact h.sep j j' C vw vw' a a' hC hwr hne hv hv' ha ha'
 ·intro j C vw a hC hwr hv ha
  by_cases hj:j=k
  ·subst hj
   rw[qam] at hv;rcases (hids vw hv a ha).2 with h2|⟨vw2,hv2,a2,ha2,e⟩
   ·exact h.hN _ h2
   ·rw[<-e];exact h.own j A vw2 a2 hk hA hv2 ha2
  ·rw[List.getElem?_set_ne (Ne.symm hj)] at hC
   rw[qap hj] at hv;exact h.own j C vw a hC hwr hv ha
theorem Rel.later {P:Program}{N:Nat->Prop}{W0 W W':World}{ρ:Nms}{l:List Blk}(h:Rel P N W0 ρ l W) (hb:Below W.heap.size W W'):Rel P N W0 ρ l W':=by
 refine⟨h.below.trans (.of hb h.hN),h.le,h.out,λk vw a hv ha=>Nat.lt_of_lt_of_le (h.ids k vw a hv ha) hb.size,λk B hB=>?_,h.sep,h.own,h.qN,λb o u e=>?_,h.fsep⟩
 ·exact (h.blk k B hB).keep (Le.refl l.length ρ) h.out rfl λvw hv a ha=>hb.block _ (h.ids k vw a hv ha)
 ·have hc:=h.fin b o u e
  rw[qcr (a:=⟨b,o,none⟩) (hb.block _ (qms hc))];exact hc
end Cz
namespace Cz
open Go Go.RowKit
theorem qfy:∀ (l:List SV) (n:Nat),nth l n=l.getD n .any
 | [],_=>by simp [nth]
 | _::_,0=>by simp [nth]
 | _::l,n+1=>by simp [nth,qfy l n]
theorem qes:∀ (l:List SV) (n:Nat) (v:SV),put l n v=l.set n v
 | [],_,_=>by simp [put]
 | _::_,0,_=>by simp [put]
 | _::l,n+1,v=>by simp [put,qes l n v]
theorem qzano:∀ (l:List Blk) (n:Nat),lget l n=l.getD n .dead
 | [],_=>by simp [lget]
 | _::_,0=>by simp [lget]
 | _::l,n+1=>by simp [lget,qzano l n]
theorem qbj:∀ (l:List Blk) (n:Nat) (v:Blk),lset l n v=l.set n v
 | [],_,_=>by simp [lset]
 | _::_,0,_=>by simp [lset]
 | _::l,n+1,v=>by simp [lset,qbj l n v]
theorem qbs:∀ (l:List Blk),len l=l.length
 | []=>rfl
 | _::l=>by simp [len,qbs l]
theorem qdm:∀ (l:List Blk) (b:Blk),snoc l b=l++[b]
 | [],_=>rfl
 | _::l,b=>by simp [snoc,qdm l b]
theorem qiv:∀ (l:List SV) (n:Nat),dropS l n=l.drop n
 | _,0=>by simp [dropS]
 | [],_+1=>by simp [dropS]
 | _::l,n+1=>by simp [dropS,qiv l n]
theorem qey:∀ (l:List SV) (n:Nat),takeS l n=l.take n
 | _,0=>by simp [takeS]
 | [],_+1=>by simp [takeS]
 | _::l,n+1=>by simp [takeS,qey l n]
theorem qdo:∀ (l:List SV),lenS l=l.length
 | []=>rfl
 | _::l=>by simp [lenS,qdo l]
theorem qhj:∀ (l m:List SV),catS l m=l++m
 | [],_=>rfl
 | _::l,m=>by simp [catS,qhj l m]
theorem qas {l:List Blk}{k:Nat}{B:Blk}(h:lget l k=B) (hB:B≠.dead):l[k]?=some B:=by
 rw[qzano,List.getD_eq_getElem?_getD] at h;cases hg:l[k]? with
 | none=>rw[hg] at h;exact absurd h.symm hB
 | some C=>rw[hg] at h;simp at h;rw[h]
theorem cSV_ok {v:Value}{x:SV}(h:cSV v=some x) (ρ:Nms):den ρ x v:=by
 cases v with
 | bool b=>cases b<;>(simp [cSV] at h;subst h;simp [den])
 | int k n=>simp [cSV] at h;subst h;simp [den,Z.v]
 | string s=>simp [cSV] at h;subst h;simp [den]
 | agg c=>simp [cSV] at h
 | tuple c=>simp [cSV] at h
 | _=>simp [cSV] at h;subst h;simp [den,oneC]
theorem qbe {ρ:Nms}{vs:List SV}{a:Act}(hE:EnvOk ρ vs a.tmps) {x:Operand}{x':Opd}(h:cOpd x=some x'):den ρ (ev vs x') (a.eval x):=by
 cases x with
 | tmp t=>
  simp [cOpd] at h;subst h;simp only[ev,qfy,Act.eval,List.getD_eq_getElem?_getD];cases hg:vs[t]? with
  | none=>simp [den]
  | some y=>
   obtain⟨v,e,d⟩:=hE t y hg;simpa [e] using d
 | const v=>
  simp only[cOpd,Option.map_eq_some_iff] at h;obtain⟨y,hy,rfl⟩:=h;exact cSV_ok hy ρ
 | global g=>simp only[cOpd,Option.some.injEq] at h;subst h;simp only[ev,den]
 | func f=>simp only[cOpd,Option.some.injEq] at h;subst h;simp only[ev,den,Act.eval];exact⟨#[],#[],rfl,by simp [denL],by simp [denL]⟩
theorem qzatb {ρ:Nms}{vs:List SV}{a:Act}(hE:EnvOk ρ vs a.tmps):∀ {xs:List Operand}{ys:List Opd},cOpds xs=some ys->denL ρ (evs vs ys) (xs.map a.eval)
 | [],ys,h=>by simp [cOpds] at h;subst h;simp [evs,denL]
 | x::xs,ys,h=>by
  simp only[cOpds,List.mapM_cons,Option.bind_eq_bind,Option.pure_def,Option.bind_eq_some_iff,Option.some.injEq] at h;obtain⟨y,hy,ys',hys,rfl⟩:=h;simp only[evs,List.map_cons,denL];exact⟨qbe hE hy,qzatb hE hys⟩
def RoOk (ρ:Nms) (cx:Cx) (rr:Option Nat):Prop:=
 match cx.ro with
 | none=>rr=none
 | some k=>k<cx.m/\∃ vw∈ρ k,∃ b,vw.base=some ⟨b,0,none⟩/\rr=some b
structure St (P:Program) (N:Nat->Prop) (W0:World) (ρ:Nms) (e:Env) (l:List Blk) (a:Act) (W:World):Prop where
 rel:Rel P N W0 ρ l W
 env:EnvOk ρ e.vs a.tmps
 mks:MkOk ρ e.mks a.defers
def KPost (P:Program) (N:Nat->Prop) (W0:World) (cx:Cx) (ρ:Nms) (K:VK):Post:=λex a' W'=>
 ∃ ρ' e' l',K ex e' l'/\Le cx.m ρ ρ'/\cx.m<=l'.length/\St P N W0 ρ' e' l' a' W'
def WP (P:Program) (cx:Cx) (c:Code) (K:VK) (e:Env) (l:List Blk):Prop:=
 ∀ N W0 ρ rr a W,St P N W0 ρ e l a W->RoOk ρ cx rr->cx.m<=l.length->Wp P rr c (KPost P N W0 cx ρ K) a W
def OpPost (P:Program) (N:Nat->Prop) (W0:World) (ρ:Nms) (l:List Blk) (K:SV->List Blk->Prop):Value->World->Prop:=λv W'=>
 ∃ ρ' sv l',K sv l'/\Le l.length ρ ρ'/\l.length<=l'.length/\Rel P N W0 ρ' l' W'/\den ρ' sv v
def bytesOf (F:List SV) (off len:Nat) (x:List UInt8):Prop:=
 x.length=len/\∀ (q:Nat) (c:UInt8),x[q]?=some c->∃ z,F[off+q]?=some (.i .u8 z)/\z.v=(c.toNat:Int)
def scmpS (op:BK) (a b:List UInt8):Bool:=
 match op with
 | .eq=>a==b
 | .ne=>!(a==b)
 | .lt=>Op.bytesLess a b
 | .le=>Op.bytesLess a b||a==b
 | .gt=>!(Op.bytesLess a b||a==b)
 | .ge=>!Op.bytesLess a b
 | _=>false
def S0a (P:Program):Sy where
 ar:=λop k a b K=>K (arS op k a b)
 cmp:=BK.cmpLit
 scmp:=scmpS
 scat:=λa b=>a++b
 beq:=λa b=>a==b
 nt:=λa=>!a
 cv:=λk n K=>K (k.wrap n)
 pl:=λa b=>a+b
 mi:=λa b=>a-b
 sc:=λa n=>a*n
 slen:=λx=>x.length
 sat:=λx i=>((x.getD i.toNat 0).toNat:Int)
 ssub:=λx a b=>(x.take b.toNat).drop a.toNat
 app:=λa b=>a++b
 sub:=λF off n sz=>(F.drop (off.toNat*sz)).take (n.toNat*sz)
 flen:=λF=>F.length
 eqv:=λ_ _ _ _ _=>False
 lk:=λ_ _ _ _ _=>False
 mu:=λ_ _ _ _ _ _=>False
 br:=λb k1 k2=>(b=true->k1 ())/\(b=false->k2 ())
 nil:=λn k1 k2=>(n=0->k1 ())/\k2 ()
 chk:=λb k=>b=true/\k ()
 rd:=λF i sz j n agg K=>0<=i/\(i.toNat+1)*sz<=F.length/\j+n<=sz/\∃ v,mkv agg ((F.drop (i.toNat*sz+j)).take n)=some v/\K v
 wr:=λF i sz j ws K=>0<=i/\(i.toNat+1)*sz<=F.length/\j+ws.length<=sz/\plains ws=true/\K (repl F (i.toNat*sz+j) ws)
 bs:=λF off n K=>0<=off/\0<=n/\∃ x,bytesOf F off.toNat n.toNat x/\K x
 mkr:=λzero n c K=>n=c/\0<=n/\n<=65536/\plains (repS n.toNat zero)=true/\K (repS n.toNat zero)
 sb:=λx=>x.map λc=>.i .u8 (.y (c.toNat:Int))
 call:=λg args l K=>∀ N W0 ρ W (vals:Array Value),Rel P N W0 ρ l W->denL ρ args vals.toList->NextR P (OpPost P N W0 ρ l K) ((callFunc g vals).run P W)
 rfc:=λg args l K=>(∀ args w,(callFunc g args).run P w=.ok (.enter g args) w)/\∀ N W0 ρ W (vals:Array Value),Rel P N W0 ρ l W->denL ρ args vals.toList ->
  Calls P g vals W λe W'=>∃ v,e=.returned v/\OpPost P N W0 ρ l K v W'
 yld:=λk args l K=>∀ N W0 ρ W (vals:Array Value) b,Rel P N W0 ρ l W->denL ρ args vals.toList->(∃ vw∈ρ k,∃ a,vw.base=some a/\a.block=b) ->
  NextR P (OpPost P N W0 ρ l K) ((Instr.yield b vals).run P W)
 loop:=λcx ir e l K=>∀ c kl,conv P kl c=some ir->WP P cx (.loop c) K e l
 jump:=λcx ir g e l K=>∀ c kl,conv P kl c=some ir->∀ rest,findLabel c g=some rest ->
  ∀ N W0 ρ rr a W,St P N W0 ρ e l a W->RoOk ρ cx rr->cx.m<=l.length->InScope P rr c rest (KPost P N W0 cx ρ K) a W
 drw:=λcx ops pre e l K=>∀ (ops':Array Oper),ops'.toList.mapM (convAO P ops')=some ops->preds ops'.toList=pre->∀ id,
  WP P cx (.region id ops' true) (λex e' l'=>match ex with | .normal=>K e' l'|_=>False) e l
def S0 (P:Program):Sy where
 ar:=λop k a b K=>K (arS op k a b)
 cmp:=BK.cmpLit
 scmp:=scmpS
 scat:=λa b=>a++b
 beq:=λa b=>a==b
 nt:=λa=>!a
 cv:=λk n K=>K (k.wrap n)
 pl:=λa b=>a+b
 mi:=λa b=>a-b
 sc:=λa n=>a*n
 slen:=λx=>x.length
 sat:=λx i=>((x.getD i.toNat 0).toNat:Int)
 ssub:=λx a b=>(x.take b.toNat).drop a.toNat
 app:=λa b=>a++b
 sub:=λF off n sz=>(F.drop (off.toNat*sz)).take (n.toNat*sz)
 flen:=λF=>F.length
 eqv:=veq (S0a P)
 lk:=vlook (S0a P)
 mu:=vmupd (S0a P)
 br:=λb k1 k2=>(b=true->k1 ())/\(b=false->k2 ())
 nil:=λn k1 k2=>(n=0->k1 ())/\k2 ()
 chk:=λb k=>b=true/\k ()
 rd:=λF i sz j n agg K=>0<=i/\(i.toNat+1)*sz<=F.length/\j+n<=sz/\∃ v,mkv agg ((F.drop (i.toNat*sz+j)).take n)=some v/\K v
 wr:=λF i sz j ws K=>0<=i/\(i.toNat+1)*sz<=F.length/\j+ws.length<=sz/\plains ws=true/\K (repl F (i.toNat*sz+j) ws)
 bs:=λF off n K=>0<=off/\0<=n/\∃ x,bytesOf F off.toNat n.toNat x/\K x
 mkr:=λzero n c K=>n=c/\0<=n/\n<=65536/\plains (repS n.toNat zero)=true/\K (repS n.toNat zero)
 sb:=λx=>x.map λc=>.i .u8 (.y (c.toNat:Int))
 call:=λg args l K=>∀ N W0 ρ W (vals:Array Value),Rel P N W0 ρ l W->denL ρ args vals.toList->NextR P (OpPost P N W0 ρ l K) ((callFunc g vals).run P W)
 rfc:=λg args l K=>(∀ args w,(callFunc g args).run P w=.ok (.enter g args) w)/\∀ N W0 ρ W (vals:Array Value),Rel P N W0 ρ l W->denL ρ args vals.toList ->
  Calls P g vals W λe W'=>∃ v,e=.returned v/\OpPost P N W0 ρ l K v W'
 yld:=λk args l K=>∀ N W0 ρ W (vals:Array Value) b,Rel P N W0 ρ l W->denL ρ args vals.toList->(∃ vw∈ρ k,∃ a,vw.base=some a/\a.block=b) ->
  NextR P (OpPost P N W0 ρ l K) ((Instr.yield b vals).run P W)
 loop:=λcx ir e l K=>∀ c kl,conv P kl c=some ir->WP P cx (.loop c) K e l
 jump:=λcx ir g e l K=>∀ c kl,conv P kl c=some ir->∀ rest,findLabel c g=some rest ->
  ∀ N W0 ρ rr a W,St P N W0 ρ e l a W->RoOk ρ cx rr->cx.m<=l.length->InScope P rr c rest (KPost P N W0 cx ρ K) a W
 drw:=λcx ops pre e l K=>∀ (ops':Array Oper),ops'.toList.mapM (convAO P ops')=some ops->preds ops'.toList=pre->∀ id,
  WP P cx (.region id ops' true) (λex e' l'=>match ex with | .normal=>K e' l'|_=>False) e l
theorem veq1_a {P:Program}{s:Kd}{x y:SV}{K1 K2:Unit->Prop}:veq1 (S0a P) s x y K1 K2=veq1 (S0 P) s x y K1 K2:=by
 unfold veq1;rfl
theorem veqL_a {P:Program}:∀ {ss:List Kd}{xs ys:List SV}{K1 K2:Unit->Prop},veqL (S0a P) ss xs ys K1 K2=veqL (S0 P) ss xs ys K1 K2
 | [],_,_,_,_=>by simp only[veqL]
 | _::_,[],_,_,_=>by simp only[veqL]
 | _::_,_::_,[],_,_=>by simp only[veqL]
 | s::ss,x::xs,y::ys,K1,K2=>by
  simp only[veqL,veqL_a (ss:=ss),veq1_a]
theorem qzatd {P:Program}{sig:Sg}{x y:SV}{K1 K2:Unit->Prop}:(S0 P).eqv sig x y K1 K2=veq (S0 P) sig x y K1 K2:=by
 show veq (S0a P) sig x y K1 K2=_;simp only[veq,veqL_a]
theorem veq_a {P:Program}{sig:Sg}{x y:SV}{K1 K2:Unit->Prop}:veq (S0a P) sig x y K1 K2=veq (S0 P) sig x y K1 K2:=qzatd
theorem lk_eq {P:Program}{sig:Sg}{key zero:SV}{K:SV->Bool->Prop}:∀ {es:List (SV×SV)},(S0 P).lk sig key K zero es=vlook (S0 P) sig key K zero es
 | []=>rfl
 | (k,v)::r=>by
  show vlook (S0a P) sig key K zero ((k,v)::r)=_;simp only[vlook];have ih:vlook (S0a P) sig key K zero r=vlook (S0 P) sig key K zero r:=lk_eq (es:=r);rw[veq_a,ih]
theorem mu_eq {P:Program}{sig:Sg}{key v:SV}{K:List (SV×SV)->Prop}:∀ {es acc:List (SV×SV)},(S0 P).mu sig key v K acc es=vmupd (S0 P) sig key v K acc es
 | [],acc=>by show vmupd (S0a P) sig key v K acc []=_;simp only[vmupd]
 | (k,u)::r,acc=>by
  show vmupd (S0a P) sig key v K acc ((k,u)::r)=_;simp only[vmupd];have ih:vmupd (S0a P) sig key v K (acc++[(k,u)]) r=vmupd (S0 P) sig key v K (acc++[(k,u)]) r:=mu_eq (es:=r);rw[veq_a,ih]
section
variable {P:Program}{N:Nat->Prop}{W0 W:World}{ρ:Nms}{l:List Blk}{vs:List SV}{a:Act}{K:SV->List Blk->Prop}{o:Oper}
theorem qaf {sv:SV}{v:Value}(hR:Rel P N W0 ρ l W) (hK:K sv l) (hd:den ρ sv v):OpPost P N W0 ρ l K v W:=
 ⟨ρ,sv,l,hK,Le.refl _ _,Nat.le_refl _,hR,hd⟩
theorem OpRuns.val {R:Value->World->Prop}{v:Value}{W':World}(hd:isDefer o.op=false) (h:(execOp a.eval o).run P W=.ok (.value v) W') (hR:R v W'):OpRuns P o a W R:=
 ⟨hd,by rw[h];exact hR⟩
theorem OpRuns.unit {R:Value->World->Prop}{W':World}(hd:isDefer o.op=false) (h:(execOp a.eval o).run P W=.ok .skip W') (hR:R undef W'):OpRuns P o a W R:=
 ⟨hd,by rw[h];exact hR⟩
theorem qab {t:TypeId}{d:TypeDesc}(h:P.underlying t=some d):(underlying t).run P W=.ok d W:=by
 simp [underlying,program,h,bind,Sem.bind,Sem.run,pure]
theorem qzach {t:TypeId}{i:TypeInfo}(h:P.info? t=some i):(typeInfo t).run P W=.ok i W:=by
 simp [typeInfo,program,h,bind,Sem.bind,Sem.run,pure]
theorem qbb {t:TypeId}{n:Nat}(h:szOf P t=some n):(Go.sizeOf t).run P W=.ok n W:=by
 simp only[szOf,Option.map_eq_some_iff] at h;obtain⟨i,hi,rfl⟩:=h;simp [Go.sizeOf,qzach hi]
theorem qmj {t:TypeId}{b:Bool}(h:aggOf P t=some b):(isAgg t).run P W=.ok b W:=by
 unfold aggOf at h;cases hu:P.underlying t with
 | none=>simp [hu] at h
 | some d=>
  rw[hu] at h;cases d<;>simp at h<;>subst h<;>simp [isAgg,qab hu]
theorem qus (ρ:Nms):∀ {vs:List Value}{xs:List SV},cSVs vs=some xs->denL ρ xs vs
 | [],xs,h=>by simp [cSVs] at h;subst h;simp [denL]
 | v::vs,xs,h=>by
  simp only[cSVs,List.mapM_cons,Option.bind_eq_bind,Option.pure_def,Option.bind_eq_some_iff,Option.some.injEq] at h;obtain⟨y,hy,ys',hys,rfl⟩:=h;simp only[denL];exact⟨cSV_ok hy ρ,qus ρ hys⟩
theorem qgq {t:TypeId}{cs:List SV}(h:zeroOf P t=some cs):∃ i z,P.info? t=some i/\i.zero=some z/\∀ ρ,denL ρ cs z.cells.toList:=by
 simp only[zeroOf,Option.bind_eq_bind,Option.bind_eq_some_iff] at h;obtain⟨i,hi,z,hz,hc⟩:=h;exact⟨i,z,hi,hz,λρ=>qus ρ hc⟩
theorem qct {t:TypeId}{i:TypeInfo}{z:Value}(hi:P.info? t=some i) (hz:i.zero=some z):(zeroValue t).run P W=.ok z W:=by
 simp [zeroValue,qzach hi,hz]
theorem qos {x:SV}{cs:List SV}{v:Value}(h:cellsOf x=some cs) (hd:den ρ x v):denL ρ cs v.cells.toList:=by
 cases x<;>simp [cellsOf] at h<;>try subst h
 case ag ws=>
  simp only[den] at hd;obtain⟨us,rfl,d⟩:=hd;exact d
 case p k o=>
  have hd':=hd;simp only[den] at hd;obtain⟨vw,_,a,_,rfl⟩:=hd;simpa [Value.cells,denL] using hd'
 case pe k i sz j=>
  have hd':=hd;simp only[den] at hd;obtain⟨_,vw,_,a,_,_,rfl⟩:=hd;simpa [Value.cells,denL] using hd'
 case pv lit F i sz j=>
  have hd':=hd;simp only[den] at hd;obtain⟨_,_,_,b,o,rfl,_⟩:=hd;simpa [Value.cells,denL] using hd'
 case v lit sz F n=>
  have hd':=hd;simp only[den] at hd;obtain⟨_,_,_,_,⟨b,o,c,rfl,_⟩|⟨_,a,rfl⟩⟩:=hd
  ·simpa [Value.cells,denL] using hd'
  ·simpa [Value.cells,denL] using hd'
 case sl k sz off ln cap=>
  have hd':=hd;simp only[den] at hd;obtain⟨_,_,vw,_,_,hs⟩:=hd
  have:∃ a n c,v=.slice a n c:=by
   unfold SlVal at hs;split at hs
   ·obtain⟨_,_,a',e⟩:=hs;exact⟨_,_,_,e⟩
   ·rcases hs with ⟨c,e,_⟩|⟨_,⟨a',e⟩,_⟩
    ·exact⟨_,_,_,e⟩
    ·exact⟨_,_,_,e⟩
  obtain⟨_,_,_,rfl⟩:=this;simpa [Value.cells,denL] using hd'
 case fn f x y=>
  have hd':=hd;simp only[den] at hd;obtain⟨_,_,rfl,_⟩:=hd;simpa [Value.cells,denL] using hd'
 case yl k=>
  have hd':=hd;simp only[den] at hd;obtain⟨vw,_,a,_,rfl⟩:=hd;simpa [Value.cells,denL] using hd'
 case m k=>
  have hd':=hd;simp only[den] at hd;obtain⟨vw,_,a,_,rfl⟩:=hd;simpa [Value.cells,denL] using hd'
 case re u=>
  have hd':=hd;simp only[den] at hd;obtain⟨rfl,h1⟩:=hd;cases v<;>first|(simp [oneC] at h1;done)|simpa [Value.cells,denL] using hd'
 all_goals (have hd':=hd;simp only[den] at hd;subst hd;simpa [Value.cells,denL] using hd')
end
end Cz
namespace Cz
open Go Go.RowKit
section
variable {P:Program}{N:Nat->Prop}{W0 W:World}{ρ:Nms}{l:List Blk}
theorem qfj {o:Obj}:(W.alloc o).heap[W.heap.size]?=some o:=by
 show (W.heap.push o)[W.heap.size]?=some o
 simp
theorem qzapb {c:Array Value}{T:TypeId}{q:Nat}:(W.alloc (.cells c T)).cell? ⟨W.heap.size,q,none⟩=c[q]?:=by
 simp only[World.cell?,qfj (W:=W) (o:=.cells c T)];rfl
theorem qzaaj {c:Array Value}{T:TypeId}{q:Nat}:(W.alloc (.cells c T)).frozen? ⟨W.heap.size,q,none⟩=false:=by
 simp only[World.frozen?,qfj (W:=W) (o:=.cells c T)]
 simp
theorem qit {o:Obj}{i:Nat}(h:i<W.heap.size):(W.alloc o).heap[i]?=W.heap[i]?:=Below.heap_alloc W o i h
theorem denL_upd {xs:List SV}{vs:List Value}{k:Nat}{vws:List View}(h:denL ρ xs vs) (hk:ρ k=[]) (ho:∀ j,k<=j->ρ j=[]):denL (upd ρ k vws) xs vs:=
 qmd (qhk (m:=k) (by rw[hk];simp)) ho xs vs h
theorem Below.allocW (h:Rel P N W0 ρ l W) (o:Obj):BelowQ N W0 (W.alloc o):=h.below.alloc h.hN o
theorem Rel.newC (h:Rel P N W0 ρ l W) {cs:List SV}{c:Array Value}(T:TypeId) (hd:denL ρ cs c.toList):
  Rel P N W0 (upd ρ l.length [⟨some ⟨W.heap.size,0,none⟩,cs.length,cs.length⟩]) (l++[.c cs]) (W.alloc (.cells c T)):=by
 have hlen:cs.length=c.size:=by simpa using qan hd
 refine h.push (Below.allocW h _) (by simp) (λi hi=>qit hi) ?_ ⟨W.heap.size,qam,?_,?_⟩
 ·intro vw hv a ha
  simp only[List.mem_singleton] at hv;subst hv;simp at ha;subst ha;simp
 ·refine⟨Nat.le_refl _,by simp,λq x _ hx=>?_⟩
  obtain⟨v,hv,d⟩:=qbk q x (denL_upd hd (h.out _ (Nat.le_refl _)) h.out) hx;exact⟨_,v,rfl,by rw[Nat.zero_add,qzapb];simpa using hv,d⟩
 ·intro a ha
  simp at ha;subst ha;exact⟨h.hN _ (Nat.le_refl _),c,T,(0,0),qfj,by simp [hlen],λq _=>qzaaj,.inl rfl⟩
theorem Rel.newR (h:Rel P N W0 ρ l W) {F:List SV}{c:Array Value}(T:TypeId) {lit:Bool}{sz cap:Nat}(hsz:0<sz) (hn:F.length<=cap*sz) (hcap:cap*sz<=c.size)
  (hp:lit=false->∀ x∈F,plainV x=true)
  (hd:∀ (q:Nat) (x:SV),F[q]?=some x->∃ v,c[q]?=some v/\den ρ x v):
  Rel P N W0 (upd ρ l.length [⟨some ⟨W.heap.size,0,none⟩,F.length,cap⟩]) (l++[.r false lit (.l 0) sz F]) (W.alloc (.cells c T)):=by
 refine h.push (Below.allocW h _) (by simp) (λi hi=>qit hi) ?_ ⟨hsz,?_,hp,?_⟩
 ·intro vw hv a ha
  simp only[List.mem_singleton] at hv;subst hv;simp at ha;subst ha;simp
 ·intro vw hv
  rw[qam,List.mem_singleton] at hv;subst hv;refine⟨Nat.le_refl _,by simp,λq x _ hx=>?_⟩;obtain⟨v,hv,d⟩:=hd q x hx;exact⟨_,v,rfl,by rw[Nat.zero_add,qzapb];exact hv,qfr (qhk (m:=l.length) (by rw[h.out _ (Nat.le_refl _)];simp)) h.out x v d⟩
 ·intro _
  rw[qam];refine⟨_,List.mem_singleton.2 rfl,rfl,?_,hn,?_⟩
  ·intro vw hv a ha
   rw[List.mem_singleton] at hv;subst hv;simp at ha;subst ha;exact⟨h.hN _ (Nat.le_refl _),c,T,(0,0),qfj,by simpa using hcap,λq _=>qzaaj,.inl rfl⟩
  ·intro vw hv
   rw[List.mem_singleton] at hv;subst hv;exact .inl ⟨rfl,rfl⟩
theorem qox (h:Rel P N W0 ρ l W) (vws:List View):Le l.length ρ (upd ρ l.length vws):=qhk (by rw[h.out _ (Nat.le_refl _)];simp)
theorem Rel.drew (h:Rel P N W0 ρ l W):Rel P N W0 ρ l { W with drawn:=W.drawn+1 }:=h.later ⟨rfl,rfl,rfl,Nat.le_refl _,λ_ _=>rfl⟩
theorem run_load {a:Addr}{v:Value}(h:W.cell? a=some v):(load a).run P W=.ok v W:=by
 simp [load,Sem.run,h]
theorem qbu {b o q:Nat}:(⟨b,o,none⟩:Addr).add q=⟨b,o+q,none⟩:=by
 simp only[Addr.add];split
 ·rename_i h;subst h;rfl
 ·rfl
theorem qgz {b o n:Nat}{xs:List SV}(hlen:xs.length=n) (h:∀ (q:Nat) (x:SV),xs[q]?=some x->∃ v,W.cell? ⟨b,o+q,none⟩=some v/\den ρ x v):
  ∃ us:Array Value,(loadCells ⟨b,o,none⟩ n).run P W=.ok us W/\denL ρ xs us.toList:=by
 have hc:∀ q,q<n->∃ v,W.cell? ⟨b,o+q,none⟩=some v:=λq hq=>by
  obtain⟨v,e,_⟩:=h q xs[q] (List.getElem?_eq_getElem (by omega));exact⟨v,e⟩
 refine⟨((List.range n).map λq=>(W.cell? ⟨b,o+q,none⟩).getD undef).toArray,?_,?_⟩
 ·rw[run_loadCells (P:=P) (w:=W) ⟨b,o,none⟩ n (λq=>(W.cell? ⟨b,o+q,none⟩).getD undef) (λj hj=>by
   rw[qbu];obtain⟨v,e⟩:=hc j hj;rw[e];rfl)]
 ·refine qcx (by simp [hlen]) λq x hx=>?_
  obtain⟨v,e,d⟩:=h q x hx;have hq:q<n:=by
   have:=(List.getElem?_eq_some_iff.1 hx).1
   omega
  exact⟨v,by simp [hq,e],d⟩
theorem qzaga {t:TypeId}{agg:Bool}{n b o:Nat}{xs:List SV}{sv:SV}(ha:aggOf P t=some agg) (hn:szOf P t=some n) (hlen:xs.length=n)
  (h:∀ (q:Nat) (x:SV),xs[q]?=some x->∃ v,W.cell? ⟨b,o+q,none⟩=some v/\den ρ x v) (hm:mkv agg xs=some sv):
  ∃ v,(loadVar t ⟨b,o,none⟩).run P W=.ok v W/\den ρ sv v:=by
 cases agg with
 | true=>
  simp only[mkv,Option.some.injEq] at hm;subst hm;obtain⟨us,e,d⟩:=qgz (P:=P) hlen h;exact⟨.agg us,by simp [loadVar,qmj ha,qbb hn,e],by simp only[den];exact⟨us,rfl,d⟩⟩
 | false=>
  match xs,hm with
  | [x],hm=>
   simp only[mkv,Option.some.injEq] at hm;subst hm;obtain⟨v,e,d⟩:=h 0 x (by simp);exact⟨v,by simpa [loadVar,qmj ha] using run_load (P:=P) e,d⟩
theorem qar {r:Nat}{o:Obj}:(setO W r o).heap.size=W.heap.size:=by simp [setO]
theorem qat {r i:Nat}{o:Obj}(h:i≠r):(setO W r o).heap[i]?=W.heap[i]?:=by
 simp [setO,Ne.symm h]
theorem qbr {r:Nat}{o:Obj}(h:r<W.heap.size):(setO W r o).heap[r]?=some o:=by
 simp [setO,h]
theorem setO_setO {r:Nat}{o o':Obj}:setO (setO W r o) r o'=setO W r o':=by
 simp only[setO];congr 1;apply Array.ext_getElem?;intro i;simp only[Array.getElem?_setIfInBounds,Array.size_setIfInBounds];split<;>rfl
theorem qbf {r:Nat}{o:Obj}(h:W.heap[r]?=some o):r<W.heap.size:=(Array.getElem?_eq_some_iff.1 h).1
def splice (c:Array Value) (o:Nat):List Value->Array Value
 | []=>c
 | v::vs=>splice (c.setIfInBounds o v) (o+1) vs
theorem qce:∀ (vs:List Value) (c:Array Value) (o:Nat),(splice c o vs).size=c.size
 | [],_,_=>rfl
 | v::vs,c,o=>by rw[splice,qce vs];simp
theorem qix:∀ (vs:List Value) (c:Array Value) (o q:Nat),o+vs.length<=c.size ->
  (splice c o vs)[q]?=if o<=q/\q<o+vs.length then vs[q-o]? else c[q]?
 | [],c,o,q,_=>by simp [splice];omega
 | v::vs,c,o,q,h=>by
  simp only[List.length_cons] at h;rw[splice,qix vs _ _ q (by simp;omega)];by_cases h1:q=o
  ·subst h1
   have:q<c.size:=by omega
   rw[if_neg (by omega),if_pos (by simp),Array.getElem?_setIfInBounds];simp [this]
  ·by_cases h2:o+1<=q/\q<o+1+vs.length
   ·rw[if_pos h2,if_pos (by simp;omega)]
    obtain⟨j,rfl⟩:∃ j,q=o+1+j:=⟨q-(o+1),by omega⟩;simp [show o+1+j-o=j+1 by omega]
   ·rw[if_neg h2,if_neg (by simp;omega),Array.getElem?_setIfInBounds,if_neg (Ne.symm h1)]
theorem setCell_eq {b o:Nat}{v:Value}{c:Array Value}{e:TypeId}{fz:Nat×Nat}(h:W.heap[b]?=some (.cells c e fz)):
  W.setCell ⟨b,o,none⟩ v=setO W b (.cells (c.setIfInBounds o v) e fz):=by
 simp only[World.setCell,setO];congr 1;apply Array.ext_getElem?;intro i;rw[Array.getElem?_modify,Array.getElem?_setIfInBounds];split
 ·rename_i h1
  subst h1;rw[h];simp [qbf h]
 ·rfl
theorem qoc {b q:Nat}{c c':Array Value}{e:TypeId}{fz:Nat×Nat}(h:W.heap[b]?=some (.cells c e fz)):
  (setO W b (.cells c' e fz)).frozen? ⟨b,q,none⟩=W.frozen? ⟨b,q,none⟩:=by
 simp [World.frozen?,qbr (qbf h),h]
theorem qcm {b:Nat}{e:TypeId}{fz:Nat×Nat}:∀ (vs:List Value) (o i:Nat) (c:Array Value) (W:World),W.heap[b]?=some (.cells c e fz) ->
  o+i+vs.length<=c.size->(∀ q,q<c.size->W.frozen? ⟨b,q,none⟩=false)->(∀ v∈vs,oneC v=true) ->
  (storeCells ⟨b,o,none⟩ vs i).run P W=.ok () (setO W b (.cells (splice c (o+i) vs) e fz))
 | [],o,i,c,W,h,_,_,_=>by
  have:setO W b (.cells c e fz)=W:=by
   simp only[setO];have hh:W.heap.setIfInBounds b (.cells c e fz)=W.heap:=by
    apply Array.ext_getElem?;intro j;rw[Array.getElem?_setIfInBounds];split
    ·rename_i h1;subst h1;rw[h];simp [qbf h]
    ·rfl
   rw[hh]
  simp [storeCells,splice,this,pure]
 | v::vs,o,i,c,W,h,hl,hf,h1=>by
  simp only[List.length_cons] at hl;have hv:=h1 v (by simp);have hcell:∃ u,W.cell? ⟨b,o+i,none⟩=some u:=by
   simp only[World.cell?,h];exact⟨c[o+i]'(by omega),by simp⟩
  obtain⟨u,hu⟩:=hcell;have hst:(store (⟨b,o,none⟩:Addr) v).run P W=(store (⟨b,o,none⟩:Addr) v).run P W:=rfl;clear hst;have hs:(store ((⟨b,o,none⟩:Addr).add i) v).run P W=.ok () (setO W b (.cells (c.setIfInBounds (o+i) v) e fz)):=by
   rw[qbu,<-setCell_eq h];cases v<;>first|(simp [oneC] at hv;done)|simp [store,Sem.run,hu,hf (o+i) (by omega)]
  have ih:=qcm vs o (i+1) (c.setIfInBounds (o+i) v) (setO W b (.cells (c.setIfInBounds (o+i) v) e fz)) (qbr (qbf h)) (by simp;omega)
   (λq hq=>by rw[qoc h];exact hf q (by simpa using hq)) (λu hu=>h1 u (by simp [hu]))
  rw[storeCells];simp only[Sem.run_bind,hs,Result.andThen_ok,ih,splice,setO_setO];rfl
theorem qcu:∀ (ws cs:List SV) (o:Nat),(repl cs o ws).length=cs.length
 | [],cs,_=>by simp [repl]
 | w::ws,cs,o=>by rw[repl,qcu ws];simp [qes]
theorem qwp:∀ (ws cs:List SV) (o q:Nat),o+ws.length<=cs.length ->
  (repl cs o ws)[q]?=if o<=q/\q<o+ws.length then ws[q-o]? else cs[q]?
 | [],cs,o,q,_=>by simp [repl];omega
 | w::ws,cs,o,q,h=>by
  simp only[List.length_cons] at h;rw[repl,qwp ws _ _ q (by simp [qes];omega),qes];by_cases h1:q=o
  ·subst h1
   rw[if_neg (by omega),if_pos (by simp)];simp [show q<cs.length by omega]
  ·by_cases h2:o+1<=q/\q<o+1+ws.length
   ·rw[if_pos h2,if_pos (by simp;omega)]
    obtain⟨j,rfl⟩:∃ j,q=o+1+j:=⟨q-(o+1),by omega⟩;simp [show o+1+j-o=j+1 by omega]
   ·rw[if_neg h2,if_neg (by simp;omega),List.getElem?_set_ne (Ne.symm h1)]
theorem den_oneC {x:SV}{v:Value}(hs:scalar x=true) (hd:den ρ x v):oneC v=true:=by
 have:cellsOf x=some [x]∨cellsOf x=none:=by cases x<;>simp [cellsOf,scalar] at *
 rcases this with h|h
 ·have:=qos h hd
  cases v<;>simp [oneC]
  ·simp only[Value.cells] at this
   cases x<;>simp [scalar] at hs<;>simp [den] at hd
   case sl k sz off ln cap=>
    obtain⟨_,_,vw,_,_,hsv⟩:=hd;unfold SlVal at hsv;split at hsv
    ·obtain⟨_,_,a',e⟩:=hsv;cases e
    ·rcases hsv with ⟨c,e,_⟩|⟨_,⟨a',e⟩,_⟩<;>cases e
   case re u=>obtain⟨rfl,h1⟩:=hd;simp [oneC] at h1
  ·cases x<;>simp [scalar] at hs<;>simp [den] at hd
   case sl k sz off ln cap=>
    obtain⟨_,_,vw,_,_,hsv⟩:=hd;unfold SlVal at hsv;split at hsv
    ·obtain⟨_,_,a',e⟩:=hsv;cases e
    ·rcases hsv with ⟨c,e,_⟩|⟨_,⟨a',e⟩,_⟩<;>cases e
   case re u=>obtain⟨rfl,h1⟩:=hd;simp [oneC] at h1
 ·cases x<;>simp [cellsOf,scalar] at *
theorem qzafy:∀ {ws:List SV},scalars ws=true->∀ x∈ws,scalar x=true
 | [],_,_,h=>by cases h
 | w::ws,h,x,hx=>by
  simp only[scalars,Bool.and_eq_true] at h;rcases List.mem_cons.1 hx with rfl|hx
  ·exact h.1
  ·exact qzafy h.2 x hx
theorem qzahz {ws:List SV}{us:List Value}(hs:scalars ws=true) (hd:denL ρ ws us):∀ v∈us,oneC v=true:=by
 intro v hv;obtain⟨q,hq,rfl⟩:=List.getElem_of_mem hv;have hl:=qan hd;obtain⟨v',e,d⟩:=qbk q ws[q] hd (List.getElem?_eq_getElem (by omega));rw[List.getElem?_eq_getElem hq] at e;simp at e;subst e;exact den_oneC (qzafy hs _ (List.getElem_mem _)) d
theorem Rel.storeC (h:Rel P N W0 ρ l W) {k o:Nat}{cs ws:List SV}{us:List Value}(hk:l[k]?=some (.c cs)) (ho:o+ws.length<=cs.length)
  (hs:scalars ws=true) (hd:denL ρ ws us):
  ∃ b,ρ k=[⟨some ⟨b,0,none⟩,cs.length,cs.length⟩]/\∃ W',(storeCells ⟨b,o,none⟩ us).run P W=.ok () W'/\Rel P N W0 ρ (l.set k (.c (repl cs o ws))) W':=by
 obtain⟨b,e,hv,hown⟩:=h.blk k _ hk;obtain⟨hNb,c,T,fz,hh,hcs,hf,hfz⟩:=hown ⟨b,0,none⟩ rfl;simp only[Nat.zero_add] at hcs;have hul:=qan hd;have hrun:=qcm (P:=P) (b:=b) us o 0 c W hh (by omega) hf (qzahz hs hd);simp only[Nat.add_zero] at hrun;refine⟨b,e,_,hrun,?_⟩;have hup:upd ρ k (ρ k)=ρ:=qdf;have hlt:=qbf hh;rw[<-hup];refine h.turn hk rfl ?_ (by rw[qar];exact Nat.le_refl _) ?_ (λ_ hv=>hv) ?_ ?_
 ·exact h.below.trans ⟨rfl,rfl,rfl,by rw[qar];exact Nat.le_refl _,λj hj=>qat (λe=>hj (e▸hNb))⟩
 ·intro i _ hi
  exact qat (λhib=>hi _ (by rw[e];exact List.mem_singleton.2 rfl) _ rfl hib.symm)
 ·intro vw hvw a ha
  exact⟨by rw[qar];exact h.ids k vw a hvw ha,.inr ⟨vw,hvw,a,ha,rfl⟩⟩
 ·rw[hup]
  refine⟨b,by rw[qcu];exact e,?_,?_⟩
  ·rw[qcu]
   refine⟨by rw[qcu];exact Nat.le_refl _,by simp,λq x hq hx=>?_⟩;rw[qwp ws cs o q ho] at hx;have hcell:(setO W b (.cells (splice c o us) T fz)).cell? ⟨b,q,none⟩=(splice c o us)[q]?:=by
    simp [World.cell?,qbr hlt]
   refine⟨⟨b,0,none⟩,?_⟩;rw[Nat.zero_add,hcell,qix us c o q (by omega)];by_cases hr:o<=q/\q<o+ws.length
   ·rw[if_pos hr] at hx
    rw[if_pos (by omega)];obtain⟨v,hv',d⟩:=qbk _ x hd hx;exact⟨v,rfl,hv',d⟩
   ·rw[if_neg hr] at hx
    rw[if_neg (by omega)];obtain⟨a,v,ea,hcv,d⟩:=hv.2.2 q x (by simpa using hq) hx;simp at ea;subst ea;simp [World.cell?,hh] at hcv;exact⟨v,rfl,hcv,d⟩
  ·rw[qcu]
   intro a ha;simp at ha;subst ha;exact⟨hNb,splice c o us,T,fz,qbr hlt,by rw[qce];simpa using hcs,(λq hq=>by rw[qoc hh];exact hf q (by rw[qce] at hq;exact hq)),by rw[qce];exact hfz⟩
end
end Cz
namespace Cz
open Go Go.RowKit
section
variable {P:Program}{N:Nat->Prop}{W0 W:World}{ρ:Nms}{l:List Blk}{vs:List SV}{a:Act}{K:SV->List Blk->Prop}{o:Oper}
theorem brv_ok {x:SV}{v:Value}{k1 k2:Unit->Prop}(h:brv (S0 P) x k1 k2) (hd:den ρ x v):∃ b,v=.bool b/\(b=true->k1 ())/\(b=false->k2 ()):=by
 cases x<;>simp only[brv] at h<;>try exact h.elim
 case tt=>simp only[den] at hd;exact⟨true,hd,λ_=>h,(λe=>by cases e)⟩
 case ff=>simp only[den] at hd;exact⟨false,hd,(λe=>by cases e),λ_=>h⟩
 case b x=>simp only[den] at hd;exact⟨x,hd,h.1,h.2⟩
def Sound (P:Program) (o:Oper) (ao:AOp):Prop:=
 ∀ (N:Nat->Prop) (W0 W:World) (ρ:Nms) (l:List Blk) (vs:List SV) (a:Act) (K:SV->List Blk->Prop),
  vop (S0 P) ao vs l K->Rel P N W0 ρ l W->EnvOk ρ vs a.tmps->OpRuns P o a W (OpPost P N W0 ρ l K)
theorem s_move {x:Operand}{x':Opd}(ho:o.op=.move x∨o.op=.assign x) (hx:cOpd x=some x'):Sound P o (.mv x'):=by
 intro N W0 W ρ l vs a K h hR hE;rcases ho with ho|ho
 ·exact .val (v:=a.eval x) (W':=W) (by simp [ho,isDefer]) (by simp [execOp,ho]) (qaf hR h (qbe hE hx))
 ·exact .val (v:=a.eval x) (W':=W) (by simp [ho,isDefer]) (by simp [execOp,ho]) (qaf hR h (qbe hE hx))
theorem s_pick {c x y:Operand}{c' x' y':Opd}(ho:o.op=.pick c x y) (hc:cOpd c=some c') (hx:cOpd x=some x') (hy:cOpd y=some y'):Sound P o (.pick c' x' y'):=by
 intro N W0 W ρ l vs a K h hR hE;simp only[vop] at h;obtain⟨b,hb,h1,h2⟩:=brv_ok h (qbe hE hc);cases b with
 | true=>exact .val (v:=a.eval x) (W':=W) (by simp [ho,isDefer]) (by simp [execOp,ho,hb,asBool]) (qaf hR (h1 rfl) (qbe hE hx))
 | false=>exact .val (v:=a.eval y) (W':=W) (by simp [ho,isDefer]) (by simp [execOp,ho,hb,asBool]) (qaf hR (h2 rfl) (qbe hE hy))
theorem den_new {k:Nat}{b n cap:Nat}{ρ:Nms}:den (upd ρ k [⟨some ⟨b,0,none⟩,n,cap⟩]) (.p k 0) (.pointer (some ⟨b,0,none⟩)):=by
 simp only[den];exact⟨_,by rw[qam];exact List.mem_singleton.2 rfl,_,rfl,rfl⟩
theorem s_alloc {t:TypeId}{cs:List SV}(ho:o.op=.alloc t) (hz:zeroOf P t=some cs):Sound P o (.alloc cs):=by
 intro N W0 W ρ l vs a K h hR hE;obtain⟨i,z,hi,hz',hd⟩:=qgq hz;simp only[vop,qbs,qdm] at h;refine .val (v:=.pointer (some ⟨W.heap.size,0,none⟩)) (W':=W.alloc (.cells z.cells t)) (by simp [ho,isDefer]) ?_
  ⟨_,_,_,h,qox hR _,by simp,hR.newC t (hd ρ),den_new⟩
 simp [execOp,ho,Instr.alloc,qct hi hz',newVar,newRow]
theorem s_box {t:TypeId}{x:Operand}{x':Opd}(ho:o.op=.box t x) (hx:cOpd x=some x'):Sound P o (.box x'):=by
 intro N W0 W ρ l vs a K h hR hE;have hd:=qbe hE hx;simp only[vop,qbs,qdm] at h;split at h
 ·rename_i cs hcs
  split at h
  ·refine .val (v:=.pointer (some ⟨W.heap.size,0,none⟩)) (W':=W.alloc (.cells (a.eval x).cells t)) (by simp [ho,isDefer]) ?_
    ⟨_,_,_,h,qox hR _,by simp,hR.newC t (qos hcs hd),den_new⟩
   simp [execOp,ho,Instr.box,newVar,newRow]
  ·exact h.elim
 ·exact h.elim
theorem qzo {F:List SV}{vw:View}(h:ViewOk W ρ F vw) {ad:Addr}(hb:vw.base=some ad) {off n:Nat}(hn:off+n<=vw.n):
  ∀ (q:Nat) (x:SV),((F.drop off).take n)[q]?=some x->∃ v,W.cell? ⟨ad.block,ad.off+off+q,none⟩=some v/\den ρ x v:=by
 intro q x hx;rw[List.getElem?_take] at hx;split at hx
 ·rw[List.getElem?_drop] at hx
  obtain⟨a',v,e,c,d⟩:=h.2.2 (off+q) x (by omega) hx;rw[hb] at e;simp at e;subst e;exact⟨v,by rw[Nat.add_assoc];exact c,d⟩
 ·cases hx
theorem qep {vw vw':View}{ρ:Nms}{k:Nat}(e:ρ k=[vw']) (h:vw∈ρ k):vw=vw':=by
 rw[e] at h;exact List.mem_singleton.1 h
theorem load_ok {agg:Bool}{n:Nat}{t:TypeId}{x:SV}{v:Value}{K:SV->Prop}(ha:aggOf P t=some agg) (hn:szOf P t=some n) (hR:Rel P N W0 ρ l W)
  (h:vload (S0 P) l agg n x K) (hd:den ρ x v):∃ u sv,(Instr.loadAt t v).run P W=.ok u W/\K sv/\den ρ sv u:=by
 have go:∀ (F:List SV) (vw:View) (ad:Addr) (off:Nat) (sv:SV),ViewOk W ρ F vw->vw.base=some ad->off+n<=vw.n->mkv agg ((F.drop off).take n)=some sv->K sv ->
   v=.pointer (some ⟨ad.block,ad.off+off,none⟩)->∃ u sv,(Instr.loadAt t v).run P W=.ok u W/\K sv/\den ρ sv u:=by
  intro F vw ad off sv hv hb hle hm hK hve;have hlen:((F.drop off).take n).length=n:=by
   have:=hv.1
   simp;omega
  obtain⟨u,hu,du⟩:=qzaga ha hn hlen (qzo hv hb hle) hm;exact⟨u,sv,by rw[hve];simp [Instr.loadAt,Instr.sureAddr,hu],hK,du⟩
 unfold vload at h;split at h
 ·rename_i k off
  simp only[den] at hd;obtain⟨vw,hvw,ad,hb,hve⟩:=hd;split at h
  ·rename_i cs hcs
   split at h
   ·rename_i hle
    split at h
    ·rename_i sv hm
     obtain⟨b,e,hv,_⟩:=hR.blk k _ (qas hcs (by simp));obtain rfl:=qep e hvw;rw[qiv,qey] at hm;rw[qdo] at hle;exact go cs _ ad off sv hv hb hle hm h hve
    ·exact h.elim
   ·exact h.elim
  ·exact h.elim
 ·rename_i k i sz j
  simp only[den] at hd;obtain⟨h0,vw,hvw,ad,hb,hin,hve⟩:=hd;split at h
  ·rename_i ro lit st sz' F hF
   obtain⟨hsz0,hvs,_,_⟩:=hR.blk k _ (qas hF (by simp));have hv:=hvs vw hvw;split at h
   ·split at h
    ·split at h
     ·rename_i hle
      split at h
      ·rename_i sv hm
       rw[qiv,qey] at hm;refine go F vw ad _ sv hv hb ?_ hm h hve;have h3:∀ m:Nat,(m+1)*sz=m*sz+sz:=λm=>by rw[Nat.add_mul,Nat.one_mul]
       simp only[Z.v,h3] at hin;omega
      ·exact h.elim
     ·exact h.elim
    ·obtain⟨_,_,hj,sv,hm,hK⟩:=h
     refine go F vw ad _ sv hv hb ?_ hm hK hve
     have:(i.v.toNat+1)*sz=i.v.toNat*sz+sz:=by rw[Nat.add_mul,Nat.one_mul]
     omega
   ·exact h.elim
  ·rename_i cs hcs
   obtain⟨b,e,hv,_⟩:=hR.blk k _ (qas hcs (by simp));obtain rfl:=qep e hvw;split at h
   ·rename_i i'
    split at h
    ·rename_i hle
     split at h
     ·rename_i sv hm
      rw[qiv,qey] at hm;rw[qdo] at hle;exact go cs _ ad _ sv hv hb hle hm h hve
     ·exact h.elim
    ·exact h.elim
   ·rename_i i'
    obtain⟨_,hl,hj,sv,hm,hK⟩:=h;refine go cs _ ad _ sv hv hb ?_ hm hK hve
    have:(i'.toNat+1)*sz=i'.toNat*sz+sz:=by rw[Nat.add_mul,Nat.one_mul]
    show i'.toNat*sz+j+n<=cs.length;omega
  ·exact h.elim
 ·rename_i lit F i sz j
  simp only[den] at hd;obtain⟨h0,hin,hp,b,o,hve,hF⟩:=hd;have go2:∀ (off:Nat) (sv:SV),off+n<=F.length->mkv agg ((F.drop off).take n)=some sv->K sv ->
    v=.pointer (some ⟨b,o+off,none⟩)->∃ u sv,(Instr.loadAt t v).run P W=.ok u W/\K sv/\den ρ sv u:=by
   intro off sv hle hm hK hve;have hlen:((F.drop off).take n).length=n:=by simp;omega
   obtain⟨u,hu,du⟩:=qzaga (P:=P) (W:=W) ha hn hlen (λq x hx=>by
    obtain⟨u,e,d⟩:=qse q x (qzatf off n hF) hx;exact⟨u,hR.fin _ _ _ e,d⟩) hm
   exact⟨u,sv,by rw[hve];simp [Instr.loadAt,Instr.sureAddr,hu],hK,du⟩
  split at h
  ·rename_i i'
   split at h
   ·rename_i hle
    split at h
    ·rename_i sv hm
     rw[qiv,qey] at hm;rw[qdo] at hle;exact go2 _ sv hle.1 hm h hve
    ·exact h.elim
   ·exact h.elim
  ·obtain⟨_,hl,hj,sv,hm,hK⟩:=h
   refine go2 _ sv ?_ hm hK hve
   have:(i.v.toNat+1)*sz=i.v.toNat*sz+sz:=by rw[Nat.add_mul,Nat.one_mul]
   omega
 ·exact h.elim
theorem s_load {t:TypeId}{x:Operand}{x':Opd}{agg:Bool}{n:Nat}(ho:o.op=.load t x) (hx:cOpd x=some x') (ha:aggOf P t=some agg) (hn:szOf P t=some n):
  Sound P o (.load agg n x'):=by
 intro N W0 W ρ l vs a K h hR hE;obtain⟨u,sv,hu,hK,hd⟩:=load_ok ha hn hR h (qbe hE hx);exact .val (v:=u) (W':=W) (by simp [ho,isDefer]) (by simp [execOp,ho,hu]) (qaf hR hK hd)
theorem s_nilc {x:Operand}{x':Opd}(ho:o.op=.nilCheck x) (hx:cOpd x=some x'):Sound P o (.nilc x'):=by
 intro N W0 W ρ l vs a K h hR hE;have hd:=qbe hE hx;simp only[vop] at h;split at h
 ·rename_i k off he
  rw[he] at hd;have hd':=hd;simp only[den] at hd;obtain⟨vw,_,ad,_,hve⟩:=hd;exact .val (v:=a.eval x) (W':=W) (by simp [ho,isDefer]) (by simp [execOp,ho,hve]) (qaf hR h hd')
 ·rename_i k i sz j he
  rw[he] at hd;have hd':=hd;simp only[den] at hd;obtain⟨_,vw,_,ad,_,_,hve⟩:=hd;exact .val (v:=a.eval x) (W':=W) (by simp [ho,isDefer]) (by simp [execOp,ho,hve]) (qaf hR h hd')
 ·rename_i lit F i sz j he
  rw[he] at hd;have hd':=hd;simp only[den] at hd;obtain⟨_,_,_,b,o,hve,_⟩:=hd;exact .val (v:=a.eval x) (W':=W) (by simp [ho,isDefer]) (by simp [execOp,ho,hve]) (qaf hR h hd')
 ·rename_i f fi c he
  rw[he] at hd;have hd':=hd;simp only[den] at hd;obtain⟨as,cs,hve,_,_⟩:=hd;exact .val (v:=a.eval x) (W':=W) (by simp [ho,isDefer]) (by simp [execOp,ho,hve]) (qaf hR h hd')
 ·rename_i k he
  rw[he] at hd;have hd':=hd;simp only[den] at hd;obtain⟨vw,_,ad,_,hve⟩:=hd;exact .val (v:=a.eval x) (W':=W) (by simp [ho,isDefer]) (by simp [execOp,ho,hve]) (qaf hR h hd')
 ·exact h.elim
theorem s_ext {x:Operand}{x':Opd}{n:Nat}(ho:o.op=.extract x n) (hx:cOpd x=some x'):Sound P o (.ext x' n):=by
 intro N W0 W ρ l vs a K h hR hE;have hd:=qbe hE hx;simp only[vop] at h;split at h
 ·rename_i ws he
  rw[he] at hd;simp only[den] at hd;obtain⟨us,hve,d⟩:=hd;split at h
  ·rename_i hn
   rw[qdo] at hn;obtain⟨v,hv,dv⟩:=qbk n ws[n] d (List.getElem?_eq_getElem hn);refine .val (v:=v) (W':=W) (by simp [ho,isDefer]) ?_ (qaf hR h ?_)
   ·have hv':us[n]?=some v:=by simpa using hv
    simp [execOp,ho,Instr.extract,hve,hv']
   ·rw[qfy,List.getD_eq_getElem?_getD,List.getElem?_eq_getElem hn];exact dv
  ·exact h.elim
 ·exact h.elim
theorem s_not {t:TypeId}{x:Operand}{x':Opd}(ho:o.op=.unOp .not t x) (hx:cOpd x=some x'):Sound P o (.not x'):=by
 intro N W0 W ρ l vs a K h hR hE;have hd:=qbe hE hx;simp only[vop] at h;split at h
 ·rename_i he
  rw[he] at hd;simp only[den] at hd;exact .val (v:=.bool false) (W':=W) (by simp [ho,isDefer]) (by simp [execOp,ho,hd,Op.unary]) (qaf hR h (by simp [den]))
 ·rename_i he
  rw[he] at hd;simp only[den] at hd;exact .val (v:=.bool true) (W':=W) (by simp [ho,isDefer]) (by simp [execOp,ho,hd,Op.unary]) (qaf hR h (by simp [den]))
 ·rename_i b he
  rw[he] at hd;simp only[den] at hd;exact .val (v:=.bool (!b)) (W':=W) (by simp [ho,isDefer]) (by simp [execOp,ho,hd,Op.unary]) (qaf hR h (by simp [den,S0]))
 ·exact h.elim
theorem s_mkF {g:FuncId}{fi c:Array Operand}{fi' c':List Opd}(ho:o.op=.makeFunc (.func g) fi c) (hf:cOpds fi.toList=some fi') (hc:cOpds c.toList=some c'):
  Sound P o (.mkF (.func g) fi' c'):=by
 intro N W0 W ρ l vs a K h hR hE;refine .val (v:=.func (.func g) (fi.map a.eval) (c.map a.eval)) (W':=W) (by simp [ho,isDefer]) (by simp [execOp,ho,Instr.makeFunc]) (qaf hR h ?_);simp only[den];exact⟨_,_,rfl,by simpa using qzatb hE hf,by simpa using qzatb hE hc⟩
theorem s_fad {t:TypeId}{x:Operand}{x':Opd}{f n:Nat}{fs:Array Field}{g:Field}(ho:o.op=.fieldAddr t x f) (hx:cOpd x=some x') (ht:P.underlying t=some (.struct fs))
  (hg:fs[f]?=some g) (hn:szOf P g.type=some n) (h0:n≠0):Sound P o (.fad g.offset x'):=by
 intro N W0 W ρ l vs a K h hR hE;have hd:=qbe hE hx;have run:∀ b q,a.eval x=.pointer (some ⟨b,q,none⟩)->(execOp a.eval o).run P W=.ok (.value (.pointer (some ⟨b,q+g.offset,none⟩))) W:=by
  intro b q he
  have:(fieldPlace (⟨b,q,none⟩:Addr) g).run P W=.ok ⟨b,q+g.offset,none⟩ W:=by
   simp [fieldPlace,qbb hn,h0,qbu]
  simp [execOp,ho,Instr.fieldAt,qab ht,hg,Instr.sureAddr,he,this]
 simp only[vop] at h;split at h
 ·rename_i k off he
  rw[he] at hd;simp only[den] at hd;obtain⟨vw,hvw,ad,hb,hve⟩:=hd;refine .val (by simp [ho,isDefer]) (run _ _ hve) (qaf hR h ?_);simp only[den];exact⟨vw,hvw,ad,hb,by rw[Nat.add_assoc]⟩
 ·rename_i k i sz j he
  rw[he] at hd;simp only[den] at hd;obtain⟨hi,vw,hvw,ad,hb,hin,hve⟩:=hd;refine .val (by simp [ho,isDefer]) (run _ _ hve) (qaf hR h ?_);simp only[den];exact⟨hi,vw,hvw,ad,hb,hin,by rw[Nat.add_assoc,Nat.add_assoc]⟩
 ·rename_i lit F i sz j he
  rw[he] at hd;simp only[den] at hd;obtain⟨hi,hin,hp,b,o,hve,hF⟩:=hd;refine .val (by simp [ho,isDefer]) (run _ _ hve) (qaf hR h ?_);simp only[den];exact⟨hi,hin,hp,b,o,by rw[Nat.add_assoc,Nat.add_assoc],hF⟩
 ·exact h.elim
theorem qzada {ρ:Nms}{k sz:Nat}{off ln:Z}{cap:Option Z}{v:Value}(hd:den ρ (.sl k sz off ln cap) v):∃ b c,v=.slice b ln.v.toNat c/\0<=off.v/\0<=ln.v:=by
 simp only[den] at hd;obtain⟨h0,h1,vw,_,_,hs⟩:=hd;unfold SlVal at hs;split at hs
 ·obtain⟨_,e0,a',e⟩:=hs;exact⟨_,_,by rw[e0];exact e,h0,h1⟩
 ·rcases hs with ⟨c,e,_⟩|⟨e0,⟨a',e⟩,_⟩
  ·exact⟨_,_,e,h0,h1⟩
  ·exact⟨_,_,by rw[e0];exact e,h0,h1⟩
theorem qzahv {ρ:Nms}{lit:Bool}{sz:Nat}{F:List SV}{ln:Z}{v:Value}(hd:den ρ (.v lit sz F ln) v):∃ b c,v=.slice b ln.v.toNat c/\0<=ln.v:=by
 simp only[den] at hd;obtain⟨h0,_,_,_,⟨b,o,c,e,_⟩|⟨e0,a,e⟩⟩:=hd
 ·exact⟨_,_,e,h0⟩
 ·exact⟨_,_,by rw[e0];exact e,h0⟩
theorem s_len {c:Call}{t:TypeId}{x:Operand}{x':Opd}{str:Bool}(ho:o.op=.call c) (hcal:c.callee=.builtin .len) (ht0:c.argTypes[0]?=some t) (hx0:c.args[0]?=some x)
  (ht:if str then P.underlying t=some .string else ∃ e,P.underlying t=some (.slice e)) (hx:cOpd x=some x'):Sound P o (.len str x'):=by
 intro N W0 W ρ l vs a K h hR hE;have hd:=qbe hE hx;have hsl:∀ b n cp,str=false->a.eval x=.slice b n cp->(execOp a.eval o).run P W=.ok (.value (.int .i64 n)) W:=by
  intro b n cp hs e1;subst hs;simp only[Bool.false_eq_true,if_false] at ht;obtain⟨e,ht⟩:=ht;simp [execOp,ho,resolve,hcal,invoke,builtin,Builtin.len_,ht0,hx0,e1,qab ht,goInt]
 simp only[vop] at h;split at h
 ·rename_i k sz off ln cap he
  rw[he] at hd;obtain⟨b,cp,e1,_,h1⟩:=qzada hd;refine .val (by simp [ho,isDefer]) (hsl _ _ _ rfl e1) (qaf hR h ?_);simp only[den];rw[Int.toNat_of_nonneg h1]
 ·rename_i lit sz F ln he
  rw[he] at hd;obtain⟨b,cp,e1,h1⟩:=qzahv hd;refine .val (by simp [ho,isDefer]) (hsl _ _ _ rfl e1) (qaf hR h ?_);simp only[den];rw[Int.toNat_of_nonneg h1]
 ·rename_i cp he
  rw[he] at hd;simp only[den] at hd;refine .val (by simp [ho,isDefer]) (hsl _ _ _ rfl hd.1) (qaf hR h ?_);simp [den,Z.v]
 ·rename_i s he
  rw[he] at hd;simp only[den] at hd;simp only[if_true] at ht;refine .val (v:=.int .i64 s.length) (W':=W) (by simp [ho,isDefer]) ?_ (qaf hR h (by simp [den,Z.v,S0]));have hs:(ByteArray.mk s.toArray).size=s.length:=by show s.toArray.size=s.length;simp
  simp [execOp,ho,resolve,hcal,invoke,builtin,Builtin.len_,ht0,hx0,hd,qab ht,goInt,hs]
 ·exact h.elim
theorem s_cap {c:Call}{t:TypeId}{e:TypeId}{x:Operand}{x':Opd}(ho:o.op=.call c) (hcal:c.callee=.builtin .cap) (ht0:c.argTypes[0]?=some t) (hx0:c.args[0]?=some x)
  (ht:P.underlying t=some (.slice e)) (hx:cOpd x=some x'):Sound P o (.capS x'):=by
 intro N W0 W ρ l vs a K h hR hE;have hd:=qbe hE hx;simp only[vop] at h;split at h
 ·rename_i he
  rw[he] at hd;simp only[den] at hd;refine .val (v:=.int .i64 0) (W':=W) (by simp [ho,isDefer]) ?_ (qaf hR h (by simp [den,Z.v]));simp [execOp,ho,resolve,hcal,invoke,builtin,Builtin.cap_,ht0,hx0,hd.1,qab ht,goInt]
 ·exact h.elim
theorem s_die:Sound P o .die:=by
 intro N W0 W ρ l vs a K h hR hE;simp only[vop] at h
theorem s_call {c:Call}{f:Operand}{f':Opd}{args':List Opd}(ho:o.op=.call c) (hcal:c.callee=.value f) (hf:cOpd f=some f') (ha:cOpds c.args.toList=some args'):
  Sound P o (.call f' args'):=by
 intro N W0 W ρ l vs a K h hR hE;have hd:=qbe hE hf;have hargs:denL ρ (evs vs args') (c.args.map a.eval).toList:=by simpa using qzatb hE ha
 simp only[vop] at h;obtain⟨cal,args,tys⟩:=c;simp only at hcal;subst hcal;split at h
 ·rename_i g fi ca he
  rw[he] at hd;simp only[den] at hd;obtain⟨as,cs,hve,d1,d2⟩:=hd;refine⟨by simp [ho,isDefer],?_⟩;have hrun:=qzava (P:=P) (ops:=args) (tys:=tys) (ty:=o.type) hve W
  have:(execOp a.eval o).run P W=(callFunc g (as++args.map a.eval++cs)).run P W:=by
   rw[<-hrun];simp only[execOp,ho]
  rw[this];simp only[qhj] at h;refine h N W0 ρ W _ hR ?_
  have:=qcy d1 (qcy hargs d2)
  simpa [List.append_assoc] using this
 ·rename_i k he
  rw[he] at hd;simp only[den] at hd;obtain⟨vw,hvw,ad,hb,hve⟩:=hd;refine⟨by simp [ho,isDefer],?_⟩
  have:(execOp a.eval o).run P W=(Instr.yield ad.block (args.map a.eval)).run P W:=by
   simp [execOp,ho,resolve,hve,Deferred.ofValue,invoke]
  rw[this];exact h N W0 ρ W _ ad.block hR hargs ⟨vw,hvw,ad,hb,rfl⟩
 ·exact h.elim
end
end Cz
namespace Cz
open Go Go.RowKit
section
variable {P:Program}{N:Nat->Prop}{W0 W:World}{ρ:Nms}{l:List Blk}{vs:List SV}{a:Act}{K:SV->List Blk->Prop}{o:Oper}
theorem Rel.storeR (h:Rel P N W0 ρ l W) {k q0 sz:Nat}{lit lit':Bool}{st:Z}{F ws:List SV}{us:List Value}{vw:View}{ad:Addr}(hk:l[k]?=some (.r false lit st sz F))
  (hvw:vw∈ρ k) (hb:vw.base=some ad) (ho:q0+ws.length<=vw.n) (hst:st.v.toNat<=q0) (hw:0<ws.length)
  (hs:scalars ws=true) (hp:lit'=false->(∀ x∈ws,plainV x=true)/\∀ x∈F,plainV x=true) (hd:denL ρ ws us):
  ∃ W',(storeCells ⟨ad.block,ad.off+q0,none⟩ us).run P W=.ok () W'/\Rel P N W0 ρ (l.set k (.r false lit' st sz (repl F q0 ws))) W':=by
 obtain⟨hsz,hvs,hpl,hown⟩:=h.blk k _ hk;obtain⟨cur,hcur,hcn,hcown,hcap,hall⟩:=hown rfl;have hsame:vw.base=cur.base:=by
  rcases hall vw hvw with h1|⟨h1,_⟩
  ·exact h1.1
  ·omega
 have hcb:cur.base=some ad:=hsame▸hb;obtain⟨hNb,c,T,fz,hh,hcs,hf,hfz⟩:=hcown cur hcur ad hcb;have hul:=qan hd;have hvn:=(hvs vw hvw).1;have hrun:=qcm (P:=P) (b:=ad.block) us (ad.off+q0) 0 c W hh (by omega) hf (qzahz hs hd);simp only[Nat.add_zero] at hrun;refine⟨_,hrun,?_⟩;have hup:upd ρ k (ρ k)=ρ:=qdf;have hlt:=qbf hh;have hFl:q0+ws.length<=F.length:=by omega
 rw[<-hup];refine h.turn hk rfl ?_ (by rw[qar];exact Nat.le_refl _) ?_ (λ_ hv=>hv) ?_ ?_
 ·exact h.below.trans ⟨rfl,rfl,rfl,by rw[qar];exact Nat.le_refl _,λj hj=>qat (λe=>hj (by subst e;first|exact hNb|exact hN|assumption))⟩
 ·intro i _ hi
  exact qat (λhib=>hi _ hcur _ hcb hib.symm)
 ·intro vw' hvw' a' ha'
  exact⟨by rw[qar];exact h.ids k vw' a' hvw' ha',.inr ⟨vw',hvw',a',ha',rfl⟩⟩
 ·rw[hup]
  refine⟨hsz,?_,?_,?_⟩
  ·intro vw' hvw'
   obtain⟨hv1,hv2,hv3⟩:=hvs vw' hvw';refine⟨by rw[qcu];exact hv1,hv2,λq x hq hx=>?_⟩;rw[qwp ws F q0 q hFl] at hx;rcases hall vw' hvw' with ⟨h1,_⟩|⟨h1,_,h2⟩
   ·rw[h1,hcb]
    have hcell:(setO W ad.block (.cells (splice c (ad.off+q0) us) T fz)).cell? ⟨ad.block,ad.off+q,none⟩=(splice c (ad.off+q0) us)[ad.off+q]?:=by
     simp [World.cell?,qbr hlt]
    refine⟨ad,?_⟩;rw[hcell,qix us c (ad.off+q0) (ad.off+q) (by omega)];by_cases hr:q0<=q/\q<q0+ws.length
    ·rw[if_pos hr] at hx
     rw[if_pos (by omega)];obtain⟨v,hv',d⟩:=qbk _ x hd hx;exact⟨v,rfl,by rw[show ad.off+q-(ad.off+q0)=q-q0 by omega];exact hv',d⟩
    ·rw[if_neg hr] at hx
     rw[if_neg (by omega)];obtain⟨a',v,ea,hcv,d⟩:=hv3 q x hq hx;rw[h1,hcb] at ea;simp at ea;subst ea;simp [World.cell?,hh] at hcv;exact⟨v,rfl,hcv,d⟩
   ·rw[if_neg (by omega)] at hx
    obtain⟨a',v,ea,hcv,d⟩:=hv3 q x hq hx;refine⟨a',v,ea,?_,d⟩;rw[qcr (W:=W)]
    ·exact hcv
    ·exact qat (h2 a' ad ea hcb)
  ·intro hl x hx
   obtain⟨q,hq,rfl⟩:=List.getElem_of_mem hx;have hg:=List.getElem?_eq_getElem hq;rw[qwp ws F q0 q hFl] at hg;split at hg
   ·exact (hp hl).1 _ (List.mem_of_getElem? hg)
   ·exact (hp hl).2 _ (List.mem_of_getElem? hg)
  ·intro _
   refine⟨cur,hcur,by rw[qcu];exact hcn,?_,hcap,?_⟩
   ·intro vw' hvw' a' ha'
    rcases (hall vw' hvw').symm with ⟨_,_,h2⟩|⟨h1,h1c⟩
    ·exact (hcown vw' hvw').keep (λa2 ea=>qat (h2 a2 ad ea hcb)) a' ha'
    rw[h1,hcb] at ha';rw[h1c];simp at ha';subst ha';exact⟨hNb,splice c (ad.off+q0) us,T,fz,qbr hlt,by rw[qce];exact hcs,(λq hq=>by rw[qoc hh];exact hf q (by rw[qce] at hq;exact hq)),by rw[qce];exact hfz⟩
   ·rw[qcu];exact hall
theorem qet:∀ {ws:List SV},plains ws=true->∀ x∈ws,plainV x=true
 | [],_,_,h=>by cases h
 | w::ws,h,x,hx=>by
  simp only[plains,Bool.and_eq_true] at h;rcases List.mem_cons.1 hx with rfl|hx
  ·exact h.1
  ·exact qet h.2 x hx
theorem qgj:∀ {ws:List SV},plains ws=true->scalars ws=true
 | [],_=>rfl
 | x::ws,h=>by
  simp only[plains,Bool.and_eq_true] at h;simp only[scalars,Bool.and_eq_true];refine⟨?_,qgj h.2⟩
  have:=h.1
  cases x<;>simp [plainV] at this<;>rfl
theorem vstore_imp {n:Nat}{x y:SV}{K:List Blk->Prop}(h:vstore (S0 P) l n x y K):vstore0 (S0 P) l n x y K:=by
 unfold vstore at h;split at h
 ·rename_i hb
  have hb:=Nat.le_of_ble_eq_true hb;unfold vstoreB at h;split at h
  ·rename_i ws
   split at h
   ·rename_i k o
    split at h
    ·rename_i cs hc
     obtain⟨h1,h2,h3,h4,h5,h6⟩:=h;have hl:ws.length=n:=by
      have:(ws.length:Int)=n:=by simpa [S0,BK.cmpLit] using h1
      omega
     simp only[Int.toNat_zero,Nat.zero_add,Nat.one_mul,Nat.zero_mul] at h3 h6;unfold vstore0;simp only[cellsOf,hc,qdo,qrt];rw[if_pos ⟨hl,qgj h5,by omega⟩,if_pos (by omega)];exact h6
    ·exact h.elim
   ·exact h.elim
  ·exact h.elim
 ·exact h
theorem store_ok0 {n:Nat}{t:TypeId}{x y:SV}{v u:Value}{K:List Blk->Prop}(hn:szOf P t=some n) (hR:Rel P N W0 ρ l W)
  (h:vstore0 (S0 P) l n x y K) (hd:den ρ x v) (hdy:den ρ y u):∃ W' l',(Instr.storeAt t v u).run P W=.ok () W'/\K l'/\l.length<=l'.length/\Rel P N W0 ρ l' W':=by
 have run:∀ ad W',(storeCells ad u.cells.toList).run P W=.ok () W'->u.cells.size=n->v=.pointer (some ad)->(Instr.storeAt t v u).run P W=.ok () W':=by
  intro ad W' hr hsz hve;simp [Instr.storeAt,Instr.sureAddr,hve,storeVar,qbb hn,hsz,hr]
 unfold vstore0 at h;simp only[qrt] at h;split at h
 ·exact h.elim
 ·rename_i ws hws
  have hdw:=qos hws hdy;have hlw:=qan hdw;split at h
  ·rename_i hlen
   obtain⟨hl1,hsc,hn0⟩:=hlen;rw[qdo] at hl1;have husz:u.cells.size=n:=by simpa using hlw.symm.trans hl1
   split at h
   ·rename_i k off
    simp only[den] at hd;obtain⟨vw,hvw,ad,hb,hve⟩:=hd;split at h
    ·rename_i cs hcs
     split at h
     ·rename_i hle
      rw[qdo] at hle;obtain⟨b,e,W',hrun,hR'⟩:=hR.storeC (o:=off) (qas hcs (by simp)) (by omega) hsc hdw;obtain rfl:=qep e hvw;simp at hb;subst hb;rw[qbj] at h;exact⟨W',_,run _ W' hrun husz (by simpa using hve),h,by simp,hR'⟩
     ·exact h.elim
    ·exact h.elim
   ·rename_i k i sz j
    simp only[den] at hd;obtain⟨h0,vw,hvw,ad,hb,hin,hve⟩:=hd;have h3:∀ m:Nat,(m+1)*sz=m*sz+sz:=λm=>by rw[Nat.add_mul,Nat.one_mul]
    split at h
    ·rename_i cs hcs
     split at h
     ·rename_i i'
      split at h
      ·rename_i hle
       rw[qdo] at hle;obtain⟨b,e,W',hrun,hR'⟩:=hR.storeC (o:=i'.toNat*sz+j) (qas hcs (by simp)) (by omega) hsc hdw;obtain rfl:=qep e hvw;simp at hb;subst hb;rw[qbj] at h;exact⟨W',_,run _ W' hrun husz (by simpa [Z.v] using hve),h,by simp,hR'⟩
      ·exact h.elim
     ·rename_i i'
      obtain⟨_,hl2,hj,hpl,hK⟩:=h;rw[h3] at hl2;obtain⟨b,e,W',hrun,hR'⟩:=hR.storeC (o:=i'.toNat*sz+j) (qas hcs (by simp)) (by omega) hsc hdw;obtain rfl:=qep e hvw;simp at hb;subst hb;rw[qbj] at hK;exact⟨W',_,run _ W' hrun husz (by simpa [Z.v] using hve),hK,by simp,hR'⟩
    ·rename_i lit st sz' F hF
     split at h
     ·rename_i hsz'
      obtain⟨hsz',hjn⟩:=hsz';subst hsz';have hkF:=qas hF (by simp);obtain⟨hsz,hvs,hplF,hown⟩:=hR.blk k _ hkF;split at h
      ·rename_i i' s
       split at h
       ·rename_i hle
        rw[qbj] at h;simp only[Z.v,h3] at hin;obtain⟨W',hrun,hR'⟩:=hR.storeR (lit':=true) (q0:=i'.toNat*sz+j) hkF hvw hb (by omega) (by simp only[Z.v];omega) (by omega) hsc (by simp) hdw;exact⟨W',_,run _ W' hrun husz (by simpa [Z.v] using hve),h,by simp,hR'⟩
       ·exact h.elim
      ·split at h
       ·rename_i hpi
        obtain⟨hle,_,hl2,hj2,hpl,hK⟩:=h;rw[qbj] at hK;rw[h3] at hin;have hpF:∀ x∈F,plainV x=true:=by
         cases lit with
         | true=>exact qet hpi
         | false=>exact hplF rfl
        have hst:st.v.toNat<=i.v.toNat*sz+j:=by
         have h5:st.v<=i.v*sz:=by simpa [S0,BK.cmpLit] using hle
         have h6:(i.v.toNat:Int)=i.v:=Int.toNat_of_nonneg h0;have h7:st.v<=((i.v.toNat*sz:Nat):Int):=by rw[Int.natCast_mul,h6];exact h5
         omega
        obtain⟨W',hrun,hR'⟩:=hR.storeR (lit':=false) (q0:=i.v.toNat*sz+j) hkF hvw hb (by omega) hst (by omega) hsc (λ_=>⟨qet hpl,hpF⟩) hdw;exact⟨W',_,run _ W' hrun husz hve,hK,by simp,hR'⟩
       ·exact h.elim
     ·exact h.elim
    ·exact h.elim
   ·exact h.elim
  ·exact h.elim
theorem store_ok {n:Nat}{t:TypeId}{x y:SV}{v u:Value}{K:List Blk->Prop}(hn:szOf P t=some n) (hR:Rel P N W0 ρ l W)
  (h:vstore (S0 P) l n x y K) (hd:den ρ x v) (hdy:den ρ y u):∃ W' l',(Instr.storeAt t v u).run P W=.ok () W'/\K l'/\l.length<=l'.length/\Rel P N W0 ρ l' W':=
 store_ok0 hn hR (vstore_imp h) hd hdy
theorem s_store {t:TypeId}{x y:Operand}{x' y':Opd}{n:Nat}(ho:o.op=.store t x y) (hx:cOpd x=some x') (hy:cOpd y=some y') (hn:szOf P t=some n):
  Sound P o (.store n x' y'):=by
 intro N W0 W ρ l vs a K h hR hE;obtain⟨W',l',hrun,hK,hl,hR'⟩:=store_ok hn hR h (qbe hE hx) (qbe hE hy);exact .unit (W':=W') (by simp [ho,isDefer]) (by simp [execOp,ho,hrun]) ⟨ρ,.un,l',hK,Le.refl _ _,hl,hR',by simp [den]⟩
end
end Cz
namespace Cz
open Go Go.RowKit
def PairOk:Kd->Value->Value->Prop
 | .kb,x,y=>∃ a b,x=.bool a/\y=.bool b
 | .ki,x,y=>∃ k a b,x=.int k a/\y=.int k b
 | .ks,x,y=>∃ a b,x=.string a/\y=.string b
def PairsOk:List Kd->List Value->List Value->Prop
 | [],[],[]=>True
 | s::ss,x::xs,y::ys=>PairOk s x y/\PairsOk ss xs ys
 | _,_,_=>False
def eqC:Value->Value->Bool
 | .bool a,.bool b=>a==b
 | .int _ a,.int _ b=>a==b
 | .string a,.string b=>a.toList==b.toList
 | _,_=>false
def eqCs:List Value->List Value->Bool
 | [],[]=>true
 | x::xs,y::ys=>eqC x y&&eqCs xs ys
 | _,_=>false
theorem PairsOk.length:∀ {ss:List Kd}{xs ys:List Value},PairsOk ss xs ys->xs.length=ss.length/\ys.length=ss.length
 | [],[],[],_=>⟨rfl,rfl⟩
 | _::ss,_::xs,_::ys,h=>by
  have:=PairsOk.length h.2
  simp [this.1,this.2]
theorem PairsOk.split:∀ {s1 s2:List Kd}{xs ys:List Value},PairsOk (s1++s2) xs ys ->
  PairsOk s1 (xs.take s1.length) (ys.take s1.length)/\PairsOk s2 (xs.drop s1.length) (ys.drop s1.length)
 | [],_,_,_,h=>by simpa [PairsOk] using h
 | s::s1,s2,[],ys,h=>by cases ys<;>simp [PairsOk] at h
 | s::s1,s2,x::xs,[],h=>by simp [PairsOk] at h
 | s::s1,s2,x::xs,y::ys,h=>by
  simp only[List.cons_append,PairsOk] at h
  have:=PairsOk.split h.2
  simp only[List.length_cons,List.take_succ_cons,List.drop_succ_cons,PairsOk];exact⟨⟨h.1,this.1⟩,this.2⟩
theorem qzaav:∀ (n:Nat) (xs ys:List Value),xs.length=ys.length->eqCs xs ys=(eqCs (xs.take n) (ys.take n)&&eqCs (xs.drop n) (ys.drop n))
 | 0,xs,ys,_=>by simp [eqCs]
 | n+1,[],[],_=>by simp [eqCs]
 | n+1,[],y::ys,h=>by simp at h
 | n+1,x::xs,[],h=>by simp at h
 | n+1,x::xs,y::ys,h=>by
  simp only[List.take_succ_cons,List.drop_succ_cons,eqCs];rw[qzaav n xs ys (by simpa using h),Bool.and_assoc]
section
variable {P:Program}{W:World}
def Made (P:Program) (t:TypeId) (x:Value):Prop:=
 if aggOf P t=some true then ∃ c,x=.agg c else oneC x=true
theorem qzaey {t:TypeId}{cs:Array Value}{off n:Nat}{agg:Bool}(ha:aggOf P t=some agg) (hn:szOf P t=some n) (hle:off+n<=cs.size)
  (h1:agg=false->n=1/\∀ v,cs[off]?=some v->oneC v=true):
  ∃ v,(part t cs off).run P W=.ok v W/\v.cells.toList=(cs.toList.drop off).take n/\Made P t v:=by
 cases agg with
 | true=>
  refine⟨.agg (cs.extract off (off+n)),by simp [part,qmj ha,qbb hn],?_,by simp [Made,ha]⟩;simp [Value.cells,Array.toList_extract,List.extract_eq_take_drop]
 | false=>
  obtain⟨rfl,h2⟩:=h1 rfl;have hlt:off<cs.size:=by omega
  have hc:cs[off]?=some cs[off]:=by simp [hlt]
  have hone:=h2 _ hc;refine⟨cs[off],by simp [part,qmj ha,hlt],?_,by simpa [Made,ha] using hone⟩;have e1:cs[off].cells=#[cs[off]]:=by
   revert hone;cases cs[off]<;>simp [oneC,Value.cells]
  rw[e1];apply List.ext_getElem?;intro q;cases q with
  | zero=>simp [hlt]
  | succ q=>simp;omega
theorem pair_oneC {s:Kd}{x y:Value}(h:PairOk s x y):oneC x=true/\oneC y=true:=by
 cases s
 ·obtain⟨a,b,rfl,rfl⟩:=h;exact⟨rfl,rfl⟩
 ·obtain⟨k,a,b,rfl,rfl⟩:=h;exact⟨rfl,rfl⟩
 ·obtain⟨a,b,rfl,rfl⟩:=h;exact⟨rfl,rfl⟩
theorem qmm:∀ {ss:List Kd}{xs ys:List Value},PairsOk ss xs ys->(∀ v∈xs,oneC v=true)/\∀ v∈ys,oneC v=true
 | [],[],[],_=>⟨by simp,by simp⟩
 | s::ss,x::xs,y::ys,h=>by
  have h1:=pair_oneC h.1;have h2:=qmm h.2;constructor
  ·intro v hv
   rcases List.mem_cons.1 hv with rfl|hv
   ·exact h1.1
   ·exact h2.1 v hv
  ·intro v hv
   rcases List.mem_cons.1 hv with rfl|hv
   ·exact h1.2
   ·exact h2.2 v hv
theorem qzamy {d:Nat}{t:TypeId}{s:List Kd}(h:sigOf P d t=some s):∃ agg,aggOf P t=some agg/\(agg=false->s.length=1):=by
 cases d with
 | zero=>simp [sigOf] at h
 | succ d=>
  simp only[sigOf] at h;unfold aggOf;cases hu:P.underlying t with
  | none=>simp [hu] at h
  | some D=>
   rw[hu] at h;cases D<;>simp at h
   case bool=>subst h;exact⟨false,rfl,λ_=>rfl⟩
   case int k=>subst h;exact⟨false,rfl,λ_=>rfl⟩
   case string=>subst h;exact⟨false,rfl,λ_=>rfl⟩
   case struct fs=>exact⟨true,rfl,λe=>by cases e⟩
   case array n e=>exact⟨true,rfl,λe=>by cases e⟩
theorem qfu {x:Value}(h:oneC x=true):x.cells=#[x]:=by
 revert h;cases x<;>simp [oneC,Value.cells]
theorem qzarh {s:Kd}{x y:Value}(hx:oneC x=true) (hy:oneC y=true) (h:PairsOk [s] x.cells.toList y.cells.toList):PairOk s x y:=by
 rw[qfu hx,qfu hy] at h;exact h.1
theorem qzaau:∀ (d:Nat) (t:TypeId) (s:List Kd),sigOf P d t=some s->∀ (m:Nat),d<=m->∀ (x y:Value),PairsOk s x.cells.toList y.cells.toList->Made P t x->Made P t y ->
  (Op.equalIn m t x y).run P W=.ok (eqCs x.cells.toList y.cells.toList) W
 | 0,_,_,h,_,_,_,_,_,_,_=>by simp [sigOf] at h
 | d+1,t,s,h,m,hm,x,y,hp,hx,hy=>by
  obtain⟨m,rfl⟩:∃ k,m=k+1:=⟨m-1,by omega⟩;have hm':d<=m:=by omega
  have one:∀ k,s=[k]->aggOf P t=some false->PairOk k x y/\x.cells=#[x]/\y.cells=#[y]:=by
   intro k hk ha;simp only[Made,ha,Option.some.injEq,Bool.false_eq_true,if_false] at hx hy;subst hk;exact⟨qzarh hx hy hp,qfu hx,qfu hy⟩
  simp only[sigOf] at h;cases hu:P.underlying t with
  | none=>simp [hu] at h
  | some D=>
   rw[hu] at h;cases D<;>simp only[Option.some.injEq,reduceCtorEq] at h
   case bool=>
    obtain⟨⟨a,b,rfl,rfl⟩,h1,h2⟩:=one _ h.symm (by simp [aggOf,hu]);rw[run_equalIn_bool' W m t a b hu,h1,h2];simp [eqCs,eqC]
   case int k=>
    obtain⟨⟨k',a,b,rfl,rfl⟩,h1,h2⟩:=one _ h.symm (by simp [aggOf,hu]);rw[run_equalIn_int W m t k' k a b hu,h1,h2];simp [eqCs,eqC]
   case string=>
    obtain⟨⟨a,b,rfl,rfl⟩,h1,h2⟩:=one _ h.symm (by simp [aggOf,hu]);rw[run_equalIn_string W m t a b hu,h1,h2];simp [eqCs,eqC]
   case struct fs=>
    simp only[Made,aggOf,hu,if_true] at hx hy;obtain⟨xs,rfl⟩:=hx;obtain⟨ys,rfl⟩:=hy;split at h
    ·cases h
    ·rename_i hst
     have hfs:P.fieldsOf t=fs:=by simp [Program.fieldsOf,hu]
     rw[run_equalIn_struct W m t xs ys (by rw[hfs];exact hu) (by simpa using hst),hfs];simp only[Value.cells] at hp ⊢;have key:∀ (fl:List Field) (off:Nat) (sr:List Kd),
       fl.foldr (λ(f:Field) (acc:Nat->Option (List Kd))=>λoff=>do
        let s <-sigOf P d f.type
        if f.name = "_"∨f.offset≠off∨szOf P f.type≠some s.length∨s.length=0 then none else
        let r <-acc (off+s.length)
        pure (s++r)) (λ_=>some []) off=some sr ->
       PairsOk sr (xs.toList.drop off) (ys.toList.drop off)->(Op.eqFields m xs ys fl).run P W=.ok (eqCs (xs.toList.drop off) (ys.toList.drop off)) W:=by
      intro fl
      induction fl with
      | nil=>
       intro off sr hsr hpr;simp only[List.foldr_nil,Option.some.injEq] at hsr;subst hsr;cases hxs:xs.toList.drop off<;>cases hys:ys.toList.drop off<;>rw[hxs,hys] at hpr<;>simp [PairsOk] at hpr;simp [Op.eqFields,eqCs]
      | cons f fl ih=>
       intro off sr hsr hpr;simp only[List.foldr_cons,Option.bind_eq_bind,Option.bind_eq_some_iff] at hsr;obtain⟨s1,hs1,hsr⟩:=hsr;split at hsr
       ·cases hsr
       ·rename_i hcond
        simp only[not_or,Decidable.not_not,ne_eq] at hcond;obtain⟨hnm,hoff,hsz,hs0⟩:=hcond;simp only[Option.bind_eq_some_iff,Option.pure_def,Option.some.injEq] at hsr;obtain⟨r,hr,rfl⟩:=hsr;have hl:=hpr.length;have hsp:=hpr.split;simp only[List.drop_drop] at hsp;simp only[List.length_drop,List.length_append,Array.length_toList] at hl;obtain⟨agg,ha,h1⟩:=qzamy hs1;have hone:=qmm hsp.1;have hpart:∀ (zs:Array Value),off+s1.length<=zs.size->(∀ v∈(zs.toList.drop off).take s1.length,oneC v=true) ->
          ∃ v,(part f.type zs f.offset).run P W=.ok v W/\v.cells.toList=(zs.toList.drop off).take s1.length/\Made P f.type v:=by
         intro zs hz ho;rw[hoff];refine qzaey ha hsz hz λhe=>⟨h1 he,λv hv=>ho v ?_⟩;rw[h1 he]
         have:off<zs.size:=by have:=h1 he;omega
         refine List.mem_of_getElem? (i:=0) ?_;simpa using hv
        obtain⟨u,hu1,hu2,hu3⟩:=hpart xs (by omega) hone.1;obtain⟨w,hw1,hw2,hw3⟩:=hpart ys (by omega) hone.2;have hrec:=qzaau d f.type s1 hs1 m hm' u w (by rw[hu2,hw2];exact hsp.1) hu3 hw3;have htail:=ih _ _ hr hsp.2;simp only[Op.eqFields,ne_eq,hnm,not_false_eq_true,if_true,Sem.run_bind,hu1,hw1,hrec,Result.andThen_ok];rw[qzaav s1.length (xs.toList.drop off) (ys.toList.drop off) (by simp;omega),<-hu2,<-hw2,List.drop_drop,List.drop_drop];cases he:eqCs u.cells.toList w.cells.toList
        ·simp
        ·simp [htail]
     simpa using key fs.toList 0 s h (by simpa using hp)
   case array n e=>
    simp only[Made,aggOf,hu,if_true] at hx hy;obtain⟨xs,rfl⟩:=hx;obtain⟨ys,rfl⟩:=hy;simp only[Option.bind_eq_bind,Option.bind_eq_some_iff] at h;obtain⟨s1,hs1,h⟩:=h;split at h
    ·cases h
    ·rename_i hsz0
     have hsz:szOf P e=some s1.length:=Decidable.byContradiction λhh=>hsz0 (.inl hh);have h0:s1.length≠0:=λhh=>hsz0 (.inr hh);simp only[Option.pure_def,Option.some.injEq] at h;subst h;simp only[szOf,Option.map_eq_some_iff] at hsz;obtain⟨i,hi,hisz⟩:=hsz;have hcell:P.cellsOf e=s1.length:=by simp [Program.cellsOf,hi,hisz]
     rw[run_equalIn_array W m xs ys hu hi,hcell];simp only[Value.cells] at hp ⊢;have key:∀ (k j:Nat),PairsOk (List.replicate k s1).flatten (xs.toList.drop (j*s1.length)) (ys.toList.drop (j*s1.length)) ->
       (Op.eqItems m e s1.length xs ys (List.range' j k)).run P W=.ok (eqCs (xs.toList.drop (j*s1.length)) (ys.toList.drop (j*s1.length))) W:=by
      intro k
      induction k with
      | zero=>
       intro j hpr;simp only[List.replicate_zero,List.flatten_nil] at hpr;cases hxs:xs.toList.drop (j*s1.length)<;>cases hys:ys.toList.drop (j*s1.length)<;>rw[hxs,hys] at hpr<;>simp [PairsOk] at hpr;simp [Op.eqItems,eqCs]
      | succ k ih=>
       intro j hpr;simp only[List.replicate_succ,List.flatten_cons] at hpr;have hl:=hpr.length;have hsp:=hpr.split;simp only[List.drop_drop] at hsp;simp only[List.length_drop,List.length_append,Array.length_toList] at hl;obtain⟨agg,ha,h1⟩:=qzamy hs1;have hone:=qmm hsp.1;have hpart:∀ (zs:Array Value),j*s1.length+s1.length<=zs.size->(∀ v∈(zs.toList.drop (j*s1.length)).take s1.length,oneC v=true) ->
         ∃ v,(part e zs (j*s1.length)).run P W=.ok v W/\v.cells.toList=(zs.toList.drop (j*s1.length)).take s1.length/\Made P e v:=by
        intro zs hz ho;refine qzaey ha (by simp [szOf,hi,hisz]) hz λhe=>⟨h1 he,λv hv=>ho v ?_⟩;rw[h1 he] at hv ⊢;refine List.mem_of_getElem? (i:=0) ?_;simpa using hv
       obtain⟨u,hu1,hu2,hu3⟩:=hpart xs (by omega) hone.1;obtain⟨w,hw1,hw2,hw3⟩:=hpart ys (by omega) hone.2;have hrec:=qzaau d e s1 hs1 m hm' u w (by rw[hu2,hw2];exact hsp.1) hu3 hw3;have hj:j*s1.length+s1.length=(j+1)*s1.length:=by rw[Nat.add_mul,Nat.one_mul]
       rw[hj] at hsp;have htail:=ih (j+1) hsp.2;simp only[List.range'_succ,Op.eqItems,Sem.run_bind,hu1,hw1,hrec,Result.andThen_ok];rw[qzaav s1.length (xs.toList.drop (j*s1.length)) (ys.toList.drop (j*s1.length)) (by simp;omega),<-hu2,<-hw2,List.drop_drop,List.drop_drop,hj];cases he:eqCs u.cells.toList w.cells.toList
       ·simp
       ·simp [htail]
     have:=key n 0 (by simpa using hp)
     simpa [List.range_eq_range'] using this
end
end Cz
