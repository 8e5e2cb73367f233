/- What the claims of this group lean on: CzR. No condition. -/
import Derived.Test.YtfijlhdheiebcaaGreatDoorKB3
import Derived.Test.YtfijlhdheiebcaaGreatDoorProg
set_option maxRecDepth 100000
namespace Cz
open Go Go.RowKit Go.Proofs
namespace I
def o (d:Nat) (x:AOp):AO:=⟨some d,x,none⟩
def u (x:AOp):AO:=⟨none,x,none⟩
def q (d:Nat) (x:AOp) (a:Nat) (b:Bool):AO:=⟨some d,x,some (a,b)⟩
def z (n:Int):Opd:=.c (.i .i64 (.l n))
def f (g:Nat) (l:List Opd):AOp:=.call (.c (.fn (.func g) [] [])) l
def kk (l:List (List Nat)) (n:Nat):List Nat:=l.getD n []
theorem fi {P:Program}{g n:Nat}{rs:List RV}{ir:IR}{c:Code}{fn:Func}(kl:Nat->List Nat) (h:P.funcs[g]?=some fn) (e:∀ args w,(callFunc g args).run P w=.ok (.enter g args) w) (hb:fn.body=some c:=by exact rfl) (hn:fn.ntmps=n:=by exact rfl) (h1:conv P kl c=some ir:=by kernel_rfl) (h2:fn.results.toList.mapM (cRV P)=some rs:=by kernel_rfl):FnIs P g n rs ir:=⟨fn,c,kl,h,hb,hn,h1,h2,e⟩
def codeOf (P:Program) (kl:Nat->List Nat) (fn:Func):IR:=match fn.body with
 | some c=>(conv P kl c).getD .skip
 | none=>.skip
structure Cd (P:Program) (kl:Nat->List Nat) (fn:Func) where
 c:IR
 h:codeOf P kl fn=c
def m (d s:Nat):AO:=o d (.mv (.t s))
def l1 (d s:Nat):AO:=o d (.load false 1 (.t s))
def fd (d n s:Nat):AO:=o d (.fad n (.t s))
def ex (d s n:Nat):AO:=o d (.ext (.t s) n)
def mq (d s a:Nat) (b:Bool):AO:=q d (.mv (.t s)) a b
def lq (d s a:Nat) (b:Bool):AO:=q d (.load false 1 (.t s)) a b
def fq (d n s a:Nat) (b:Bool):AO:=q d (.fad n (.t s)) a b
def t (n:Nat):Opd:=.t n
def sr (l:List AO) (k:List Nat) (b:IR):IR:=.seq (.reg l k) b
def rg (a:Nat):Nat->List Nat
 | 0=>[]
 | n+1=>a::rg (a+1) n
def og (a:Nat):Nat->List (Nat×List Nat)
 | 0=>[]
 | n+1=>(a,[])::og (a+1) n
def z0:List SV:=[(.re (.slice none 0 0)),(.i .i64 (.l 0)),(.re (.slice none 0 0)),(.re (.slice none 0 0)),(.i .i64 (.l 0)),(.i .i64 (.l 0)),(.i .i64 (.l 0)),(.re (.slice none 0 0)),(.i .u64 (.l 0)),(.i .i64 (.l 0)),(.i .i64 (.l 0)),(.i .i64 (.l 0)),(.i .i64 (.l 0)),(.i .i64 (.l 0)),(.i .i64 (.l 0)),(.i .i64 (.l 0)),(.i .i64 (.l 0)),.ff]
def z1:List SV:=[(.i .u8 (.l 0)),(.i .i64 (.l 0)),(.i .i64 (.l 0)),(.i .u32 (.l 0)),(.re (.slice none 0 0)),(.re (.slice none 0 0)),(.re (.slice none 0 0))]
def z2:List SV:=[(.i .u8 (.l 0)),(.i .u8 (.l 0)),(.i .i64 (.l 0)),(.i .i64 (.l 0))]
def z3:List SV:=[(.i .i64 (.l 0)),(.i .u8 (.l 0)),(.i .i64 (.l 0)),(.i .i64 (.l 0)),(.i .i64 (.l 0)),.ff,.ff,(.re (.slice none 0 0)),(.i .u8 (.l 0)),.ff,(.i .i64 (.l 0))]
def z4:List SV:=[(.i .i64 (.l 0)),(.i .u8 (.l 0)),(.i .u8 (.l 0)),(.i .i64 (.l 0))]
def z5:List SV:=[(.i .u8 (.l 0)),(.i .u8 (.l 0)),(.i .i64 (.l 0)),(.re (.slice none 0 0)),(.i .i64 (.l 0)),(.i .i64 (.l 0)),(.i .i64 (.l 0)),(.i .u32 (.l 0)),(.re (.slice none 0 0)),.ff,.ff,(.i .i64 (.l 0)),(.i .u8 (.l 0))]
end I
end Cz
