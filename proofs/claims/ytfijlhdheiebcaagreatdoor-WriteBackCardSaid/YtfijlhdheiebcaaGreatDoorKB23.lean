/- What the claims of this group lean on: WsA WsB WsC WsK WsD WsF. No condition. -/
import Derived.Test.YtfijlhdheiebcaaGreatDoorKB22
set_option linter.unusedSimpArgs false
set_option linter.unusedVariables false
set_option maxRecDepth 100000
set_option maxHeartbeats 4000000
namespace Cz
open Go Go.RowKit Go.Proofs
namespace Wr
abbrev Rd:=List (Int×Int)×(Nat->Int)
def offS (W:List (Int×Int)) (R:Rd) (s:Int):Rd:=if findB W s=true then R else (outR R.1 R.2 s).1
def offN (W:List (Int×Int)) (R:Rd):Nat->Rd
 | 0=>R
 | n+1=>offS W (offN W R n) (Int.ofNat n)
def onS (R:Rd) (y:Int×Int):Rd:=
 if ofB (allR R.1 R.2) y.1=true then (if ofK (allR R.1 R.2) y.1=y.2 then R else (insL (outR R.1 R.2 y.1).1.1 y,(outR R.1 R.2 y.1).1.2)) else (insL R.1 y,R.2)
def onL (R:Rd) (W:List (Int×Int)):Rd:=W.foldl onS R
def settleR (R:Rd) (W:List (Int×Int)):Rd:=onL (offN W R 8) W
theorem qzafg {W:List (Int×Int)}{s:Int}:findB W s=true↔s∈W.map (·.1):=by
 unfold findB findP;rw[List.findIdx?_isSome]
 simp
theorem qzawe {W:List (Int×Int)}{s:Int}:findB W s=false↔s∉W.map (·.1):=by
 rw[<-qzafg];simp
theorem off_s {W:List (Int×Int)}{R:Rd}{s:Int}(hR:GoodR R.1 R.2):GoodR (offS W R s).1 (offS W R s).2/\allR (offS W R s).1 (offS W R s).2=if findB W s=true then allR R.1 R.2 else outL (allR R.1 R.2) s:=by
 unfold offS;split
 ·exact⟨hR,rfl⟩
 ·obtain⟨h1,h2,h3⟩:=out_r (L':=(outR R.1 R.2 s).1.1) (H':=(outR R.1 R.2 s).1.2) (t:=(outR R.1 R.2 s).2) hR rfl
  exact⟨h2,h3⟩
theorem off_n {W:List (Int×Int)}{R:Rd}(hR:GoodR R.1 R.2):∀ n,GoodR (offN W R n).1 (offN W R n).2/\allR (offN W R n).1 (offN W R n).2=(allR R.1 R.2).filter λy=>findB W y.1||decide (Int.ofNat n<=y.1)
 | 0=>⟨hR,by
  show allR R.1 R.2=_;symm;rw[List.filter_eq_self];intro y hy
  have:=(qzatl hR hy).1.1
  simp only[Bool.or_eq_true,decide_eq_true_eq];exact .inr this⟩
 | n+1=>by
  obtain⟨h1,h2⟩:=off_n (W:=W) hR n;obtain⟨h3,h4⟩:=off_s (W:=W) (s:=Int.ofNat n) h1;refine⟨h3,?_⟩;show allR (offS W (offN W R n) (Int.ofNat n)).1 (offS W (offN W R n) (Int.ofNat n)).2=_;rw[h4,h2];split
  ·rename_i hf
   refine List.filter_congr λy hy=>?_;by_cases e:y.1=Int.ofNat n
   ·rw[e,hf];rfl
   ·congr 1
    rw[decide_eq_decide];simp only[Int.ofNat_eq_natCast] at e ⊢;omega
  ·rename_i hf
   unfold outL;rw[List.filter_filter];refine List.filter_congr λy hy=>?_;by_cases e:y.1=Int.ofNat n
   ·have h5:findB W y.1=false:=by rw[e];simpa using hf
    rw[h5,e]
    have:¬ Int.ofNat (n+1)<=Int.ofNat n:=by simp only[Int.ofNat_eq_natCast];omega
    simp [this];omega
   ·have h6:decide (Int.ofNat n<=y.1)=decide (Int.ofNat (n+1)<=y.1):=by
     rw[decide_eq_decide];simp only[Int.ofNat_eq_natCast] at e ⊢;omega
    rw[h6,show decide (y.1≠Int.ofNat n)=true from decide_eq_true e,Bool.true_and]
theorem off_8 {W:List (Int×Int)}{R:Rd}(hR:GoodR R.1 R.2):GoodR (offN W R 8).1 (offN W R 8).2/\allR (offN W R 8).1 (offN W R 8).2=(allR R.1 R.2).filter λy=>findB W y.1:=by
 obtain⟨h1,h2⟩:=off_n (W:=W) hR 8;refine⟨h1,h2.trans (List.filter_congr λy hy=>?_)⟩
 have:=(qzatl hR hy).1.2
 have h3:decide (Int.ofNat 8<=y.1)=false:=decide_eq_false (by simp only[Int.ofNat_eq_natCast];omega);rw[h3,Bool.or_false]
theorem out_no {A:List (Int×Int)}{s:Int}:s∉(outL A s).map (·.1):=by
 intro h;obtain⟨y,hy,e⟩:=List.mem_map.1 h
 have:=(qzagm.1 hy).2
 exact this e
theorem of_false {A:List (Int×Int)}{s:Int}(h:s∉A.map (·.1)):ofB A s=false:=Bool.eq_false_iff.2 λe=>h (qwy.1 e)
theorem on_s {R:Rd}{y:Int×Int}(hR:GoodR R.1 R.2) (h1:0<=y.1/\y.1<=7) (h2:0<=y.2/\y.2<=7):GoodR (onS R y).1 (onS R y).2 /\
  allR (onS R y).1 (onS R y).2=if ofB (allR R.1 R.2) y.1=true/\ofK (allR R.1 R.2) y.1=y.2 then allR R.1 R.2 else insL (outL (allR R.1 R.2) y.1) y:=by
 obtain⟨s,u⟩:=y;unfold onS;dsimp only at h1 h2 ⊢;cases hb:ofB (allR R.1 R.2) s with
 | false=>
  rw[if_neg (by decide),if_neg (by simp)];obtain⟨_,g2⟩:=qya hR h1 h2 hb;refine⟨g2,?_⟩;rw[qzagn λz hz e=>of_no hb (List.mem_map.2 ⟨z,hz,e⟩)];exact qzaez hR.w h2
 | true=>
  rw[if_pos rfl];by_cases hk:ofK (allR R.1 R.2) s=u
  ·rw[if_pos hk,if_pos ⟨rfl,hk⟩]
   exact⟨hR,rfl⟩
  ·rw[if_neg hk,if_neg λe=>hk e.2]
   obtain⟨_,g2,g3⟩:=out_r (L':=(outR R.1 R.2 s).1.1) (H':=(outR R.1 R.2 s).1.2) (t:=(outR R.1 R.2 s).2) hR rfl;have hb2:ofB (allR (outR R.1 R.2 s).1.1 (outR R.1 R.2 s).1.2) s=false:=by rw[g3];exact of_false out_no
   obtain⟨_,g4⟩:=qya g2 h1 h2 hb2;refine⟨g4,?_⟩;rw[<-g3];exact qzaez g2.w h2
theorem on_mem {R:Rd}{y z:Int×Int}(hR:GoodR R.1 R.2) (h1:0<=y.1/\y.1<=7) (h2:0<=y.2/\y.2<=7):z∈allR (onS R y).1 (onS R y).2↔z=y∨(z∈allR R.1 R.2/\z.1≠y.1):=by
 rw[(on_s hR h1 h2).2];split
 ·rename_i h
  have hm:=qzaac h.2 h.1;constructor
  ·intro hz
   by_cases e:z.1=y.1
   ·exact .inl (qzank hR.nd hz hm e)
   ·exact .inr ⟨hz,e⟩
  ·rintro (rfl|h3)
   ·exact hm
   ·exact h3.1
 ·rw[ins_mem,qzagm]
def Bd8 (W:List (Int×Int)):Prop:=∀ y∈W,(0<=y.1/\y.1<=7)/\(0<=y.2/\y.2<=7)
theorem on_l:∀ {W:List (Int×Int)}{R:Rd},GoodR R.1 R.2->Bd8 W->(W.map (·.1)).Nodup->GoodR (onL R W).1 (onL R W).2/\∀ z,z∈allR (onL R W).1 (onL R W).2↔z∈W∨(z∈allR R.1 R.2/\z.1∉W.map (·.1))
 | [],R,hR,_,_=>⟨hR,λz=>by simp [onL]⟩
 | y::W,R,hR,hb,hnd=>by
  have h1:=hb y (by simp);rw[List.map_cons,List.nodup_cons] at hnd;obtain⟨g1,g2⟩:=on_l (W:=W) (R:=onS R y) (on_s hR h1.1 h1.2).1 (λz hz=>hb z (by simp [hz])) hnd.2;refine⟨g1,λz=>?_⟩;show z∈allR (onL (onS R y) W).1 (onL (onS R y) W).2↔_;rw[g2,on_mem hR h1.1 h1.2,List.map_cons,List.mem_cons,List.mem_cons];constructor
  ·rintro (h|⟨rfl|⟨h3,h4⟩,h5⟩)
   ·exact .inl (.inr h)
   ·exact .inl (.inl rfl)
   ·exact .inr ⟨h3,λe=>e.elim h4 h5⟩
  ·rintro ((rfl|h)|⟨h3,h4⟩)
   ·exact .inr ⟨.inl rfl,hnd.1⟩
   ·exact .inl h
   ·exact .inr ⟨.inr ⟨h3,λe=>h4 (.inl e)⟩,λe=>h4 (.inr e)⟩
theorem settle_ok {R:Rd}{W:List (Int×Int)}(hR:GoodR R.1 R.2) (hb:Bd8 W) (hnd:(W.map (·.1)).Nodup):GoodR (settleR R W).1 (settleR R W).2/\∀ z,z∈allR (settleR R W).1 (settleR R W).2↔z∈W:=by
 obtain⟨h1,h2⟩:=off_8 (W:=W) hR;obtain⟨h3,h4⟩:=on_l h1 hb hnd;refine⟨h3,λz=>?_⟩;unfold settleR;rw[h4,h2,List.mem_filter,qzafg];constructor
 ·rintro (h|⟨h,h'⟩)
  ·exact h
  ·exact absurd h.2 h'
 ·exact .inl
end Wr
end Cz
namespace Cz
open Go Go.RowKit Go.Proofs
namespace Wr
def want (ss:List St) (a:Int):List (Int×Int):=(ss.filter λs=>sendB s a).map λs=>(s.sl,s.ur)
def slots (ss:List St):List Int:=(ss.filter λs=>ansB s.st).map λs=>s.sl
def slotB (s:St):Bool:=if ansB s.st=true then decide (0<=s.sl) else decide (s.sl=-1)
structure GdS (ss:List St):Prop where
 ok:∀ s∈ss,StOk s/\stB s=true/\livB s.st=true/\slotB s=true
 len:ilen ss<=8
 srt:(ss.map λs=>s.id).Pairwise λa b=>a<b
 nd:(slots ss).Nodup
theorem qdh {s:St}{a:Int}(h:sendB s a=true):ansB s.st=true:=by
 unfold sendB at h;simp only[Bool.and_eq_true] at h;exact h.1.2
theorem qpy {s:St}(ok:StOk s) (h:stB s=true):(-1<=s.sl/\s.sl<=7)/\(0<=s.ur/\s.ur<=7):=by
 have:=of_decide_eq_true h
 have:=ok.ur
 omega
theorem qen {ss:List St}(h:GdS ss) {s:St}(hs:s∈ss) (ha:ansB s.st=true):0<=s.sl/\s.sl<=7:=by
 obtain⟨h1,h2,_,h4⟩:=h.ok s hs;unfold slotB at h4;rw[if_pos ha] at h4
 have:=of_decide_eq_true h4
 have:=(qpy h1 h2).1
 omega
theorem qei {ss:List St}{a:Int}{y:Int×Int}:y∈want ss a↔∃ s∈ss,sendB s a=true/\y=(s.sl,s.ur):=by
 unfold want;rw[List.mem_map];constructor
 ·rintro ⟨s,hs,rfl⟩
  have:=List.mem_filter.1 hs
  exact⟨s,this.1,this.2,rfl⟩
 ·rintro ⟨s,hs,h,rfl⟩
  exact⟨s,List.mem_filter.2 ⟨hs,h⟩,rfl⟩
theorem qzamj {ss:List St}(h:GdS ss) (a:Int):Bd8 (want ss a):=by
 intro y hy;obtain⟨s,hs,h1,rfl⟩:=qei.1 hy;have h2:=qen h hs (qdh h1);obtain⟨h3,h4,_⟩:=h.ok s hs;exact⟨h2,(qpy h3 h4).2⟩
theorem want_sub {ss:List St}(a:Int):((want ss a).map (·.1)).Sublist (slots ss):=by
 unfold want slots;rw[List.map_map];refine List.Sublist.map _ ?_
 induction ss with
 | nil=>exact .slnil
 | cons s ss ih=>
  rw[List.filter_cons,List.filter_cons];cases h:sendB s a with
  | true=>rw[if_pos rfl,if_pos (qdh h)];exact ih.cons_cons _
  | false=>
   rw[if_neg (by decide)];split
   ·exact ih.cons _
   ·exact ih
theorem qzami {ss:List St}(h:GdS ss) (a:Int):((want ss a).map (·.1)).Nodup:=(want_sub a).nodup h.nd
theorem gds_sub {ss ss':List St}(h:GdS ss) (hs:ss'.Sublist ss):GdS ss':=by
 refine⟨λs hm=>h.ok s (hs.subset hm),?_,h.srt.sublist (hs.map _),((hs.filter _).map _).nodup h.nd⟩
 have:=hs.length_le
 have:=h.len
 unfold ilen at *;omega
theorem qzaqu:∀ {ss:List St}{i:Nat}{s s':St},ss[i]?=some s->(ansB s'.st=true->ansB s.st=true/\s'.sl=s.sl)->(slots (ss.set i s')).Sublist (slots ss)
 | [],_,_,_,h,_=>by simp at h
 | x::ss,0,s,s',h,ha=>by
  simp only[List.getElem?_cons_zero,Option.some.injEq] at h;subst h;unfold slots;rw[List.set_cons_zero,List.filter_cons,List.filter_cons];cases h1:ansB s'.st with
  | true=>
   obtain⟨h2,h3⟩:=ha h1;rw[if_pos rfl,if_pos h2,List.map_cons,List.map_cons,h3];exact List.Sublist.refl _
  | false=>
   rw[if_neg (by decide)];split
   ·rw[List.map_cons];exact List.sublist_cons_self _ _
   ·exact List.Sublist.refl _
 | x::ss,i+1,s,s',h,ha=>by
  have ih:=qzaqu (ss:=ss) (i:=i) (by simpa using h) ha;unfold slots at ih ⊢;rw[List.set_cons_succ,List.filter_cons,List.filter_cons];split
  ·rw[List.map_cons,List.map_cons];exact ih.cons_cons _
  ·exact ih
theorem ids_set {ss:List St}{i:Nat}{s s':St}(h:ss[i]?=some s) (hi:s'.id=s.id):(ss.set i s').map (λs=>s.id)=ss.map λs=>s.id:=by
 rw[List.map_set,hi];obtain⟨h1,rfl⟩:=List.getElem?_eq_some_iff.1 h;refine List.ext_getElem? λk=>?_;rw[List.getElem?_set];split
 ·rename_i e
  subst e;simp [h1]
 ·rfl
theorem gds_set {ss:List St}{i:Nat}{s s':St}(h:GdS ss) (hi:ss[i]?=some s) (hid:s'.id=s.id) (hok:StOk s'/\stB s'=true/\livB s'.st=true/\slotB s'=true) (ha:ansB s'.st=true->ansB s.st=true/\s'.sl=s.sl):GdS (ss.set i s'):=by
 refine⟨λx hx=>?_,?_,?_,(qzaqu hi ha).nodup h.nd⟩
 ·rcases List.mem_or_eq_of_mem_set hx with h1|rfl
  ·exact h.ok x h1
  ·exact hok
 ·have:=h.len
  unfold ilen at *;rw[List.length_set];exact this
 ·rw[ids_set hi hid]
  exact h.srt
theorem gds_app {ss:List St}{s:St}(h:GdS ss) (hl:ilen ss<8) (hid:∀ x∈ss,x.id<s.id) (hok:StOk s/\stB s=true/\livB s.st=true/\slotB s=true) (hn:s.sl∉slots ss):GdS (ss++[s]):=by
 refine⟨λx hx=>?_,?_,?_,?_⟩
 ·rcases List.mem_append.1 hx with h1|h1
  ·exact h.ok x h1
  ·simp only[List.mem_cons,List.not_mem_nil,or_false] at h1
   subst h1;exact hok
 ·unfold ilen at *
  rw[List.length_append,List.length_singleton];omega
 ·rw[List.map_append,List.pairwise_append]
  refine⟨h.srt,by simp,λa ha b hb=>?_⟩;obtain⟨x,hx,rfl⟩:=List.mem_map.1 ha;simp only[List.map_cons,List.map_nil,List.mem_cons,List.not_mem_nil,or_false] at hb;subst hb;exact hid x hx
 ·unfold slots at hn ⊢
  rw[List.filter_append,List.map_append,List.nodup_append];refine⟨h.nd,?_,λa ha b hb e=>?_⟩
  ·rw[List.filter_cons]
   split<;>simp
  ·have:b=s.sl:=by
    rw[List.filter_cons] at hb;split at hb
    ·simpa using hb
    ·simp at hb
   exact hn (by rw[<-this,<-e];exact ha)
structure GdR (ss:List St) (a:Int) (R:Rd):Prop where
 r:GoodR R.1 R.2
 mem:∀ y,y∈allR R.1 R.2↔y∈want ss a
theorem settle_gd {ss:List St}{R:Rd}(h:GdS ss) (hR:GoodR R.1 R.2) (a:Int):GdR ss a (settleR R (want ss a)):=by
 obtain⟨h1,h2⟩:=settle_ok hR (qzamj h a) (qzami h a);exact⟨h1,h2⟩
structure Ot where
 k:Int
 st:Int
 sz:Int
 co:Int
 da:List Int
 ps:List (Int×Int)
 li:List Tb.Fd
structure OtOk (o:Ot):Prop where
 k:0<=o.k/\o.k<=255
 st:Big o.st
 sz:Big o.sz
 co:0<=o.co/\o.co<=4294967295
 da:Hu.BOk o.da
 dl:ilen o.da<=1000
 ps:∀ p∈o.ps,(0<=p.1/\p.1<=65535)/\(0<=p.2/\p.2<=4294967295)
 pl:ilen o.ps<=1000
 ll:ilen o.li<=1000
 lf:Tb.fullL o.li<=10000000
def prB (p:Int×Int):Bool:=decide (¬((p.1=2∨p.1=9)/\1<p.2)/\¬(p.1=5/\(p.2<16384∨16777215<p.2))/\¬(p.1=4/\2147483647<p.2))
def waitB (o:Ot):Bool:=
 if o.k=0 then o.ps.all prB
 else if o.k=1 then decide (0<=o.sz/\o.sz<=4096)
 else if o.k=2 then decide (ilen o.da=8)
 else if o.k=3 then decide (0<=o.st/\o.st<=2147483647)
 else if o.k=4 then decide (1<=o.st/\o.st<=2147483647)
 else if o.k=5 then decide (0<=o.st/\o.st<=2147483647)
 else if o.k=6 then decide (1<=o.st/\o.st<=2147483647)&&decide (Tb.fullL o.li<=40000)
 else false
structure Ln where
 os:List Ot
 tm:Int
 tr:List Tb.Fd
 zs:List Int
 se:Int
 re:Int
 ow:Int
 ss:List St
 L:List (Int×Int)
 H:Nat->Int
 sh:Bool
def zsB (zs:List Int):Bool:=decide (ilen zs<=2/\(∀ n∈zs,0<=n/\n<=4096))&&(match zs with|[a,b]=>decide (a<b)|_=>true)
structure GdL (X:Ln):Prop where
 on:ilen X.os<=if X.sh=true then 129 else 128
 os:∀ o∈X.os,OtOk o/\waitB o=true
 tab:Tb.rightL X.tm X.tr=true
 zs:zsB X.zs=true
 se:wB X.se=true
 re:0<=X.re/\X.re<=2147483647
 ow:0<=X.ow/\X.ow<=2147483647
 ss:GdS X.ss
 rd:GdR X.ss X.se (X.L,X.H)
def newL:Ln:=⟨[],4096,[],[],65535,65535,0,[],[],λ_=>-1,false⟩
def setL (X:Ln):Ln:={ X with L:=(settleR (X.L,X.H) (want X.ss X.se)).1,H:=(settleR (X.L,X.H) (want X.ss X.se)).2 }
def sameW (o p:Ot):Bool:=decide (p.k=3/\p.st=o.st)
def putL (X:Ln) (o:Ot):Ln×Bool:=
 if X.sh=true∨waitB o=false∨128<=ilen X.os then (X,false)
 else if o.k=3/\X.os.any (sameW o)=true then (X,true)
 else ({ X with os:=X.os++[o] },true)
def shutL (X:Ln) (last code:Int):Ln×Bool:=
 if X.sh=true∨¬(0<=last/\last<=2147483647) then (X,false) else ({ X with os:=X.os++[⟨5,last,0,code,[],[],[]⟩],sh:=true },true)
def plI (ss:List St) (id:Int):Option Nat:=ss.findIdx? λs=>decide (s.id=id)
def slI (ss:List St) (sl:Int):Option Nat:=ss.findIdx? λs=>decide (s.sl=sl)
def gotL (X:Ln) (n:Int):Ln×Bool:=if 0<=n/\n<=X.re then ({ X with re:=X.re-n,ow:=min (X.ow+n) 2147483647 },true) else (X,false)
def giveL (X:Ln) (n:Int):Ln×Bool:=if (movI X.se n (givB n)).2=true then (setL { X with se:=(movI X.se n (givB n)).1 },true) else (X,false)
def shiftL (X:Ln) (b:Int):Ln×Bool:=if (X.ss.all λs=>(shiftS s b).2)=true then (setL { X with ss:=X.ss.map λs=>(shiftS s b).1 },true) else (X,false)
def freeI (us:List Int):Nat->Int->Int
 | 0,k=>k
 | f+1,k=>if k∈us then freeI us f (k+1) else k
def openL (X:Ln) (s:St):Ln×Bool:=
 if 8<=ilen X.ss∨stB s=false∨ansB s.st=false∨(∃ x∈X.ss.getLast?,s.id<=x.id) then (X,false)
 else (setL { X with ss:=X.ss++[{ s with sl:=freeI (slots X.ss) 8 0 }] },true)
def laidS (s0 s:St):St:={ s with sl:=if ansB s.st=true then s0.sl else -1 }
def laidI (ss:List St) (i:Nat) (s0 s:St):List St:=if livB s.st=true then ss.set i (laidS s0 s) else ss.eraseIdx i
def stayB (id:Int) (o:Ot):Bool:=decide (¬(o.st=id/\(o.k=6∨o.k=3∨o.k=4)))
def changeL (X:Ln) (s:St):Ln×Bool:=
 match plI X.ss s.id with
 | none=>(X,false)
 | some i=>match X.ss[i]? with
  | none=>(X,false)
  | some s0=>if stB s=false∨(ansB s.st=true/\ansB s0.st=false) then (X,false)
   else (setL { X with ss:=laidI X.ss i s0 s,os:=if s.st=6 then X.os.filter (stayB s.id) else X.os },true)
structure Fm where
 k:Int
 fl:Int
 st:Int
 da:List Int
 la:Int
 inc:Int
 co:Int
 ps:List (Int×Int)
def beB:Nat->Int->List Int
 | 0,_=>[]
 | k+1,n=>beB k (n/256)++[n%256]
def payB (f:Fm):List Int:=
 if f.k=3 then beB 4 f.co
 else if f.k=4 then f.ps.flatMap λp=>beB 2 p.1++beB 4 p.2
 else if f.k=7 then beB 4 f.la++beB 4 f.co++f.da
 else if f.k=8 then beB 4 f.inc
 else f.da
def putB (f:Fm):List Int:=beB 3 (ilen (payB f))++[f.k,f.fl]++beB 4 f.st++payB f
def backL (X:Ln) (id:Int):Ln×Int:=
 if id=0 then ({ X with ow:=0,re:=min (X.re+X.ow) 2147483647 },X.ow)
 else match plI X.ss id with
 | none=>(X,0)
 | some i=>match X.ss[i]? with
  | none=>(X,0)
  | some s=>({ X with ss:=X.ss.set i (backS s).1 },(backS s).2)
def sizedL (X:Ln) (n:Int):Ln:=
 if X.zs=[]/\X.tm=n then X else { X with zs:=if X.zs.foldl min n=n then [n] else [X.zs.foldl min n,n] }
def ahdB (zs:List Int):List Int:=zs.flatMap Pa.sizB
def ahdT:Tb.Tab->List Int->Tb.Tab
 | t,[]=>t
 | t,z::zs=>ahdT (z,Tb.evL z t.2) zs
def blkB (X:Ln) (o:Ot):List Int:=ahdB X.zs++Pa.blockB (ahdT (X.tm,X.tr) X.zs).1 (ahdT (X.tm,X.tr) X.zs).2 o.li
def fmsB (id:Int):Nat->Int->List Int->List Fm
 | 0,_,_=>[]
 | f+1,k,b=>if b.length<=16384 then [⟨k,4,id,b,0,0,0,[]⟩] else ⟨k,0,id,b.take 16384,0,0,0,[]⟩::fmsB id f 9 (b.drop 16384)
def headL (X:Ln) (o:Ot):Ln:={ X with tm:=(ahdT (X.tm,X.tr) X.zs).1,tr:=Pa.blockL (ahdT (X.tm,X.tr) X.zs).1 (ahdT (X.tm,X.tr) X.zs).2 o.li,zs:=[] }
def goesL (X:Ln) (o:Ot):Ln×List Fm:=
 if o.k=0 then (X,[⟨4,0,0,[],0,0,0,o.ps⟩])
 else if o.k=1 then (sizedL X o.sz,[⟨4,1,0,[],0,0,0,[]⟩])
 else if o.k=2 then (X,[⟨6,1,0,o.da,0,0,0,[]⟩])
 else if o.k=3 then ((backL X o.st).1,if (backL X o.st).2=0 then [] else [⟨8,0,o.st,[],0,(backL X o.st).2,0,[]⟩])
 else if o.k=4 then (X,[⟨3,0,o.st,[],0,0,o.co,[]⟩])
 else if o.k=5 then (X,[⟨7,0,0,[],o.st,0,o.co,[]⟩])
 else (headL X o,fmsB o.st ((blkB X o).length+1) 1 (blkB X o))
def popL:List Ot->Ln->Ln×List Fm
 | [],X=>({ X with os:=[] },[])
 | o::r,X=>if (goesL X o).2=[] then popL r (goesL X o).1 else ({ (goesL X o).1 with os:=r },(goesL X o).2)
def sentS (s:St) (n:Int):St:={ s with o:=s.o.drop n.toNat,se:=s.se-n }
def overD (s:St):St:=if s.en=true/\s.o=[] then overS s (endS s.st) else s
def dataL (X:Ln) (most cut:Int):Option (Ln×Fm):=
 match allR X.L X.H with
 | []=>none
 | (sl,u)::_=>match slI X.ss sl with
  | none=>none
  | some i=>match X.ss[i]? with
   | none=>none
   | some s=>
    let n:=cutI s.se X.se (min most 16384) cut (ilen s.o)
    if n=0/\0<ilen s.o then none
    else
     let s1:=sentS s n
     let s2:=overD s1
     let R1:=(outR X.L X.H sl).1
     let R2:=overR R1.1 R1.2 sl u s2.ic (sendB s2 (X.se-n))
     some (setL { X with se:=X.se-n,ss:=laidI X.ss i s s2,L:=R2.1,H:=R2.2 },⟨0,if s1.en=true/\s1.o=[] then 1 else 0,s.id,s.o.take n.toNat,0,0,0,[]⟩)
structure Gn where
 k:Int
 fl:Int
 st:Int
 many:Int
def stepL (X:Ln) (most cut:Int):Ln×List Int×Gn×Bool:=
 match (popL X.os X).2 with
 | f::r=>((popL X.os X).1,(f::r).flatMap putB,⟨f.k,f.fl,f.st,f.inc⟩,true)
 | []=>if X.sh=true then ((popL X.os X).1,[],⟨0,0,0,0⟩,false)
  else match dataL (popL X.os X).1 most cut with
  | none=>((popL X.os X).1,[],⟨0,0,0,0⟩,false)
  | some (Y,f)=>(Y,putB f,⟨f.k,f.fl,f.st,ilen f.da⟩,true)
end Wr
end Cz
namespace Cz
open Go Go.RowKit Go.Proofs
namespace Wr
structure GdP (X:Ln):Prop where
 on:ilen X.os<=if X.sh=true then 129 else 128
 os:∀ o∈X.os,OtOk o/\waitB o=true
 tab:Tb.rightL X.tm X.tr=true
 zs:zsB X.zs=true
 se:wB X.se=true
 re:0<=X.re/\X.re<=2147483647
 ow:0<=X.ow/\X.ow<=2147483647
 ss:GdS X.ss
 r:GoodR X.L X.H
theorem set_gd {X:Ln}(h:GdP X):GdL (setL X):=⟨h.on,h.os,h.tab,h.zs,h.se,h.re,h.ow,h.ss,settle_gd (R:=(X.L,X.H)) h.ss h.r X.se⟩
theorem qgi {w:Int}(h:wB w=true):Big w:=by
 have:=of_decide_eq_true h
 exact⟨by omega,by omega⟩
theorem new_r:GoodR [] (λ_=>-1):=⟨⟨by decide,λx h=>(by cases h),by decide,by decide⟩,λk _=>.inl rfl,by decide⟩
theorem new_gd:GdL newL:=by
 have h1:GdS []:=⟨λs h=>(by cases h),by decide,by decide,by decide⟩;have h2:GdR [] 65535 ([],λ_=>-1):=⟨new_r,λy=>by
  show y∈([]:List (Int×Int))↔y∈([]:List (Int×Int));exact Iff.rfl⟩
 exact { on:=by decide,os:=λo h=>(by cases h),tab:=by decide,zs:=by decide,se:=by decide,re:=by decide,ow:=by decide,ss:=h1,rd:=h2 }
theorem put_gd {X:Ln}{o:Ot}(h:GdL X) (ho:OtOk o):GdL (putL X o).1:=by
 unfold putL;split
 ·exact h
 ·split
  ·exact h
  ·rename_i h1 h2
   have h3:X.sh=false:=Bool.eq_false_iff.2 λe=>h1 (.inl e);have h4:waitB o=true:=by cases e:waitB o with|true=>rfl|false=>exact absurd (.inr (.inl e)) h1
   have h5:¬ 128<=ilen X.os:=λe=>h1 (.inr (.inr e));refine⟨?_,λx hx=>?_,h.tab,h.zs,h.se,h.re,h.ow,h.ss,h.rd⟩
   ·dsimp only
    rw[h3,if_neg (by decide)];unfold ilen at *;rw[List.length_append,List.length_singleton];omega
   ·rcases List.mem_append.1 hx with h6|h6
    ·exact h.os x h6
    ·simp only[List.mem_cons,List.not_mem_nil,or_false] at h6
     subst h6;exact⟨ho,h4⟩
theorem shut_gd {X:Ln}{last code:Int}(h:GdL X) (hc:0<=code/\code<=4294967295):GdL (shutL X last code).1:=by
 unfold shutL;split
 ·exact h
 ·rename_i h1
  have h3:X.sh=false:=Bool.eq_false_iff.2 λe=>h1 (.inl e);have h4:0<=last/\last<=2147483647:=by
   by_cases e:0<=last/\last<=2147483647
   ·exact e
   ·exact absurd (.inr e) h1
  refine⟨?_,λx hx=>?_,h.tab,h.zs,h.se,h.re,h.ow,h.ss,h.rd⟩
  ·have:=h.on
   rw[h3,if_neg (by decide)] at this;dsimp only;rw[if_pos rfl];unfold ilen at *;rw[List.length_append,List.length_singleton];omega
  ·rcases List.mem_append.1 hx with h6|h6
   ·exact h.os x h6
   ·simp only[List.mem_cons,List.not_mem_nil,or_false] at h6
    subst h6;refine⟨⟨?_,⟨by dsimp only;omega,by dsimp only;omega⟩,?_,hc,λv hv=>(by cases hv),?_,λp hp=>(by cases hp),?_,?_,?_⟩,by unfold waitB;simp [h4]⟩
    all_goals first|(exact show (0:Int)<=5/\(5:Int)<=255 by decide)|(exact show Big 0 from ⟨by decide,by decide⟩)|(exact show (0:Int)<=1000 by decide)|(exact show (0:Int)<=10000000 by decide)
theorem got_gd {X:Ln}{n:Int}(h:GdL X):GdL (gotL X n).1:=by
 unfold gotL;split
 ·rename_i h1
  have:=h.re
  have:=h.ow
  exact⟨h.on,h.os,h.tab,h.zs,h.se,by dsimp only;omega,by dsimp only;omega,h.ss,h.rd⟩
 ·exact h
theorem mov_w {w b:Int}{so:Bool}(h:(movI w b so).2=true):wB (movI w b so).1=true/\(movI w b so).1=w+b:=by
 unfold movI at *;split at h
 ·rename_i h1
  rw[if_pos h1];exact⟨h1.2.2,rfl⟩
 ·cases h
theorem st_se {s:St}{x:Int}(h:stB s=true) (hx:wB x=true):stB { s with se:=x }=true:=by
 unfold stB at *
 have:=of_decide_eq_true h
 dsimp only;exact decide_eq_true ⟨this.1,this.2.1,this.2.2.1,this.2.2.2.1,this.2.2.2.2.1,hx,this.2.2.2.2.2.2⟩
theorem ok_se {s:St}{x:Int}(h:StOk s) (hx:wB x=true):StOk { s with se:=x }:=⟨h.id,h.st,qgi hx,h.re,h.ow,h.o,h.len,h.ur,h.sl⟩
theorem shift_gd {X:Ln}{b:Int}(h:GdL X):GdL (shiftL X b).1:=by
 unfold shiftL;split
 ·rename_i h1
  rw[List.all_eq_true] at h1;have hf:∀ s∈X.ss,(shiftS s b).1={ s with se:=s.se+b }/\wB (s.se+b)=true:=λs hs=>by
   have h2:=h1 s hs;have h3:=(h.ss.ok s hs).2.1;unfold shiftS at *;rw[if_pos h3] at h2 ⊢;have h4:=mov_w h2;exact⟨by dsimp only;rw[h4.2],by rw[<-h4.2];exact h4.1⟩
  have hm:(X.ss.map λs=>(shiftS s b).1)=X.ss.map λs=>{ s with se:=s.se+b }:=List.map_congr_left λs hs=>(hf s hs).1;rw[hm];refine set_gd ⟨h.on,h.os,h.tab,h.zs,h.se,h.re,h.ow,⟨λx hx=>?_,?_,?_,?_⟩,h.rd.r⟩
  ·dsimp only at hx
   obtain⟨s,hs,rfl⟩:=List.mem_map.1 hx;obtain⟨g1,g2,g3,g4⟩:=h.ss.ok s hs;have g5:=(hf s hs).2;exact⟨ok_se g1 g5,st_se g2 g5,g3,g4⟩
  ·have:=h.ss.len
   dsimp only;unfold ilen at *;rw[List.length_map];exact this
  ·dsimp only
   rw[List.map_map];exact h.ss.srt
  ·have:slots (X.ss.map λs=>{ s with se:=s.se+b })=slots X.ss:=by
    unfold slots;rw[List.filter_map,List.map_map];rfl
   dsimp only;rw[this];exact h.ss.nd
 ·exact h
theorem free_ok {us:List Int}:∀ (f:Nat) (k:Int),(freeI us f k∉us/\k<=freeI us f k/\freeI us f k<k+f)∨(∀ j:Nat,j<f->k+j∈us)
 | 0,k=>.inr λj hj=>by omega
 | f+1,k=>by
  unfold freeI;split
  ·rename_i h
   rcases free_ok (us:=us) f (k+1) with ⟨h1,h2,h3⟩|h1
   ·exact .inl ⟨h1,by omega,by omega⟩
   ·refine .inr λj hj=>?_
    cases j with
    | zero=>simpa using h
    | succ j=>have:=h1 j (by omega);rw[show k+(j+1:Nat)=k+1+j by omega];exact this
  ·rename_i h
   exact .inl ⟨h,by omega,by omega⟩
theorem slots_len (ss:List St):(slots ss).length<=ss.length:=by
 unfold slots;rw[List.length_map];exact List.length_filter_le _ _
theorem sub_len {us vs:List Int}(hn:us.Nodup) (h:∀ x∈us,x∈vs):us.length<=vs.length:=by
 induction us generalizing vs with
 | nil=>simp
 | cons a us ih=>
  rw[List.nodup_cons] at hn;have ha:=h a (by simp)
  have:=ih hn.2 (vs:=vs.erase a) λx hx=>(List.mem_erase_of_ne (λe=>hn.1 (by rw[<-e];exact hx))).2 (h x (by simp [hx]))
  rw[List.length_erase_of_mem ha] at this
  have:0<vs.length:=List.length_pos_of_mem ha
  simp only[List.length_cons];omega
theorem free_8 {ss:List St}(hl:ilen ss<8):freeI (slots ss) 8 0∉slots ss/\0<=freeI (slots ss) 8 0/\freeI (slots ss) 8 0<=7:=by
 rcases free_ok (us:=slots ss) 8 0 with h|h
 ·exact⟨h.1,h.2.1,by omega⟩
 ·have:=sub_len (us:=(List.range 8).map λ(j:Nat)=>(j:Int)) (vs:=slots ss) (by decide) λx hx=>by
   obtain⟨j,hj,rfl⟩:=List.mem_map.1 hx
   have:=h j (List.mem_range.1 hj)
   simpa using this
  have h2:=slots_len ss;unfold ilen at hl;simp only[List.length_map,List.length_range] at this;omega
theorem st_sl {s:St}{x:Int}(h:stB s=true) (hx:-1<=x/\x<=7):stB { s with sl:=x }=true:=by
 unfold stB at *
 have:=of_decide_eq_true h
 dsimp only;exact decide_eq_true ⟨this.1,this.2.1,this.2.2.1,this.2.2.2.1,this.2.2.2.2.1,this.2.2.2.2.2.1,this.2.2.2.2.2.2.1,this.2.2.2.2.2.2.2.1,this.2.2.2.2.2.2.2.2.1,this.2.2.2.2.2.2.2.2.2.1,this.2.2.2.2.2.2.2.2.2.2.1,this.2.2.2.2.2.2.2.2.2.2.2.1,hx.1,hx.2,this.2.2.2.2.2.2.2.2.2.2.2.2.2.2⟩
theorem ok_sl {s:St}{x:Int}(h:StOk s) (hx:-1<=x/\x<=7):StOk { s with sl:=x }:=⟨h.id,h.st,h.se,h.re,h.ow,h.o,h.len,h.ur,⟨by dsimp only;omega,by dsimp only;omega⟩⟩
theorem ans_live {x:Int}(h:ansB x=true):livB x=true:=by
 have:=of_decide_eq_true h
 exact decide_eq_true (by omega)
theorem ids_last {ss:List St}{a:Int}(hs:(ss.map λs=>s.id).Pairwise λa b=>a<b) (h:∀ x∈ss.getLast?,x.id<a):∀ x∈ss,x.id<a:=by
 intro x hx;cases hl:ss.getLast? with
 | none=>rw[List.getLast?_eq_none_iff] at hl;subst hl;cases hx
 | some z=>
  have h1:=h z (by rw[hl];rfl);obtain⟨A,rfl⟩:=List.getLast?_eq_some_iff.1 hl;rw[List.map_append,List.pairwise_append] at hs;rcases List.mem_append.1 hx with h2|h2
  ·have:=hs.2.2 x.id (List.mem_map.2 ⟨x,h2,rfl⟩) z.id (by simp)
   omega
  ·simp only[List.mem_cons,List.not_mem_nil,or_false] at h2
   subst h2;exact h1
theorem open_gd {X:Ln}{s:St}(h:GdL X) (ok:StOk s):GdL (openL X s).1:=by
 unfold openL;split
 ·exact h
 ·rename_i h1
  have h2:ilen X.ss<8:=by
   by_cases e:8<=ilen X.ss
   ·exact absurd (.inl e) h1
   ·omega
  have h3:stB s=true:=by cases e:stB s with|true=>rfl|false=>exact absurd (.inr (.inl e)) h1
  have h4:ansB s.st=true:=by cases e:ansB s.st with|true=>rfl|false=>exact absurd (.inr (.inr (.inl e))) h1
  have h5:∀ x∈X.ss.getLast?,x.id<s.id:=λx hx=>by
   by_cases e:s.id<=x.id
   ·exact absurd (.inr (.inr (.inr ⟨x,hx,e⟩))) h1
   ·omega
  obtain⟨f1,f2,f3⟩:=free_8 h2;refine set_gd ⟨h.on,h.os,h.tab,h.zs,h.se,h.re,h.ow,gds_app h.ss h2 (ids_last h.ss.srt h5) ⟨ok_sl ok (by omega),st_sl h3 (by omega),ans_live h4,?_⟩ f1,h.rd.r⟩;unfold slotB;dsimp only;rw[if_pos h4];exact decide_eq_true f2
theorem laid_gd {ss:List St}{i:Nat}{s0 s:St}(h:GdS ss) (hi:ss[i]?=some s0) (hid:s.id=s0.id) (ok:StOk s) (hs:stB s=true) (ha:ansB s.st=true->ansB s0.st=true):GdS (laidI ss i s0 s):=by
 unfold laidI;split
 ·rename_i hl
  have hb:=(qpy ok hs).1;have h0:=h.ok s0 (List.mem_of_getElem? hi);have hb0:=(qpy h0.1 h0.2.1).1;have hx:-1<=(if ansB s.st=true then s0.sl else -1)/\(if ansB s.st=true then s0.sl else -1)<=7:=by
   split
   ·exact hb0
   ·exact⟨by decide,by decide⟩
  refine gds_set h hi hid ⟨ok_sl ok hx,st_sl hs hx,hl,?_⟩ λe=>⟨ha e,?_⟩
  ·unfold slotB laidS
   dsimp only;split
   ·rename_i e
    have:=qen h (List.mem_of_getElem? hi) (ha e)
    exact decide_eq_true this.1
   ·rfl
  ·unfold laidS at e ⊢
   dsimp only at e ⊢;rw[if_pos e]
 ·exact gds_sub h (List.eraseIdx_sublist _ _)
theorem pl_at {ss:List St}{id:Int}{i:Nat}(h:plI ss id=some i):∃ s,ss[i]?=some s/\s.id=id:=by
 unfold plI at h;rw[List.findIdx?_eq_some_iff_getElem] at h;obtain⟨h1,h2,_⟩:=h;exact⟨ss[i],List.getElem?_eq_getElem h1,by simpa using h2⟩
theorem sl_at {ss:List St}{sl:Int}{i:Nat}(h:slI ss sl=some i):∃ s,ss[i]?=some s/\s.sl=sl:=by
 unfold slI at h;rw[List.findIdx?_eq_some_iff_getElem] at h;obtain⟨h1,h2,_⟩:=h;exact⟨ss[i],List.getElem?_eq_getElem h1,by simpa using h2⟩
theorem change_gd {X:Ln}{s:St}(h:GdL X) (ok:StOk s):GdL (changeL X s).1:=by
 unfold changeL;split
 ·exact h
 ·rename_i i hi
  obtain⟨s0,h1,h2⟩:=pl_at hi;rw[h1];dsimp only;split
  ·exact h
  ·rename_i hn
   have h3:stB s=true:=by cases e:stB s with|true=>rfl|false=>exact absurd (.inl e) hn
   have h4:ansB s.st=true->ansB s0.st=true:=λe=>by cases e2:ansB s0.st with|true=>rfl|false=>exact absurd (.inr ⟨e,e2⟩) hn
   refine set_gd ⟨?_,λo ho=>?_,h.tab,h.zs,h.se,h.re,h.ow,laid_gd h.ss h1 h2.symm ok h3 h4,h.rd.r⟩
   ·dsimp only
    have:=h.on
    split
    ·have:=List.length_filter_le (stayB s.id) X.os
     unfold ilen at *;omega
    ·exact this
   ·dsimp only at ho
    split at ho
    ·exact h.os o (List.mem_filter.1 ho).1
    ·exact h.os o ho
end Wr
end Cz
namespace Cz
open Go Go.RowKit Go.Proofs
namespace Wr
def SkOk (ss:List St) (k:Nat):Prop:=∀ s,ss[k]?=some s->stB s=true/\livB s.st=true/\(0<k->∀ p,ss[k-1]?=some p->p.id<s.id)/\(if ansB s.st=true then (0<=s.sl/\s.sl<=7)/\slI ss s.sl=some k else s.sl=-1)
theorem sl_first {ss:List St}{sl:Int}{k:Nat}{s:St}(h:ss[k]?=some s) (e:s.sl=sl) (hn:∀ (j:Nat) (t:St),j<k->ss[j]?=some t->t.sl≠sl):slI ss sl=some k:=by
 unfold slI;rw[List.findIdx?_eq_some_iff_getElem];obtain⟨h1,rfl⟩:=List.getElem?_eq_some_iff.1 h;exact⟨h1,by simpa using e,λj hj=>by simpa using hn j _ hj (List.getElem?_eq_getElem _)⟩
theorem qzaew {ss:List St}:(slots ss).Nodup↔∀ (i j:Nat) (s t:St),i<j->ss[i]?=some s->ss[j]?=some t->ansB s.st=true->ansB t.st=true->s.sl≠t.sl:=by
 unfold slots List.Nodup;rw[List.pairwise_map,List.pairwise_filter,List.pairwise_iff_getElem];constructor
 ·intro h i j s t hij hs ht ha hb
  obtain⟨h1,rfl⟩:=List.getElem?_eq_some_iff.1 hs;obtain⟨h2,rfl⟩:=List.getElem?_eq_some_iff.1 ht;exact h i j h1 h2 hij ha hb
 ·intro h i j hi hj hij ha hb
  exact h i j _ _ hij (List.getElem?_eq_getElem hi) (List.getElem?_eq_getElem hj) ha hb
theorem ids_all {ss:List St}(h:∀ k,k<ss.length->SkOk ss k):∀ (k:Nat) (s:St),ss[k]?=some s->∀ (j:Nat) (t:St),j<k->ss[j]?=some t->t.id<s.id
 | 0,_,_,j,_,hj,_=>by omega
 | k+1,s,hs,j,t,hj,ht=>by
  have hlt:=(List.getElem?_eq_some_iff.1 hs).1;have hp:ss[k]?=some ss[k]:=List.getElem?_eq_getElem (by omega);have h1:=(h (k+1) hlt s hs).2.2.1 (by omega) ss[k] hp;by_cases e:j=k
  ·subst e
   rw[hp] at ht;cases ht;exact h1
  ·have:=ids_all h k ss[k] hp j t (by omega) ht
   omega
theorem gds_iff {ss:List St}(hok:∀ s∈ss,StOk s):GdS ss↔ilen ss<=8/\∀ k,k<ss.length->SkOk ss k:=by
 constructor
 ·intro h
  refine⟨h.len,λk hk s hs=>?_⟩;have hm:=List.mem_of_getElem? hs;obtain⟨g1,g2,g3,g4⟩:=h.ok s hm;refine⟨g2,g3,λh0 p hp=>?_,?_⟩
  ·have hsr:=h.srt
   rw[List.pairwise_map,List.pairwise_iff_getElem] at hsr;obtain⟨q1,rfl⟩:=List.getElem?_eq_some_iff.1 hs;obtain⟨q2,rfl⟩:=List.getElem?_eq_some_iff.1 hp;exact hsr (k-1) k q2 q1 (by omega)
  ·split
   ·rename_i ha
    have hb:=qen h hm ha;refine⟨hb,sl_first hs rfl λj t hj ht e=>?_⟩;have htm:=List.mem_of_getElem? ht;have hta:ansB t.st=true:=by
     cases e2:ansB t.st with
     | true=>rfl
     | false=>
      have:=(h.ok t htm).2.2.2
      unfold slotB at this;rw[if_neg (by rw[e2];decide)] at this
      have:=of_decide_eq_true this
      omega
    exact qzaew.1 h.nd j k t s hj ht hs hta ha e
   ·rename_i ha
    unfold slotB at g4;rw[if_neg ha] at g4;exact of_decide_eq_true g4
 ·rintro ⟨hl,h⟩
  have hat:∀ s∈ss,∃ k,k<ss.length/\ss[k]?=some s:=λs hs=>by
   obtain⟨k,hk,rfl⟩:=List.mem_iff_getElem.1 hs;exact⟨k,hk,List.getElem?_eq_getElem hk⟩
  refine⟨λs hs=>?_,hl,?_,?_⟩
  ·obtain⟨k,hk,h1⟩:=hat s hs
   obtain⟨g1,g2,_,g4⟩:=h k hk s h1;refine⟨hok s hs,g1,g2,?_⟩;unfold slotB;split
   ·rename_i ha
    rw[if_pos ha] at g4;exact decide_eq_true g4.1.1
   ·rename_i ha
    rw[if_neg ha] at g4;exact decide_eq_true g4
  ·rw[List.pairwise_map,List.pairwise_iff_getElem]
   intro i j hi hj hij;exact ids_all h j _ (List.getElem?_eq_getElem hj) i _ hij (List.getElem?_eq_getElem hi)
  ·rw[qzaew]
   intro i j s t hij hs ht ha hb e;have h1:=(h i (List.getElem?_eq_some_iff.1 hs).1 s hs).2.2.2;have h2:=(h j (List.getElem?_eq_some_iff.1 ht).1 t ht).2.2.2;rw[if_pos ha] at h1;rw[if_pos hb] at h2;rw[e,h2.2] at h1
   have:=Option.some.inj h1.2
   omega
def slR (ss:List St) (sl:Int):Int:=match slI ss sl with|some i=>Int.ofNat i|none=>-1
def plR (ss:List St) (id:Int):Int:=match plI ss id with|some i=>Int.ofNat i|none=>-1
theorem sl_none {ss:List St}{sl:Int}(h:∀ (j:Nat) (t:St),ss[j]?=some t->t.sl≠sl):slI ss sl=none:=by
 unfold slI;rw[List.findIdx?_eq_none_iff];intro t ht;obtain⟨k,hk,rfl⟩:=List.mem_iff_getElem.1 ht;simpa using h k _ (List.getElem?_eq_getElem hk)
theorem qzang {ss:List St}{id:Int}{k:Nat}{s:St}(h:ss[k]?=some s) (e:s.id=id) (hn:∀ (j:Nat) (t:St),j<k->ss[j]?=some t->t.id≠id):plI ss id=some k:=by
 unfold plI;rw[List.findIdx?_eq_some_iff_getElem];obtain⟨h1,rfl⟩:=List.getElem?_eq_some_iff.1 h;exact⟨h1,by simpa using e,λj hj=>by simpa using hn j _ hj (List.getElem?_eq_getElem _)⟩
theorem pl_none {ss:List St}{id:Int}(h:∀ (j:Nat) (t:St),ss[j]?=some t->t.id≠id):plI ss id=none:=by
 unfold plI;rw[List.findIdx?_eq_none_iff];intro t ht;obtain⟨k,hk,rfl⟩:=List.mem_iff_getElem.1 ht;simpa using h k _ (List.getElem?_eq_getElem hk)
def RkOk (ss:List St) (a:Int) (A:List (Int×Int)) (c:Nat):Prop:=
 ofB A (Int.ofNat c)=(match slI ss (Int.ofNat c) with|some i=>(match ss[i]? with|some s=>sendB s a|none=>false)|none=>false) /\
 (ofB A (Int.ofNat c)=true->∀ i s,slI ss (Int.ofNat c)=some i->ss[i]?=some s->ofK A (Int.ofNat c)=s.ur)
theorem rk_iff {ss:List St}{a:Int}{L:List (Int×Int)}{H:Nat->Int}(hs:GdS ss) (hR:GoodR L H):(∀ c,c<8->RkOk ss a (allR L H) c)↔∀ y,y∈allR L H↔y∈want ss a:=by
 have hsl:∀ s∈ss,ansB s.st=true->∃ c i,c<8/\s.sl=Int.ofNat c/\slI ss (Int.ofNat c)=some i/\ss[i]?=some s:=λs hm ha=>by
  have hb:=qen hs hm ha;obtain⟨k,hk,rfl⟩:=List.mem_iff_getElem.1 hm;have h1:=((gds_iff λs h=>(hs.ok s h).1).1 hs).2 k hk _ (List.getElem?_eq_getElem hk);have h2:=h1.2.2.2;rw[if_pos ha] at h2;refine⟨ss[k].sl.toNat,k,by omega,(Int.toNat_of_nonneg hb.1).symm,?_,List.getElem?_eq_getElem hk⟩;rw[show Int.ofNat ss[k].sl.toNat=ss[k].sl from Int.toNat_of_nonneg hb.1];exact h2.2
 constructor
 ·intro h y
  rw[qei];constructor
  ·intro hy
   have hb:=qzatl hR hy;have h1:=qzagu hR.nd hy;have e:Int.ofNat y.1.toNat=y.1:=Int.toNat_of_nonneg hb.1.1;obtain⟨g1,g2⟩:=h y.1.toNat (by omega);rw[e] at g1 g2;rw[h1.1] at g1;cases hi:slI ss y.1 with
   | none=>rw[hi] at g1;cases g1
   | some i=>
    obtain⟨s,k1,k2⟩:=sl_at hi;rw[hi] at g1;dsimp only at g1;rw[k1] at g1
    have:=g2 h1.1 i s hi k1
    refine⟨s,List.mem_of_getElem? k1,g1.symm,?_⟩;rw[h1.2] at this;rw[<-this,k2]
  ·rintro ⟨s,hm,hsd,rfl⟩
   obtain⟨c,i,c0,c1,c2,c3⟩:=hsl s hm (qdh hsd);obtain⟨g1,g2⟩:=h c c0;rw[c2] at g1;dsimp only at g1;rw[c3] at g1;dsimp only at g1;rw[hsd] at g1
   have:=g2 g1 i s c2 c3
   have h3:=qzaac this g1;rw[c1];exact h3
 ·intro h c hc
  constructor
  ·cases hi:slI ss (Int.ofNat c) with
   | none=>
    dsimp only;refine Bool.eq_false_iff.2 λe=>?_;obtain⟨y,hy,e1⟩:=List.mem_map.1 (qwy.1 e);obtain⟨s,hm,hsd,e2⟩:=qei.1 ((h y).1 hy);obtain⟨c',i,c0,c1,c2,c3⟩:=hsl s hm (qdh hsd)
    have:Int.ofNat c'=Int.ofNat c:=by rw[<-c1,<-e1,e2]
    rw[this,hi] at c2;cases c2
   | some i=>
    obtain⟨s,k1,k2⟩:=sl_at hi;dsimp only;rw[k1];dsimp only;cases e:sendB s a with
    | true=>exact qwy.2 (List.mem_map.2 ⟨_,(h (s.sl,s.ur)).2 (qei.2 ⟨s,List.mem_of_getElem? k1,e,rfl⟩),k2⟩)
    | false=>
     refine Bool.eq_false_iff.2 λe'=>?_;obtain⟨y,hy,e1⟩:=List.mem_map.1 (qwy.1 e');obtain⟨t,hm,hsd,e2⟩:=qei.1 ((h y).1 hy);obtain⟨c',i',c0,c1,c2,c3⟩:=hsl t hm (qdh hsd)
     have:Int.ofNat c'=Int.ofNat c:=by rw[<-c1,<-e1,e2]
     rw[this,hi] at c2;cases c2;rw[k1] at c3;cases c3;rw[e] at hsd;cases hsd
  ·intro hb i s hi hs'
   obtain⟨y,hy,e1⟩:=List.mem_map.1 (qwy.1 hb);obtain⟨t,hm,hsd,e2⟩:=qei.1 ((h y).1 hy);obtain⟨c',i',c0,c1,c2,c3⟩:=hsl t hm (qdh hsd)
   have:Int.ofNat c'=Int.ofNat c:=by rw[<-c1,<-e1,e2]
   rw[this,hi] at c2;cases c2;rw[hs'] at c3;cases c3
   have:=(qzagu hR.nd hy).2
   rw[e1] at this;rw[this,e2]
end Wr
end Cz
namespace Cz
open Go Go.RowKit Go.Proofs
namespace Wr
theorem qqc {L:List (Int×Int)}{H:Nat->Int}{s u:Int}{inc rd:Bool}(hR:GoodR L H) (hs:0<=s/\s<=7) (hu:0<=u/\u<=7) (hn:ofB (allR L H) s=false):GoodR (overR L H s u inc rd).1 (overR L H s u inc rd).2:=by
 unfold overR;split
 ·split
  ·exact (qya hR hs hu hn).2
  ·rename_i h1
   exact good_hold hR hs hu (by have:¬ 0<=H u.toNat:=λe=>h1 (.inr e);omega) hn
 ·exact hR
theorem back_is {s:St}(h:stB s=true):(backS s).1={ s with ow:=0,re:=if s.st=1∨s.st=3 then min (s.re+s.ow) 2147483647 else s.re }/\0<=(backS s).2/\(backS s).2<=2147483647:=by
 have hb:=of_decide_eq_true h;unfold backS;rw[if_pos h];by_cases hc:s.st=1∨s.st=3
 ·rw[if_pos hc,if_pos hc]
  exact⟨rfl,by dsimp only;omega,by dsimp only;omega⟩
 ·rw[if_neg hc,if_neg hc]
  exact⟨rfl,Int.le_refl _,show (0:Int)<=2147483647 by decide⟩
theorem st_re {s:St}{x y:Int}(h:stB s=true) (hx:0<=x/\x<=2147483647) (hy:0<=y/\y<=2147483647):stB { s with re:=x,ow:=y }=true:=by
 unfold stB at *
 have:=of_decide_eq_true h
 dsimp only;exact decide_eq_true ⟨this.1,this.2.1,this.2.2.1,this.2.2.2.1,this.2.2.2.2.1,this.2.2.2.2.2.1,hx.1,hx.2,hy.1,hy.2,this.2.2.2.2.2.2.2.2.2.2⟩
theorem ok_re {s:St}{x y:Int}(h:StOk s) (hx:0<=x/\x<=2147483647) (hy:0<=y/\y<=2147483647):StOk { s with re:=x,ow:=y }:=⟨h.id,h.st,h.se,⟨by dsimp only;omega,by dsimp only;omega⟩,⟨by dsimp only;omega,by dsimp only;omega⟩,h.o,h.len,h.ur,h.sl⟩
theorem want_set {ss:List St}{i:Nat}{s s':St}{a:Int}(hi:ss[i]?=some s) (h1:sendB s' a=sendB s a) (h2:s'.sl=s.sl) (h3:s'.ur=s.ur):want (ss.set i s') a=want ss a:=by
 induction ss generalizing i with
 | nil=>simp at hi
 | cons x ss ih=>
  unfold want at ih ⊢;cases i with
  | zero=>
   simp only[List.getElem?_cons_zero,Option.some.injEq] at hi;subst hi;rw[List.set_cons_zero,List.filter_cons,List.filter_cons,h1];split
   ·rw[List.map_cons,List.map_cons,h2,h3]
   ·rfl
  | succ i=>
   rw[List.set_cons_succ,List.filter_cons,List.filter_cons]
   have:=ih (i:=i) (by simpa using hi)
   split
   ·rw[List.map_cons,List.map_cons,this]
   ·exact this
theorem back_set {ss:List St}{i:Nat}{s:St}{a:Int}(h:GdS ss) (hi:ss[i]?=some s):GdS (ss.set i (backS s).1)/\want (ss.set i (backS s).1) a=want ss a:=by
 obtain⟨g1,g2,g3,g4⟩:=h.ok s (List.mem_of_getElem? hi);have hb:=of_decide_eq_true g2;obtain⟨h1,_⟩:=back_is g2;rw[h1];have hx:0<=(if s.st=1∨s.st=3 then min (s.re+s.ow) 2147483647 else s.re)/\(if s.st=1∨s.st=3 then min (s.re+s.ow) 2147483647 else s.re)<=2147483647:=by
  split<;>omega
 exact⟨gds_set h hi rfl ⟨ok_re g1 hx (by decide),st_re g2 hx (by decide),g3,g4⟩ λe=>⟨e,rfl⟩,want_set hi rfl rfl rfl⟩
theorem back_gd {X:Ln}{id:Int}(h:GdL X):GdL (backL X id).1/\(backL X id).1.os=X.os/\(backL X id).1.sh=X.sh/\0<=(backL X id).2/\(backL X id).2<=2147483647:=by
 unfold backL;have h1:=h.re;have h2:=h.ow;split
 ·exact⟨⟨h.on,h.os,h.tab,h.zs,h.se,by dsimp only;omega,show (0:Int)<=0/\(0:Int)<=2147483647 by decide,h.ss,h.rd⟩,rfl,rfl,h2.1,h2.2⟩
 ·split
  ·exact⟨h,rfl,rfl,show (0:Int)<=0 by decide,show (0:Int)<=2147483647 by decide⟩
  ·rename_i i hi
   obtain⟨s,h3,_⟩:=pl_at hi;rw[h3];dsimp only;obtain⟨g1,g2⟩:=back_set (a:=X.se) h.ss h3;have g3:=(back_is (h.ss.ok s (List.mem_of_getElem? h3)).2.1).2;exact⟨⟨h.on,h.os,h.tab,h.zs,h.se,h.re,h.ow,g1,⟨h.rd.r,λy=>by dsimp only;rw[g2];exact h.rd.mem y⟩⟩,rfl,rfl,g3.1,g3.2⟩
theorem fold_min {n:Int}:∀ {zs:List Int}{m:Int},(0<=n/\n<=4096)->(∀ z∈zs,0<=z/\z<=4096)->(0<=m/\m<=n)->0<=zs.foldl min m/\zs.foldl min m<=m
 | [],m,_,_,h=>⟨h.1,Int.le_refl _⟩
 | z::zs,m,hn,hz,h=>by
  have h1:=hz z (by simp)
  have:=fold_min (n:=n) (zs:=zs) (m:=min m z) hn (λx hx=>hz x (by simp [hx])) (by omega)
  rw[List.foldl_cons];omega
theorem sized_zs {zs:List Int}{n:Int}(h:zsB zs=true) (hn:0<=n/\n<=4096):zsB (if zs.foldl min n=n then [n] else [zs.foldl min n,n])=true:=by
 unfold zsB at h;rw[Bool.and_eq_true] at h;have h1:=of_decide_eq_true h.1;have h2:=fold_min (n:=n) (m:=n) hn h1.2 ⟨hn.1,Int.le_refl _⟩;split
 ·unfold zsB
  rw[Bool.and_eq_true];refine⟨decide_eq_true ⟨by show (1:Int)<=2;decide,λx hx=>?_⟩,rfl⟩;simp only[List.mem_cons,List.not_mem_nil,or_false] at hx;omega
 ·rename_i e
  unfold zsB;rw[Bool.and_eq_true];refine⟨decide_eq_true ⟨by show (2:Int)<=2;decide,λx hx=>?_⟩,decide_eq_true (by omega)⟩;simp only[List.mem_cons,List.not_mem_nil,or_false] at hx;omega
theorem qzatm:∀ {zs:List Int}{t:Tb.Tab},Tb.rightL t.1 t.2=true->(∀ z∈zs,0<=z/\z<=4096)->Tb.rightL (ahdT t zs).1 (ahdT t zs).2=true
 | [],t,h,_=>h
 | z::zs,t,_,hz=>by
  have h1:=hz z (by simp);exact qzatm (zs:=zs) (t:=(z,Tb.evL z t.2)) (Tb.right_ev h1.1 h1.2) λx hx=>hz x (by simp [hx])
theorem qzatn {zs:List Int}(h:zsB zs=true):ilen zs<=2/\∀ z∈zs,0<=z/\z<=4096:=by
 unfold zsB at h;rw[Bool.and_eq_true] at h;exact of_decide_eq_true h.1
theorem qzavr {X:Ln}{o:Ot}(h:GdL X) (ho:waitB o=true):GdL (goesL X o).1/\(goesL X o).1.os=X.os/\(goesL X o).1.sh=X.sh:=by
 unfold goesL;split
 ·exact⟨h,rfl,rfl⟩
 split
 ·rename_i h0 h1
  unfold waitB at ho;rw[if_neg h0,if_pos h1] at ho;have hz:=of_decide_eq_true ho;unfold sizedL;split
  ·exact⟨h,rfl,rfl⟩
  ·exact⟨⟨h.on,h.os,h.tab,sized_zs h.zs hz,h.se,h.re,h.ow,h.ss,h.rd⟩,rfl,rfl⟩
 split
 ·exact⟨h,rfl,rfl⟩
 split
 ·obtain⟨h1,h2,h3,_⟩:=back_gd (id:=o.st) h
  exact⟨h1,h2,h3⟩
 split
 ·exact⟨h,rfl,rfl⟩
 split
 ·exact⟨h,rfl,rfl⟩
 ·have hz:=qzatn h.zs
  exact⟨⟨h.on,h.os,Pa.qzaik (fs:=o.li) (qzatm (t:=(X.tm,X.tr)) h.tab hz.2),show zsB []=true from rfl,h.se,h.re,h.ow,h.ss,h.rd⟩,rfl,rfl⟩
theorem gdl_os {X:Ln}{r:List Ot}(h:GdL X) (hl:r.length<=X.os.length) (hr:∀ o∈r,o∈X.os):GdL { X with os:=r }:=by
 refine⟨?_,λo ho=>h.os o (hr o ho),h.tab,h.zs,h.se,h.re,h.ow,h.ss,h.rd⟩
 have:=h.on
 dsimp only;unfold ilen at *;split at this<;>split<;>omega
theorem pop_gd:∀ {os:List Ot}{X:Ln},GdL X->(∀ o∈os,o∈X.os)->os.length<=X.os.length->GdL (popL os X).1/\(popL os X).1.sh=X.sh/\(∀ o∈(popL os X).1.os,o∈os)/\(popL os X).1.os.length<=os.length
 | [],X,h,_,_=>⟨gdl_os h (by simp) λo ho=>(by cases ho),rfl,λo ho=>(by cases ho),Nat.le_refl _⟩
 | o::r,X,h,hm,hl=>by
  have h1:=(h.os o (hm o (by simp))).2;obtain⟨g1,g2,g3⟩:=qzavr h h1;simp only[List.length_cons] at hl;unfold popL;split
  ·obtain⟨k1,k2,k3,k4⟩:=pop_gd (os:=r) g1 (λx hx=>by rw[g2];exact hm x (by simp [hx])) (by rw[g2];omega)
   exact⟨k1,k2.trans g3,λx hx=>by simp [k3 x hx],by simp only[List.length_cons];omega⟩
  ·exact⟨gdl_os g1 (by rw[g2];omega) λx hx=>by rw[g2];exact hm x (by simp [hx]),g3,λx hx=>by dsimp only at hx;simp [hx],by dsimp only;simp⟩
theorem qzaic {a b c d e n:Int}(h:cutI a b c d e=n) (he:0<=e):0<=n/\n<=e/\n<=max c 0/\n<=max d 0/\(0<n->n<=a/\n<=b/\n<=c/\n<=d):=by
 unfold cutI canI at h;split at h<;>split at h<;>omega
theorem qzatg {a b c d e n:Int}(h:cutI a b c d e=n) (he:0<=e) (ha:wB a=true) (hb:wB b=true):wB (a-n)=true/\wB (b-n)=true:=by
 have h1:=qzaic h he;have h2:=of_decide_eq_true ha;have h3:=of_decide_eq_true hb;unfold wB;exact⟨decide_eq_true (by omega),decide_eq_true (by omega)⟩
theorem qzafw {s:St}{n:Int}(ok:StOk s) (h:stB s=true) (h0:0<=n) (h1:n<=ilen s.o) (hw:wB (s.se-n)=true):StOk (sentS s n)/\stB (sentS s n)=true/\ilen (sentS s n).o=ilen s.o-n:=by
 have hl:ilen (s.o.drop n.toNat)=ilen s.o-n:=by unfold ilen at *;rw[List.length_drop];omega
 have hb:=of_decide_eq_true h;unfold sentS;refine⟨⟨ok.id,ok.st,qgi hw,ok.re,ok.ow,λv hv=>ok.o v (List.mem_of_mem_drop hv),by dsimp only;rw[hl];have:=ok.len;omega,ok.ur,ok.sl⟩,?_,hl⟩;unfold stB at h ⊢
 have:=of_decide_eq_true h
 dsimp only;rw[hl];refine decide_eq_true ⟨this.1,this.2.1,this.2.2.1,this.2.2.2.1,this.2.2.2.2.1,hw,this.2.2.2.2.2.2.1,this.2.2.2.2.2.2.2.1,this.2.2.2.2.2.2.2.2.1,this.2.2.2.2.2.2.2.2.2.1,by omega,this.2.2.2.2.2.2.2.2.2.2.2.1,this.2.2.2.2.2.2.2.2.2.2.2.2.1,this.2.2.2.2.2.2.2.2.2.2.2.2.2.1,?_⟩;rcases this.2.2.2.2.2.2.2.2.2.2.2.2.2.2 with e|e
 ·exact .inl e
 ·exact .inr ⟨by omega,e.2⟩
theorem qzari {s:St}(ok:StOk s) (h:stB s=true) (ha:ansB s.st=true):StOk (overD s)/\stB (overD s)=true/\(overD s).id=s.id/\(ansB (overD s).st=true->overD s=s)/\(overD s).ic=s.ic/\(overD s).ur=s.ur:=by
 unfold overD;split
 ·rename_i hc
  have he:endS s.st=3∨endS s.st=4:=by unfold endS;split<;>simp
  have hn:ansB (endS s.st)=false:=by rcases he with e|e<;>rw[e]<;>rfl
  unfold overS;rw[if_pos ⟨h,by omega,by omega⟩,if_neg (by rw[hn];decide)];refine⟨⟨ok.id,by dsimp only;omega,ok.se,ok.re,ok.ow,λv hv=>(by cases hv),by show (0:Int)<=100000000;decide,ok.ur,⟨by show (-9223372036854775808:Int)<=-1;decide,by show (-1:Int)<=9223372036854775807;decide⟩⟩,?_,rfl,λe=>?_,rfl,rfl⟩
  ·unfold stB at h ⊢
   have:=of_decide_eq_true h
   dsimp only;refine decide_eq_true ⟨this.1,this.2.1,this.2.2.1,by omega,by omega,this.2.2.2.2.2.1,this.2.2.2.2.2.2.1,this.2.2.2.2.2.2.2.1,this.2.2.2.2.2.2.2.2.1,this.2.2.2.2.2.2.2.2.2.1,by show (0:Int)<=65535;decide,this.2.2.2.2.2.2.2.2.2.2.2.1,by decide,by decide,.inr ⟨rfl,rfl⟩⟩
  ·dsimp only at e
   rw[hn] at e;cases e
 ·exact⟨ok,h,rfl,λ_=>rfl,rfl,rfl⟩
theorem qzarj {L:List (Int×Int)}{H:Nat->Int}{s:Int}(hR:GoodR L H):GoodR (outR L H s).1.1 (outR L H s).1.2/\allR (outR L H s).1.1 (outR L H s).1.2=outL (allR L H) s/\ofB (allR (outR L H s).1.1 (outR L H s).1.2) s=false:=by
 obtain⟨_,h2,h3⟩:=out_r (L':=(outR L H s).1.1) (H':=(outR L H s).1.2) (t:=(outR L H s).2) hR rfl;exact⟨h2,h3,by rw[h3];exact of_false out_no⟩
theorem qlk {X:Ln}(h:GdL X) {sl u:Int}{r:List (Int×Int)}(ha:allR X.L X.H=(sl,u)::r):∃ i s,slI X.ss sl=some i/\X.ss[i]?=some s/\s.sl=sl/\s.ur=u/\sendB s X.se=true/\ansB s.st=true:=by
 have hm:=(h.rd.mem (sl,u)).1 (by rw[ha];simp);obtain⟨s,hs,h1,h2⟩:=qei.1 hm;have h3:s.sl=sl/\s.ur=u:=by cases h2;exact⟨rfl,rfl⟩
 have hex:∃ i,slI X.ss sl=some i:=by
  unfold slI;rw[<-Option.isSome_iff_exists,List.findIdx?_isSome,List.any_eq_true];exact⟨s,hs,by simpa using h3.1⟩
 obtain⟨i,hi⟩:=hex;obtain⟨s',h4,h5⟩:=sl_at hi;have hs':=List.mem_of_getElem? h4;have e:s'=s:=by
  have hb:=qen h.ss hs (qdh h1);have h6:ansB s'.st=true:=by
   cases e:ansB s'.st with
   | true=>rfl
   | false=>
    have:=(h.ss.ok s' hs').2.2.2
    unfold slotB at this;rw[if_neg (by rw[e];decide)] at this
    have:=of_decide_eq_true this
    omega
  have hnd:=h.ss.nd;have key:∀ {l:List St},((l.map λs=>s.sl)).Nodup->s∈l->s'∈l->s'=s:=by
   intro l
   induction l with
   | nil=>intro _ h;cases h
   | cons x l ih=>
    intro hn ha hb;rw[List.map_cons,List.nodup_cons] at hn;rcases List.mem_cons.1 ha with e1|e1<;>rcases List.mem_cons.1 hb with e2|e2
    ·rw[e1,e2]
    ·exact absurd (List.mem_map.2 ⟨s',e2,by rw[h5,<-h3.1,e1]⟩) hn.1
    ·exact absurd (List.mem_map.2 ⟨s,e1,by rw[h3.1,<-h5,e2]⟩) hn.1
    ·exact ih hn.2 e1 e2
  exact key hnd (List.mem_filter.2 ⟨hs,qdh h1⟩) (List.mem_filter.2 ⟨hs',h6⟩)
 subst e;exact⟨i,s',hi,h4,h3.1,h3.2,h1,qdh h1⟩
theorem qzabc {X Y:Ln}{f:Fm}{most cut:Int}(h:GdL X) (hd:dataL X most cut=some (Y,f)):GdL Y/\Y.os=X.os/\Y.sh=X.sh/\f.k=0:=by
 unfold dataL at hd;cases ha:allR X.L X.H with
 | nil=>rw[ha] at hd;cases hd
 | cons y r=>
  obtain⟨sl,u⟩:=y;rw[ha] at hd;obtain⟨i,s,h1,h2,h3,h4,h5,h6⟩:=qlk h ha;dsimp only at hd;rw[h1] at hd;dsimp only at hd;rw[h2] at hd;dsimp only at hd;obtain⟨n,hn⟩:∃ n,cutI s.se X.se (min most 16384) cut (ilen s.o)=n:=⟨_,rfl⟩;rw[hn] at hd;split at hd
  ·cases hd
  ·have hl:=qaj s.o
   obtain⟨g1,g2,g3,g4⟩:=h.ss.ok s (List.mem_of_getElem? h2);have hb:=qzaic hn hl;have hw:wB s.se=true:=(of_decide_eq_true g2).2.2.2.2.2.1;obtain⟨w1,w2⟩:=qzatg hn hl hw h.se;obtain⟨k1,k2,k3⟩:=qzafw g1 g2 hb.1 hb.2.1 w1;obtain⟨j1,j2,j3,j4,j5,j6⟩:=qzari k1 k2 h6;obtain⟨o1,o2,o3⟩:=qzarj (s:=sl) h.rd.r;have hsl:=qen h.ss (List.mem_of_getElem? h2) h6;rw[h3] at hsl;have hu:=(qpy g1 g2).2;rw[h4] at hu;have hg:=qqc (inc:=(overD (sentS s n)).ic) (rd:=sendB (overD (sentS s n)) (X.se-n)) o1 hsl hu o3;simp only[Option.some.injEq,Prod.mk.injEq] at hd;obtain⟨rfl,rfl⟩:=hd;refine⟨set_gd ⟨h.on,h.os,h.tab,h.zs,w2,h.re,h.ow,laid_gd h.ss h2 j3 j1 j2 λ_=>h6,hg⟩,rfl,rfl,rfl⟩
theorem qzauw {X:Ln}{most cut:Int}(h:GdL X):GdL (stepL X most cut).1/\(stepL X most cut).1.sh=X.sh/\(stepL X most cut).1.os.length<=X.os.length:=by
 obtain⟨h1,h2,h3,h4⟩:=pop_gd (os:=X.os) h (λo ho=>ho) (Nat.le_refl _);unfold stepL;split
 ·exact⟨h1,h2,h4⟩
 ·split
  ·exact⟨h1,h2,h4⟩
  ·split
   ·exact⟨h1,h2,h4⟩
   ·rename_i Y f hd
    obtain⟨g1,g2,g3,_⟩:=qzabc h1 hd;exact⟨g1,g3.trans h2,by dsimp only;rw[g2];exact h4⟩
end Wr
end Cz
namespace Cz
open Go Go.RowKit Go.Proofs
namespace Wr
theorem quw {ss:List St}(h:GdS ss) {s t:St}(hs:s∈ss) (ht:t∈ss) (e:s.id=t.id):s=t:=by
 have hp:=h.srt;clear h
 induction ss with
 | nil=>cases hs
 | cons x ss ih=>
  rw[List.map_cons,List.pairwise_cons] at hp;rcases List.mem_cons.1 hs with e1|e1<;>rcases List.mem_cons.1 ht with e2|e2
  ·rw[e1,e2]
  ·have:=hp.1 t.id (List.mem_map.2 ⟨t,e2,rfl⟩)
   rw[<-e,e1] at this;omega
  ·have:=hp.1 s.id (List.mem_map.2 ⟨s,e1,rfl⟩)
   rw[e,e2] at this;omega
  ·exact ih e1 e2 hp.2
abbrev Key:=Int×Int×Bool×Int
def key (s:St):Key:=(s.id,s.sl,s.ic,s.ur)
theorem os_nil {X:Ln}(h:X.os=[]):({ X with os:=[] }:Ln)=X:=by
 obtain⟨os,tm,tr,zs,se,re,ow,ss,L,H,sh⟩:=X;dsimp only at h;subst h;rfl
end Wr
end Cz
