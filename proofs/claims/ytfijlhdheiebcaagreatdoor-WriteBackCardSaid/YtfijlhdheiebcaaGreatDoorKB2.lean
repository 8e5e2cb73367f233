/- What the claims of this group lean on: E2. No condition. -/
import Derived.Test.YtfijlhdheiebcaaGreatDoorKB1
import Derived.Laws.Concat
import Derived.Laws.MakeOwn
import Derived.Laws.BytesString
import Derived.Laws.IdiomStrings
set_option linter.unusedSimpArgs false
set_option linter.unusedVariables false
namespace Cz
open Go Go.RowKit
section
variable {P:Program}{N:Nat->Prop}{W0 W:World}{ρ:Nms}{l:List Blk}{vs:List SV}{a:Act}{K:SV->List Blk->Prop}{o:Oper}
theorem qxz {op:BinOp}{t:TypeId}{x y:Operand}{k k':IntKind}{m n:Int}:(eqGuard op t x y (.int k m) (.int k' n)).run P W=.ok () W:=by
 cases op<;>simp [eqGuard]
theorem qzasa {op:BinOp}{t:TypeId}{x y:Operand}{m n:ByteArray}:(eqGuard op t x y (.string m) (.string n)).run P W=.ok () W:=by
 cases op<;>simp [eqGuard]
theorem run_int {op:BinOp}{bk:BK}{t:TypeId}{k:IntKind}{m n:Int}(hb:bkOf op=some bk) (hs:bk≠.shl/\bk≠.shr) (hd:bk=.quo∨bk=.rem->n≠0):
  (Go.binOp op t (.int k m) (.int k n)).run P W=.ok (if bk.isCmp then .bool (bk.cmpLit m n) else .int k (arS bk k m n)) W:=by
 cases op<;>simp only[bkOf,Option.some.injEq] at hb<;>subst hb<;>simp at hs hd <;>
  simp [Go.binOp,Op.intArith,Op.intDiv,Op.intBits,Op.intCmp,BK.isCmp,BK.cmpLit,arS,hd]
 ·rfl
 ·simp [bne];rfl
theorem qzara {op:BinOp}{bk:BK}{t:TypeId}{k k':IntKind}{m n:Int}(hb:bkOf op=some bk) (hs:bk=.shl∨bk=.shr) (hn:0<=n):
  (Go.binOp op t (.int k m) (.int k' n)).run P W=.ok (.int k (arS bk k m n)) W:=by
 have hn':¬ n<0:=by omega
 cases op<;>simp only[bkOf,Option.some.injEq] at hb<;>subst hb<;>simp at hs <;>
  simp [Go.binOp,Op.shift,arS,hn']
theorem run_str {op:BinOp}{bk:BK}{t:TypeId}{x y:List UInt8}(hb:bkOf op=some bk) (hc:bk.isCmp=true):
  (Go.binOp op t (.string ⟨x.toArray⟩) (.string ⟨y.toArray⟩)).run P W=.ok (.bool (scmpS bk x y)) W:=by
 cases op<;>simp only[bkOf,Option.some.injEq] at hb<;>subst hb<;>simp [BK.isCmp] at hc <;>
  simp [Go.binOp,Op.stringOp,scmpS]
theorem s_bin {op:BinOp}{bk:BK}{t t':TypeId}{x y:Operand}{x' y':Opd}(ho:o.op=.binOp op t x y t') (hb:bkOf op=some bk) (hx:cOpd x=some x') (hy:cOpd y=some y'):
  Sound P o (.bin bk x' y'):=by
 intro N W0 W ρ l vs a K h hR hE;have hdx:=qbe hE hx;have hdy:=qbe hE hy;have fin:∀ (v:Value) (sv:SV),(eqGuard op t x y (a.eval x) (a.eval y)).run P W=.ok () W->(Go.binOp op t (a.eval x) (a.eval y)).run P W=.ok v W->K sv l->den ρ sv v ->
   OpRuns P o a W (OpPost P N W0 ρ l K):=by
  intro v sv hg hr hK hd;exact .val (v:=v) (W':=W) (by simp [ho,isDefer]) (by simp [execOp,ho,hg,hr]) (qaf hR hK hd)
 simp only[vop] at h;generalize hX:ev vs x'=X at *;generalize hY:ev vs y'=Y at *;unfold vbin at h;split at h
 ·rename_i k za k' zb
  simp only[den] at hdx hdy;have hsh:(bk=.shl∨bk=.shr)->(0<=zb.v)->K (.i k (.y (arS bk k za.v zb.v))) l->OpRuns P o a W (OpPost P N W0 ρ l K):=by
   intro hbk hn hK;exact fin _ _ (by rw[hdx,hdy];exact qxz) (by rw[hdx,hdy];exact qzara hb hbk hn) hK (by simp [den,Z.v])
  have hshl:(bk=.shl∨bk=.shr)->(0<=zb.v)->K (.i k (.l (arS bk k za.v zb.v))) l->OpRuns P o a W (OpPost P N W0 ρ l K):=by
   intro hbk hn hK;exact fin _ _ (by rw[hdx,hdy];exact qxz) (by rw[hdx,hdy];exact qzara hb hbk hn) hK (by simp [den,Z.v])
  have har:bk.isCmp=false->(bk≠.shl/\bk≠.shr)->(bk=.quo∨bk=.rem->zb.v≠0)->k=k'->∀ sv,K sv l->den ρ sv (.int k (arS bk k za.v zb.v))->OpRuns P o a W (OpPost P N W0 ρ l K):=by
   intro hc hs hz hk sv hK hd;subst hk;exact fin _ sv (by rw[hdx,hdy];exact qxz) (by rw[hdx,hdy,run_int hb hs hz,hc];rfl) hK hd
  have hcm:bk.isCmp=true->k=k'->∀ sv,K sv l->den ρ sv (.bool (bk.cmpLit za.v zb.v))->OpRuns P o a W (OpPost P N W0 ρ l K):=by
   intro hc hk sv hK hd;subst hk;exact fin _ sv (by rw[hdx,hdy];exact qxz) (by rw[hdx,hdy,run_int hb (by cases bk<;>simp [BK.isCmp] at hc ⊢) (by cases bk<;>simp [BK.isCmp] at hc ⊢),hc];rfl) hK hd
  split at h
  case h_1=>
   split at h
   ·split at h
    ·rename_i hn
     split at h
     ·exact hshl (.inl rfl) hn h
     ·exact hsh (.inl rfl) hn h
    ·exact h.elim
   ·obtain⟨hn,h⟩:=h
    exact hsh (.inl rfl) (by simpa [S0,BK.cmpLit,Z.v] using hn) h
  case h_2=>
   split at h
   ·split at h
    ·rename_i hn
     split at h
     ·exact hshl (.inr rfl) hn h
     ·exact hsh (.inr rfl) hn h
    ·exact h.elim
   ·obtain⟨hn,h⟩:=h
    exact hsh (.inr rfl) (by simpa [S0,BK.cmpLit,Z.v] using hn) h
  case h_3=>
   split at h
   ·rename_i hk
    split at h
    ·split at h
     ·exact h.elim
     ·rename_i hn
      split at h
      ·exact har rfl (by simp) (λ_=>hn) hk (.i k (.l (arS _ k _ _))) h (by simp [den,Z.v])
      ·exact har rfl (by simp) (λ_=>hn) hk (.i k (.y (arS _ k _ _))) h (by simp [den,Z.v])
    ·obtain⟨hn,h⟩:=h
     exact har rfl (by simp) (λ_=>by simpa [S0,BK.cmpLit,Z.v] using hn) hk (.i k (.y (arS _ k za.v _))) h (by simp [den,Z.v])
   ·exact h.elim
  case h_4=>
   split at h
   ·rename_i hk
    split at h
    ·split at h
     ·exact h.elim
     ·rename_i hn
      split at h
      ·exact har rfl (by simp) (λ_=>hn) hk (.i k (.l (arS _ k _ _))) h (by simp [den,Z.v])
      ·exact har rfl (by simp) (λ_=>hn) hk (.i k (.y (arS _ k _ _))) h (by simp [den,Z.v])
    ·obtain⟨hn,h⟩:=h
     exact har rfl (by simp) (λ_=>by simpa [S0,BK.cmpLit,Z.v] using hn) hk (.i k (.y (arS _ k za.v _))) h (by simp [den,Z.v])
   ·exact h.elim
  case h_5=>
   rename_i n1 n2 n3 n4;split at h
   ·rename_i hk
    split at h
    ·rename_i hc
     split at h
     ·exact hcm hc hk _ h (by simp only[Z.v];cases bk.cmpLit _ _<;>simp [den,ofB])
     ·exact hcm hc hk _ h (by simp [den,S0])
    ·rename_i hc
     have hc':bk.isCmp=false:=by simpa using hc
     have hq:bk=.quo∨bk=.rem->zb.v≠0:=λe=>by rcases e with e|e<;>simp_all
     have hs:bk≠.shl/\bk≠.shr:=⟨λe=>by simp_all,λe=>by simp_all⟩;split at h
     ·split at h
      ·rename_i r hr
       refine har hc' hs hq hk _ h ?_;simp only[den,Z.v];cases bk<;>simp [BK.lit] at hr<;>subst hr<;>simp [arS]
      ·exact har hc' hs hq hk (.i k (.y (arS bk k _ _))) h (by simp [den,Z.v])
     ·exact har hc' hs hq hk (.i k (.y (arS bk k _ _))) h (by simp [den,Z.v])
   ·exact h.elim
 ·rename_i s1 s2
  simp only[den] at hdx hdy;split at h
  ·obtain⟨hle,h⟩:=h
   have hle':((s1.length:Int)+s2.length)<=1099511627776:=by simpa [S0,BK.cmpLit] using hle
   cases op<;>simp only[bkOf,Option.some.injEq,reduceCtorEq] at hb;refine fin (.string ⟨(s1++s2).toArray⟩) _ (by rw[hdx,hdy];exact qzasa) ?_ h (by simp [den,S0]);rw[hdx,hdy];have e1:(ByteArray.mk s1.toArray).size=s1.length:=by show s1.toArray.size=_;simp
   have e2:(ByteArray.mk s2.toArray).size=s2.length:=by show s2.toArray.size=_;simp
   have e3:¬ (IntKind.i64.max<((s1.length:Int)+s2.length)):=by
    have:IntKind.i64.max=9223372036854775807:=rfl
    omega
   simp only[Go.binOp,Op.stringOp,e1,e2];rw[if_neg (by simpa using e3),ByteArray.mk_append_mk];rfl
  ·split at h
   ·rename_i hc
    exact fin _ _ (by rw[hdx,hdy];exact qzasa) (by rw[hdx,hdy];exact run_str hb hc) h (by simp [den,S0])
   ·exact h.elim
 ·exact h.elim
theorem s_neg {t:TypeId}{x:Operand}{x':Opd}(ho:o.op=.unOp .neg t x) (hx:cOpd x=some x'):Sound P o (.neg x'):=by
 intro N W0 W ρ l vs a K h hR hE;have hd:=qbe hE hx;simp only[vop] at h;split at h
 ·rename_i k z he
  rw[he] at hd;simp only[den,Z.v] at hd;refine .val (v:=.int k (k.wrap (0-z))) (W':=W) (by simp [ho,isDefer]) (by simp [execOp,ho,hd,Op.unary,Op.intArith]) (qaf (sv:=.i k (.l (arS .sub k 0 z))) hR h ?_);simp [den,Z.v,arS]
 ·rename_i k z he
  rw[he] at hd;simp only[den,Z.v] at hd;refine .val (v:=.int k (k.wrap (0-z))) (W':=W) (by simp [ho,isDefer]) (by simp [execOp,ho,hd,Op.unary,Op.intArith]) (qaf (sv:=.i k (.y (arS .sub k 0 z))) hR h ?_);simp [den,Z.v,arS]
 ·exact h.elim
theorem s_cv {t u:TypeId}{k k0:IntKind}{x:Operand}{x':Opd}(ho:o.op=.convert t u x) (ht:P.underlying t=some (.int k0)) (hu:P.underlying u=some (.int k)) (hx:cOpd x=some x'):
  Sound P o (.cv k x'):=by
 intro N W0 W ρ l vs a K h hR hE;have hd:=qbe hE hx;have run:∀ k1 n,a.eval x=.int k1 n->(execOp a.eval o).run P W=.ok (.value (.int k (k.wrap n))) W:=by
  intro k1 n e;simp [execOp,ho,e,Go.convert,qab ht,qab hu,Conv.intToInt]
 simp only[vop] at h;split at h
 ·rename_i k1 n he
  rw[he] at hd;simp only[den,Z.v] at hd;exact .val (by simp [ho,isDefer]) (run _ _ hd) (qaf hR h (by simp [den,Z.v]))
 ·rename_i k1 n he
  rw[he] at hd;simp only[den,Z.v] at hd;exact .val (by simp [ho,isDefer]) (run _ _ hd) (qaf (sv:=.i k (.y (k.wrap n))) hR h (by simp [den,Z.v]))
 ·exact h.elim
theorem qxx {ρ:Nms}:∀ {ss:List Kd}{xs ys:List SV}{vs us:List Value},kinds ss xs ys=true->denL ρ xs vs->denL ρ ys us->PairsOk ss vs us
 | [],[],[],[],[],_,_,_=>trivial
 | [],[],[],_::_,_,_,h,_=>by simp [denL] at h
 | [],[],[],[],_::_,_,_,h=>by simp [denL] at h
 | [],x::xs,ys,_,_,h,_,_=>by cases ys<;>simp [kinds] at h
 | [],[],y::ys,_,_,h,_,_=>by simp [kinds] at h
 | k::ss,[],ys,_,_,h,_,_=>by cases k<;>cases ys<;>simp [kinds] at h
 | k::ss,x::xs,[],_,_,h,_,_=>by cases k<;>cases x<;>simp [kinds] at h
 | k::ss,x::xs,y::ys,[],_,_,h,_=>by simp [denL] at h
 | k::ss,x::xs,y::ys,_::_,[],_,_,h=>by simp [denL] at h
 | k::ss,x::xs,y::ys,v::vs,u::us,h,hx,hy=>by
  simp only[denL] at hx hy;cases k with
  | kb=>
   simp only[kinds,Bool.and_eq_true] at h;refine⟨?_,qxx h.2 hx.2 hy.2⟩;have h1:=h.1.1;have h2:=h.1.2;have e1:∃ b,v=.bool b:=by
    cases x<;>simp at h1<;>(have:=hx.1;simp only[den] at this;exact⟨_,this⟩)
   have e2:∃ b,u=.bool b:=by
    cases y<;>simp at h2<;>(have:=hy.1;simp only[den] at this;exact⟨_,this⟩)
   obtain⟨b1,rfl⟩:=e1;obtain⟨b2,rfl⟩:=e2;exact⟨b1,b2,rfl,rfl⟩
  | ki=>
   cases x<;>cases y<;>simp [kinds] at h;obtain⟨hk,h⟩:=h;subst hk;refine⟨?_,qxx h hx.2 hy.2⟩
   have:=hx.1;have h2:=hy.1
   simp only[den] at this h2;exact⟨_,_,_,this,h2⟩
  | ks=>
   cases x<;>cases y<;>simp [kinds] at h;refine⟨?_,qxx h hx.2 hy.2⟩
   have:=hx.1;have h2:=hy.1
   simp only[den] at this h2;exact⟨_,_,this,h2⟩
theorem veq1_ok {s:Kd}{x y:SV}{v u:Value}{K1 K2:Unit->Prop}(h:veq1 (S0 P) s x y K1 K2) (hx:den ρ x v) (hy:den ρ y u):
  ∃ r,r=eqC v u/\(r=true->K1 ())/\(r=false->K2 ()):=by
 cases s with
 | kb=>
  cases x<;>simp only[veq1] at h<;>first|exact h.elim|skip
  all_goals cases y<;>first|exact h.elim|skip
  all_goals simp only[den] at hx hy;subst hx;subst hy;refine⟨_,rfl,?_⟩
  all_goals first
   | exact⟨λ_=>h,λe=>by simp [eqC] at e⟩
   | exact⟨λe=>by simp [eqC] at e,λ_=>h⟩
   | (refine⟨λe=>h.1 ?_,λe=>h.2 ?_⟩<;>simpa [eqC,S0] using e)
   | (refine⟨λe=>h.2 ?_,λe=>h.1 ?_⟩<;>simpa [eqC,S0] using e)
 | ki=>
  cases x<;>simp only[veq1] at h<;>first|exact h.elim|skip
  all_goals cases y<;>first|exact h.elim|skip
  rename_i k1 z1 k2 z2;simp only[den] at hx hy;subst hx;subst hy;simp only at h;split at h
  ·split at h
   ·rename_i m n
    split at h
    ·rename_i e;subst e;exact⟨_,rfl,λ_=>h,λe=>by simp [eqC,Z.v] at e⟩
    ·rename_i e;exact⟨_,rfl,λe2=>absurd (by simpa [eqC,Z.v] using e2) e,λ_=>h⟩
   ·exact⟨_,rfl,λe=>h.1 (by simpa [eqC,S0,BK.cmpLit] using e),λe=>h.2 (by simpa [eqC,S0,BK.cmpLit] using e)⟩
  ·exact h.elim
 | ks=>
  cases x<;>simp only[veq1] at h<;>first|exact h.elim|skip
  all_goals cases y<;>first|exact h.elim|skip
  simp only[den] at hx hy;subst hx;subst hy;exact⟨_,rfl,λe=>h.1 (by simpa [eqC,S0,scmpS] using e),λe=>h.2 (by simpa [eqC,S0,scmpS] using e)⟩
theorem veqL_ok {K1 K2:Unit->Prop}:∀ {ss:List Kd}{xs ys:List SV}{vs us:List Value},veqL (S0 P) ss xs ys K1 K2->kinds ss xs ys=true->denL ρ xs vs->denL ρ ys us ->
  ∃ r,r=eqCs vs us/\(r=true->K1 ())/\(r=false->K2 ())
 | [],[],[],[],[],h,_,_,_=>⟨true,rfl,λ_=>h,(λe=>by cases e)⟩
 | [],[],[],_::_,_,_,_,h,_=>by simp [denL] at h
 | [],[],[],[],_::_,_,_,_,h=>by simp [denL] at h
 | [],x::xs,ys,_,_,_,h,_,_=>by cases ys<;>simp [kinds] at h
 | [],[],y::ys,_,_,_,h,_,_=>by simp [kinds] at h
 | k::ss,[],ys,_,_,h,_,_,_=>by simp [veqL] at h
 | k::ss,x::xs,[],_,_,h,_,_,_=>by simp [veqL] at h
 | k::ss,x::xs,y::ys,[],_,_,_,h,_=>by simp [denL] at h
 | k::ss,x::xs,y::ys,_::_,[],_,_,_,h=>by simp [denL] at h
 | k::ss,x::xs,y::ys,v::vs,u::us,h,hk,hx,hy=>by
  simp only[denL] at hx hy;simp only[veqL] at h;have hk2:kinds ss xs ys=true:=by
   cases k with
   | kb=>simp only[kinds,Bool.and_eq_true] at hk;exact hk.2
   | ki=>cases x<;>cases y<;>simp [kinds] at hk;exact hk.2
   | ks=>cases x<;>cases y<;>simp [kinds] at hk;exact hk
  obtain⟨r,hr,h1,h2⟩:=veq1_ok h hx.1 hy.1;cases r with
  | false=>exact⟨false,by simp [eqCs,<-hr],(λe=>by cases e),λ_=>h2 rfl⟩
  | true=>
   obtain⟨r',hr',h1',h2'⟩:=veqL_ok (h1 rfl) hk2 hx.2 hy.2;exact⟨r',by simp [eqCs,<-hr,hr'],h1',h2'⟩
theorem qzavn {t:TypeId}{agg:Bool}{x:SV}{v:Value}{xs:List SV}(ha:aggOf P t=some agg) (hi:isAg x=agg) (hc:cellsOf x=some xs) (hd:den ρ x v):Made P t v:=by
 unfold Made;rw[ha];cases agg with
 | true=>
  cases x<;>simp [isAg] at hi;simp only[den] at hd;obtain⟨us,rfl,_⟩:=hd
  simp
 | false=>
  simp only[Option.some.injEq,Bool.false_eq_true,if_false];refine den_oneC ?_ hd;cases x<;>simp [isAg] at hi<;>simp [cellsOf] at hc<;>rfl
theorem veq_ok {t:TypeId}{sig:Sg}{x y:SV}{v u:Value}{K1 K2:Unit->Prop}(hsg:sgOf P t=some sig) (h:veq (S0 P) sig x y K1 K2) (hx:den ρ x v) (hy:den ρ y u):
  ∃ r,(∀ m,50<=m->(Op.equalIn m t v u).run P W=.ok r W)/\(r=true->K1 ())/\(r=false->K2 ()) /\
   PairsOk sig.ks v.cells.toList u.cells.toList/\Made P t v/\Made P t u/\r=eqCs v.cells.toList u.cells.toList:=by
 simp only[sgOf,Option.bind_eq_bind,Option.bind_eq_some_iff,Option.pure_def,Option.some.injEq] at hsg;obtain⟨s,hs,ag,ha,rfl⟩:=hsg;unfold veq at h;split at h
 ·rename_i xs ys hcx hcy
  split at h
  ·rename_i hh
   obtain⟨h1,h2,hk⟩:=hh;have dx:=qos hcx hx;have dy:=qos hcy hy;have hp:=qxx hk dx dy;have mx:=qzavn ha h1 hcx hx;have my:=qzavn ha h2 hcy hy;obtain⟨r,hr,k1,k2⟩:=veqL_ok h hk dx dy;exact⟨r,λm hm=>by rw[hr];exact qzaau 50 t s hs m hm v u hp mx my,k1,k2,hp,mx,my,hr⟩
  ·exact h.elim
 ·exact h.elim
theorem sig_flat {d:Nat}{t:TypeId}{s:List Kd}(h:sigOf P d t=some s) (ha:aggOf P t=some false) (hnk:∀ k,P.underlying t≠some (.int k)) (hns:P.underlying t≠some .string):s=[.kb]:=by
 cases d with
 | zero=>simp [sigOf] at h
 | succ d=>
  simp only[sigOf] at h;cases hu:P.underlying t with
  | none=>simp [hu] at h
  | some D=>
   rw[hu] at h;cases D<;>simp at h
   case bool=>exact h.symm
   case int k=>exact absurd hu (hnk k)
   case string=>exact absurd hu hns
   case struct fs=>simp [aggOf,hu] at ha
   case array n e=>simp [aggOf,hu] at ha
theorem s_eqA {op:BinOp}{neg:Bool}{t t':TypeId}{sig:Sg}{x y:Operand}{x' y':Opd}(ho:o.op=.binOp op t x y t') (hop:op=if neg then .neq else .eql)
  (hsg:sgOf P t=some sig) (hg:P.eqGuardType P.depth t=false) (hnk:∀ k,P.underlying t≠some (.int k)) (hns:P.underlying t≠some .string)
  (hx:cOpd x=some x') (hy:cOpd y=some y'):Sound P o (.eqA sig neg x' y'):=by
 intro N W0 W ρ l vs a K h hR hE;have hdx:=qbe hE hx;have hdy:=qbe hE hy;simp only[vop,qzatd] at h;obtain⟨r,hr,h1,h2,hp,mx,my,_⟩:=veq_ok (W:=W) hsg h hdx hdy;have hrun:(Op.equal t (a.eval x) (a.eval y)).run P W=.ok r W:=hr _ (by simp [Op.maxDepth]);have shape:(∃ c d,a.eval x=.agg c/\a.eval y=.agg d)∨∃ c d,a.eval x=.bool c/\a.eval y=.bool d:=by
  simp only[sgOf,Option.bind_eq_bind,Option.bind_eq_some_iff,Option.pure_def,Option.some.injEq] at hsg;obtain⟨s,hs,ag,ha,rfl⟩:=hsg;cases ag with
  | true=>
   simp only[Made,ha,if_true] at mx my;obtain⟨c,hc⟩:=mx;obtain⟨d,hd⟩:=my;exact .inl ⟨c,d,hc,hd⟩
  | false=>
   simp only[Made,ha,Option.some.injEq,Bool.false_eq_true,if_false] at mx my;obtain rfl:=sig_flat hs ha hnk hns;exact .inr (qzarh mx my hp)
 have hguard:(eqGuard op t x y (a.eval x) (a.eval y)).run P W=.ok () W:=by
  rcases shape with ⟨c,d,e1,e2⟩|⟨c,d,e1,e2⟩<;>rw[e1,e2]<;>subst hop<;>cases neg<;>simp [eqGuard,program,Sem.run,bind,Sem.bind,pure,hg]
 have hbin:(Go.binOp op t (a.eval x) (a.eval y)).run P W=.ok (.bool (if neg then !r else r)) W:=by
  rcases shape with ⟨c,d,e1,e2⟩|⟨c,d,e1,e2⟩<;>rw[e1,e2] at hrun ⊢<;>subst hop<;>cases neg<;>simp [Go.binOp,hrun]
 have hop2:(execOp a.eval o).run P W=.ok (.value (.bool (if neg then !r else r))) W:=by
  simp [execOp,ho,hguard,hbin]
 cases r with
 | true=>
  refine .val (by simp [ho,isDefer]) hop2 (qaf hR (h1 rfl) ?_);cases neg<;>simp [den,ofB]
 | false=>
  refine .val (by simp [ho,isDefer]) hop2 (qaf hR (h2 rfl) ?_);cases neg<;>simp [den,ofB]
theorem qpu {mp:Bool}{x:SV}{v:Value}{b:Bool}(h:vnil mp x=some b) (hd:den ρ x v):
  if mp then (if b then v=.map none else ∃ r,v=.map (some r)) else (if b then v=.nilFunc else ∃ f c d,v=.func f c d):=by
 unfold vnil at h;split at h<;>simp only[Option.some.injEq,reduceCtorEq] at h<;>subst h<;>simp only[den] at hd
 ·simpa using hd.1
 ·simpa using hd.1
 ·obtain⟨c,d,e,_⟩:=hd;simp [e]
 ·obtain⟨vw,_,ad,_,e⟩:=hd;simp [e]
 ·obtain⟨vw,_,ad,_,e⟩:=hd;simp [e]
theorem s_minmax {c:Call}{bk:BK}{x y:Operand}{x' y':Opd}(ho:o.op=.call c) (hb:(c.callee=.builtin .min/\bk=.min)∨(c.callee=.builtin .max/\bk=.max)) (hn:c.args.toList=[x,y]) (hx:cOpd x=some x') (hy:cOpd y=some y'):
  Sound P o (.bin bk x' y'):=by
 intro N W0 W ρ l vs a K h hR hE;have hdx:=qbe hE hx;have hdy:=qbe hE hy;have fin:∀ (k:IntKind) (m n:Int) (sv:SV),a.eval x=.int k m->a.eval y=.int k n->K sv l->den ρ sv (.int k (arS bk k m n))->OpRuns P o a W (OpPost P N W0 ρ l K):=by
  intro k m n sv e1 e2 hK hd;obtain⟨cal,args,tys⟩:=c;obtain rfl:args=#[x,y]:=by cases args;simp at hn;simp [hn]
  simp only at hb;refine .val (v:=.int k (arS bk k m n)) (W':=W) (by simp [ho,isDefer]) ?_ (qaf hR hK hd);rcases hb with ⟨rfl,rfl⟩|⟨rfl,rfl⟩
  ·simp [execOp,ho,resolve,invoke,builtin,Builtin.min_,Builtin.min2,e1,e2,arS]
  ·simp [execOp,ho,resolve,invoke,builtin,Builtin.max_,Builtin.max2,e1,e2,arS]
 simp only[vop] at h;generalize hX:ev vs x'=X at *;generalize hY:ev vs y'=Y at *;unfold vbin at h;split at h
 ·rename_i k za k' zb
  simp only[den] at hdx hdy;rcases hb with ⟨_,rfl⟩|⟨_,rfl⟩
  all_goals
   simp only[BK.isCmp,Bool.false_eq_true,if_false] at h;split at h
   ·rename_i hk
    subst hk;split at h
    ·simp only[BK.lit] at h
     refine fin _ _ _ _ hdx hdy h ?_;simp only[den,Z.v,arS];rfl
    ·exact fin _ _ _ (.i k (.y (arS _ k _ _))) hdx hdy h (by simp [den,Z.v])
   ·exact h.elim
 ·rcases hb with ⟨_,rfl⟩|⟨_,rfl⟩<;>simp [BK.isCmp] at h
 ·exact h.elim
theorem eq_sl {d:Nat}{t e:TypeId}{b:Option Addr}{n c:Nat}(ht:P.underlying t=some (.slice e)):(Op.equalIn (d+1) t (.slice b n c) (.slice none 0 0)).run P W=.ok b.isNone W:=by
 cases b<;>simp [Op.equalIn,qab ht]
theorem sl_nil {k sz:Nat}{off ln:Z}{cap:Option Z}{n c:Nat}(hd:den ρ (.sl k sz off ln cap) (.slice none n c)):ln.v=0:=by
 simp only[den] at hd;obtain⟨h0,h1,vw,_,_,hs⟩:=hd;unfold SlVal at hs;split at hs
 ·obtain⟨_,e0,_⟩:=hs;omega
 ·rcases hs with ⟨c,e,_⟩|⟨e0,_⟩
  ·cases e
  ·omega
theorem v_nil {lit:Bool}{sz:Nat}{F:List SV}{ln:Z}{n c:Nat}(hd:den ρ (.v lit sz F ln) (.slice none n c)):ln.v=0:=by
 simp only[den] at hd;obtain⟨h0,_,_,_,⟨b,o,c,e,_⟩|⟨e0,_⟩⟩:=hd
 ·cases e
 ·exact e0
theorem s_nilS {op:BinOp}{neg:Bool}{t t':TypeId}{x y:Operand}{x':Opd}(ho:o.op=.binOp op t x y t') (hop:op=if neg then .neq else .eql) (ht:∃ e,P.underlying t=some (.slice e))
  (hx:cOpd x=some x') (hy:cOpd y=some (.c (.re (.slice none 0 0)))):Sound P o (.nilS neg x'):=by
 intro N W0 W ρ l vs a K h hR hE;obtain⟨e,ht⟩:=ht;have hdx:=qbe hE hx;have hdy:=qbe hE hy;simp only[ev,den] at hdy;have key:∀ b n c,a.eval x=.slice b n c->K (ofB (if neg then !b.isNone else b.isNone)) l->OpRuns P o a W (OpPost P N W0 ρ l K):=by
  intro b n c e1 hK;have hg:(eqGuard op t x y (a.eval x) (a.eval y)).run P W=.ok () W:=by
   rw[e1,hdy.1];subst hop;cases neg<;>simp [eqGuard]
  have hq:(Op.equal t (.slice b n c) (.slice none 0 0)).run P W=.ok b.isNone W:=eq_sl (d:=9999) ht;have hbin:(Go.binOp op t (a.eval x) (a.eval y)).run P W=.ok (.bool (if neg then !b.isNone else b.isNone)) W:=by
   rw[e1,hdy.1];subst hop;cases neg<;>simp [Go.binOp,hq]
  refine .val (v:=.bool (if neg then !b.isNone else b.isNone)) (W':=W) (by simp [ho,isDefer]) (by simp [execOp,ho,hg,hbin]) (qaf hR hK ?_);generalize (if neg then !b.isNone else b.isNone)=r;cases r<;>simp [den,ofB]
 simp only[vop] at h;split at h
 ·rename_i he
  rw[he] at hdx;simp only[den] at hdx;exact key none 0 0 hdx.1 (by cases neg<;>exact h)
 ·rename_i k sz off ln cap he
  rw[he] at hdx;obtain⟨b,c,e1,_⟩:=qzada hdx;cases b with
  | none=>exact key _ _ _ e1 (by have:=h.1 (sl_nil (e1▸hdx));cases neg<;>exact this)
  | some b=>exact key _ _ _ e1 (by cases neg<;>exact h.2)
 ·rename_i lit sz F ln he
  rw[he] at hdx;obtain⟨b,c,e1,_⟩:=qzahv hdx;cases b with
  | none=>exact key _ _ _ e1 (by have:=h.1 (v_nil (e1▸hdx));cases neg<;>exact this)
  | some b=>exact key _ _ _ e1 (by cases neg<;>exact h.2)
 ·exact h.elim
theorem eq_nn {d:Nat}{t:TypeId}{p r:Array TypeId}{b:Bool}(ht:P.underlying t=some (.func p r b)):(Op.equalIn (d+1) t .nilFunc .nilFunc).run P W=.ok true W:=by
 simp [Op.equalIn,qab ht]
theorem eq_nf {d:Nat}{t:TypeId}{p r:Array TypeId}{b:Bool}{f:Fn}{x y:Array Value}(ht:P.underlying t=some (.func p r b)):(Op.equalIn (d+1) t .nilFunc (.func f x y)).run P W=.ok false W:=by
 simp [Op.equalIn,qab ht]
theorem eq_fn {d:Nat}{t:TypeId}{p r:Array TypeId}{b:Bool}{f:Fn}{x y:Array Value}(ht:P.underlying t=some (.func p r b)):(Op.equalIn (d+1) t (.func f x y) .nilFunc).run P W=.ok false W:=by
 simp [Op.equalIn,qab ht]
theorem eq_mm {d:Nat}{t p r:TypeId}{m:Option Nat}(ht:P.underlying t=some (.map p r)):(Op.equalIn (d+1) t (.map none) (.map m)).run P W=.ok m.isNone W:=by
 simp [Op.equalIn,qab ht]
theorem eq_mn {d:Nat}{t p r:TypeId}{m:Nat}(ht:P.underlying t=some (.map p r)):(Op.equalIn (d+1) t (.map (some m)) (.map none)).run P W=.ok false W:=by
 simp [Op.equalIn,qab ht]
theorem s_eqN {op:BinOp}{mp neg:Bool}{t t':TypeId}{x y:Operand}{x' y':Opd}(ho:o.op=.binOp op t x y t') (hop:op=if neg then .neq else .eql)
  (ht:if mp then ∃ k e,P.underlying t=some (.map k e) else ∃ p r b,P.underlying t=some (.func p r b))
  (hx:cOpd x=some x') (hy:cOpd y=some y'):Sound P o (.eqN mp neg x' y'):=by
 intro N W0 W ρ l vs a K h hR hE;have hdx:=qbe hE hx;have hdy:=qbe hE hy;simp only[vop,veqN] at h;have key:∀ r:Bool,(eqGuard op t x y (a.eval x) (a.eval y)).run P W=.ok () W->(Op.equal t (a.eval x) (a.eval y)).run P W=.ok r W ->
   ((∃ m,a.eval x=.map m)∨a.eval x=.nilFunc∨∃ f c d,a.eval x=.func f c d) ->
   (λb=>K (ofB (if neg then !b else b)) l) r->OpRuns P o a W (OpPost P N W0 ρ l K):=by
  intro r hg hq n1 hK;have hbin:(Go.binOp op t (a.eval x) (a.eval y)).run P W=.ok (.bool (if neg then !r else r)) W:=by
   subst hop;rcases n1 with ⟨m,e⟩|e|⟨f,c,d,e⟩<;>rw[e] at hq ⊢<;>cases neg<;>simp [Go.binOp,hq]
  refine .val (v:=.bool (if neg then !r else r)) (W':=W) (by simp [ho,isDefer]) (by simp [execOp,ho,hg,hbin]) (qaf hR hK ?_);cases neg<;>cases r<;>simp [den,ofB]
 have gd:∀ u v:Value,((∃ m,u=.map m)∨u=.nilFunc∨∃ f c d,u=.func f c d)->(eqGuard op t x y u v).run P W=.ok () W:=by
  intro u v h1;subst hop;rcases h1 with ⟨m,rfl⟩|rfl|⟨f,c,d,rfl⟩<;>cases neg<;>simp [eqGuard]
 cases mp with
 | false=>
  simp only[Bool.false_eq_true,if_false] at ht;obtain⟨p,r,b,ht⟩:=ht;split at h
  ·rename_i b1 e1 e2
   have f1:=qpu e1 hdx;have f2:=qpu e2 hdy;simp only[Bool.false_eq_true,if_false,if_true] at f1 f2;cases b1 with
   | true=>
    simp only[if_true] at f2;exact key true (gd _ _ (by simp [f1])) (by rw[f1,f2];exact eq_nn (d:=9999) ht) (by simp [f1]) h
   | false=>
    simp only[Bool.false_eq_true,if_false] at f2;obtain⟨f,c,d,f2⟩:=f2;exact key false (gd _ _ (by simp [f1])) (by rw[f1,f2];exact eq_nf (d:=9999) ht) (by simp [f1]) h
  ·rename_i e1 e2
   have f1:=qpu e1 hdx;have f2:=qpu e2 hdy;simp only[Bool.false_eq_true,if_false,if_true] at f1 f2;obtain⟨f,c,d,f1⟩:=f1;exact key false (gd _ _ (by simp [f1])) (by rw[f1,f2];exact eq_fn (d:=9999) ht) (by simp [f1]) h
  ·exact h.elim
 | true=>
  simp only[if_true] at ht;obtain⟨p,r,ht⟩:=ht;split at h
  ·rename_i b1 e1 e2
   have f1:=qpu e1 hdx;have f2:=qpu e2 hdy;simp only[if_true] at f1 f2;cases b1 with
   | true=>
    simp only[if_true] at f2;exact key true (gd _ _ (by simp [f1])) (by rw[f1,f2];exact eq_mm (d:=9999) ht) (by simp [f1]) h
   | false=>
    simp only[Bool.false_eq_true,if_false] at f2;obtain⟨c,f2⟩:=f2;exact key false (gd _ _ (by simp [f1])) (by rw[f1,f2];exact eq_mm (d:=9999) ht) (by simp [f1]) h
  ·rename_i e1 e2
   have f1:=qpu e1 hdx;have f2:=qpu e2 hdy;simp only[Bool.false_eq_true,if_false,if_true] at f1 f2;obtain⟨c,f1⟩:=f1;exact key false (gd _ _ (by simp [f1])) (by rw[f1,f2];exact eq_mn (d:=9999) ht) (by simp [f1]) h
  ·exact h.elim
end
end Cz
namespace Cz
open Go Go.RowKit
section
variable {P:Program}{N:Nat->Prop}{W0 W:World}{ρ:Nms}{l:List Blk}{vs:List SV}{a:Act}{K:SV->List Blk->Prop}{o:Oper}
theorem qbl {x y:Z}{k:Unit->Prop}(h:zle (S0 P) x y k):x.v<=y.v/\k ():=by
 unfold zle at h;split at h
 ·split at h
  ·rename_i hh;exact⟨hh,h⟩
  ·exact h.elim
 ·exact⟨by simpa [S0,BK.cmpLit] using h.1,h.2⟩
theorem qzakq {x y:Z}{k:Unit->Prop}(h:zlt (S0 P) x y k):x.v<y.v/\k ():=by
 unfold zlt at h;split at h
 ·split at h
  ·rename_i hh;exact⟨hh,h⟩
  ·exact h.elim
 ·exact⟨by simpa [S0,BK.cmpLit] using h.1,h.2⟩
theorem qpt (x y:Z):(zadd (S0 P) x y).v=x.v+y.v:=by
 unfold zadd;split<;>simp [Z.v,S0]
theorem qzacf (x y:Z):(zsub (S0 P) x y).v=x.v-y.v:=by
 unfold zsub;split<;>simp [Z.v,S0]
theorem qdz {x:SV}{z:Z}{v:Value}(h:intZ x=some z) (hd:den ρ x v):∃ k,v=.int k z.v:=by
 cases x<;>simp [intZ] at h;subst h;simp only[den] at hd;exact⟨_,hd⟩
theorem s_iadS {t e:TypeId}{x i:Operand}{x' i':Opd}{n:Nat}(ho:o.op=.indexAddr t x i) (ht:P.underlying t=some (.slice e)) (hn:szOf P e=some n)
  (hx:cOpd x=some x') (hi:cOpd i=some i'):Sound P o (.iadS n x' i'):=by
 intro N W0 W ρ l vs a K h hR hE;have hdx:=qbe hE hx;have hdi:=qbe hE hi;simp only[vop] at h;split at h
 ·rename_i k sz' off ln cap z he hz
  rw[he] at hdx;obtain⟨ki,hvi⟩:=qdz hz hdi;split at h
  ·rename_i hsz
   subst hsz;obtain⟨h1,h⟩:=qbl h;obtain⟨h2,h⟩:=qzakq h
   replace h1:0<=z.v:=h1
   simp only[den] at hdx;obtain⟨ho0,hl0,vw,hvw,hin,hs⟩:=hdx;unfold SlVal at hs;cases hb:vw.base with
   | none=>
    rw[hb] at hs
    have:=hs.2.1
    omega
   | some ad=>
    rw[hb] at hs;have hnat:z.v.toNat<ln.v.toNat:=by omega
    rcases hs with ⟨c,hv,_⟩|⟨hl,_⟩
    ·have hz0:(z.v.toNat:Int)=z.v:=Int.toNat_of_nonneg h1
     have hrun:(execOp a.eval o).run P W=.ok (.value (.pointer (some ⟨ad.block,ad.off+off.v.toNat*n+z.v.toNat*n,none⟩))) W:=by
      have hlt:z.v<(ln.v.toNat:Int):=by omega
      simp only[execOp,ho,Instr.indexAt,hvi,hv,asIntOf,Sem.run_bind,qab ht,Result.andThen_ok,Sem.run_pure];rw[if_pos ⟨h1,hlt⟩];simp [qbb hn,qbu]
     refine .val (by simp [ho,isDefer]) hrun (qaf hR h ?_);simp only[den];rw[qpt];have e1:(off.v+z.v).toNat=off.v.toNat+z.v.toNat:=Int.toNat_add ho0 h1;refine⟨by omega,vw,hvw,ad,hb,?_,?_⟩
     ·rw[e1]
      exact Nat.le_trans (Nat.mul_le_mul_right n (by omega)) hin
     ·rw[e1,Nat.add_mul,Nat.add_zero,Nat.add_assoc]
    ·omega
  ·exact h.elim
 ·rename_i lit sz' F ln z he hz
  rw[he] at hdx;obtain⟨ki,hvi⟩:=qdz hz hdi;split at h
  ·rename_i hsz
   subst hsz;obtain⟨h1,h⟩:=qbl h;obtain⟨h2,h⟩:=qzakq h
   replace h1:0<=z.v:=h1
   simp only[den] at hdx;obtain⟨hl0,hs0,hln,hp,⟨b,o',c,hv,hc,_,hF⟩|⟨e0,_⟩⟩:=hdx
   ·have hnat:z.v.toNat<ln.v.toNat:=by omega
    have hrun:(execOp a.eval o).run P W=.ok (.value (.pointer (some ⟨b,o'+z.v.toNat*n,none⟩))) W:=by
     have hlt:z.v<(ln.v.toNat:Int):=by omega
     simp only[execOp,ho,Instr.indexAt,hvi,hv,asIntOf,Sem.run_bind,qab ht,Result.andThen_ok,Sem.run_pure];rw[if_pos ⟨h1,hlt⟩];simp [qbb hn,qbu]
    refine .val (by simp [ho,isDefer]) hrun (qaf hR h ?_);simp only[den];exact⟨h1,by rw[<-hln];exact Nat.mul_le_mul_right n (by omega),hp,b,o',by rw[Nat.add_zero],hF⟩
   ·omega
  ·exact h.elim
 ·exact h.elim
theorem s_iadA {t e:TypeId}{x i:Operand}{x' i':Opd}{n len:Nat}(ho:o.op=.indexAddr t x i) (ht:P.underlying t=some (.array len e)) (hn:szOf P e=some n)
  (hx:cOpd x=some x') (hi:cOpd i=some i'):Sound P o (.iadA len n x' i'):=by
 intro N W0 W ρ l vs a K h hR hE;have hdx:=qbe hE hx;have hdi:=qbe hE hi;simp only[vop] at h;split at h
 ·rename_i k o0 z he hz
  rw[he] at hdx;obtain⟨ki,hvi⟩:=qdz hz hdi;split at h
  ·rename_i cs hcs
   split at h
   ·rename_i hlen
    obtain⟨ho0,hlen⟩:=hlen;subst ho0;rw[qdo] at hlen;obtain⟨h1,h⟩:=qbl h;obtain⟨h2,h⟩:=qzakq h
    replace h1:0<=z.v:=h1
    replace h2:z.v<(len:Int):=h2
    obtain⟨b,e1,hv,_⟩:=hR.blk k _ (qas hcs (by simp));simp only[den] at hdx;obtain⟨vw,hvw,ad,hb,hve⟩:=hdx;obtain rfl:=qep e1 hvw;simp at hb;subst hb;have hrun:(execOp a.eval o).run P W=.ok (.value (.pointer (some ⟨b,z.v.toNat*n,none⟩))) W:=by
     simp only[execOp,ho,Instr.indexAt,hvi,hve,asIntOf,Sem.run_bind,qab ht,Result.andThen_ok,Sem.run_pure,Instr.sureAddr];rw[if_pos ⟨h1,h2⟩];simp [qbb hn,qbu]
    refine .val (by simp [ho,isDefer]) hrun (qaf hR h ?_);simp only[den];refine⟨h1,_,hvw,_,rfl,?_,by simp⟩;show (z.v.toNat+1)*n<=cs.length;rw[<-hlen];exact Nat.mul_le_mul_right n (by omega)
   ·split at h
    ·obtain⟨h1,h⟩:=qbl h
     obtain⟨h2,h⟩:=qzakq h
     replace h1:0<=z.v:=h1
     replace h2:z.v<(len:Int):=h2
     simp only[den] at hdx;obtain⟨vw,hvw,ad,hb,hve⟩:=hdx;have hrun:(execOp a.eval o).run P W=.ok (.value (.pointer (some ⟨ad.block,ad.off+o0+z.v.toNat*n,none⟩))) W:=by
      simp only[execOp,ho,Instr.indexAt,hvi,hve,asIntOf,Sem.run_bind,qab ht,Result.andThen_ok,Sem.run_pure,Instr.sureAddr];rw[if_pos ⟨h1,h2⟩];simp [qbb hn,qbu]
     refine .val (by simp [ho,isDefer]) hrun (qaf hR h ?_);simp only[den];exact⟨vw,hvw,ad,hb,by rw[Nat.add_assoc]⟩
    ·exact h.elim
  ·exact h.elim
 ·rename_i k i0 sz0 j z he hz
  rw[he] at hdx;obtain⟨ki,hvi⟩:=qdz hz hdi
  replace hvi:a.eval i=.int ki z:=hvi
  split at h
  ·rename_i hc
   obtain⟨h1,h2,_⟩:=hc;simp only[den] at hdx ⊢;obtain⟨g0,vw,hvw,ad,hb,g1,hve⟩:=hdx;have hrun:(execOp a.eval o).run P W=.ok (.value (.pointer (some ⟨ad.block,ad.off+(i0.v.toNat*sz0+j)+z.toNat*n,none⟩))) W:=by
    simp only[execOp,ho,Instr.indexAt,hvi,hve,asIntOf,Sem.run_bind,qab ht,Result.andThen_ok,Sem.run_pure,Instr.sureAddr];rw[if_pos ⟨h1,h2⟩];simp [qbb hn,qbu]
   refine .val (by simp [ho,isDefer]) hrun (qaf hR h ?_);simp only[den];exact⟨g0,vw,hvw,ad,hb,g1,by congr 3;omega⟩
  ·exact h.elim
 ·rename_i lit F i0 sz0 j z he hz
  rw[he] at hdx;obtain⟨ki,hvi⟩:=qdz hz hdi
  replace hvi:a.eval i=.int ki z:=hvi
  split at h
  ·rename_i hc
   obtain⟨h1,h2,_⟩:=hc;simp only[den] at hdx ⊢;obtain⟨g0,g1,gp,b,o',hve,hF⟩:=hdx;have hrun:(execOp a.eval o).run P W=.ok (.value (.pointer (some ⟨b,o'+(i0.v.toNat*sz0+j)+z.toNat*n,none⟩))) W:=by
    simp only[execOp,ho,Instr.indexAt,hvi,hve,asIntOf,Sem.run_bind,qab ht,Result.andThen_ok,Sem.run_pure,Instr.sureAddr];rw[if_pos ⟨h1,h2⟩];simp [qbb hn,qbu]
   refine .val (by simp [ho,isDefer]) hrun (qaf hR h ?_);simp only[den];exact⟨g0,g1,gp,b,o',by congr 3;omega,hF⟩
  ·exact h.elim
 ·exact h.elim
theorem part_ok {t:TypeId}{agg:Bool}{cs:List SV}{us:Array Value}{off n:Nat}{sv:SV}(ha:aggOf P t=some agg) (hn:szOf P t=some n) (hd:denL ρ cs us.toList)
  (hle:off+n<=cs.length) (hm:mkv agg ((cs.drop off).take n)=some sv):∃ v,(part t us off).run P W=.ok v W/\den ρ sv v:=by
 have hl:=qan hd;simp only[Array.length_toList] at hl;have hget:∀ (q:Nat) (x:SV),((cs.drop off).take n)[q]?=some x->∃ v,us.toList[off+q]?=some v/\den ρ x v:=by
  intro q x hx;rw[List.getElem?_take] at hx;split at hx
  ·rw[List.getElem?_drop] at hx
   exact qbk _ x hd hx
  ·cases hx
 cases agg with
 | true=>
  simp only[mkv,Option.some.injEq] at hm;subst hm;refine⟨.agg (us.extract off (off+n)),by simp [part,qmj ha,qbb hn],?_⟩;simp only[den];refine⟨_,rfl,qcx (by simp;omega) λq x hx=>?_⟩;obtain⟨v,hv,d⟩:=hget q x hx;refine⟨v,?_,d⟩;have hq:q<n:=by
   have:=(List.getElem?_eq_some_iff.1 hx).1
   simp at this;omega
  simp only[Array.toList_extract,List.extract_eq_take_drop];rw[List.getElem?_take,if_pos (by omega),List.getElem?_drop];exact hv
 | false=>
  match hc:(cs.drop off).take n,hm with
  | [x],hm=>
   simp only[mkv,Option.some.injEq] at hm;subst hm;obtain⟨v,hv,d⟩:=hget 0 x (by rw[hc];rfl);have hv':us[off]?=some v:=by simpa using hv
   exact⟨v,by simp [part,qmj ha,hv'],d⟩
theorem s_fld {t:TypeId}{x:Operand}{x':Opd}{f n:Nat}{agg:Bool}{fs:Array Field}{g:Field}(ho:o.op=.field t x f) (hx:cOpd x=some x') (ht:P.underlying t=some (.struct fs))
  (hg:fs[f]?=some g) (hn:szOf P g.type=some n) (ha:aggOf P g.type=some agg):Sound P o (.fld agg g.offset n x'):=by
 intro N W0 W ρ l vs a K h hR hE;have hd:=qbe hE hx;simp only[vop] at h;split at h
 ·rename_i cs he
  rw[he] at hd;simp only[den] at hd;obtain⟨us,hve,d⟩:=hd;split at h
  ·rename_i hle
   rw[qdo] at hle;split at h
   ·rename_i sv hm
    rw[qiv,qey] at hm;obtain⟨v,hv,dv⟩:=part_ok (W:=W) ha hn d hle hm;exact .val (v:=v) (W':=W) (by simp [ho,isDefer]) (by simp [execOp,ho,Instr.field,qab ht,hg,hve,asAgg,hv]) (qaf hR h dv)
   ·exact h.elim
  ·exact h.elim
 ·exact h.elim
theorem s_ixA {t e:TypeId}{x i:Operand}{x' i':Opd}{n len:Nat}{agg:Bool}(ho:o.op=.index t x i) (ht:P.underlying t=some (.array len e)) (hn:szOf P e=some n) (ha:aggOf P e=some agg) (h0:n≠0)
  (hx:cOpd x=some x') (hi:cOpd i=some i'):Sound P o (.ixA agg len n x' i'):=by
 intro N W0 W ρ l vs a K h hR hE;have hd:=qbe hE hx;have hdi:=qbe hE hi;have go:∀ (cs:List SV) (z:Int) (sv:SV),ev vs x'=.ag cs->(∃ k,a.eval i=.int k z)->0<=z->z<len->len*n=cs.length->mkv agg ((cs.drop (z.toNat*n)).take n)=some sv->K sv l ->
   OpRuns P o a W (OpPost P N W0 ρ l K):=by
  intro cs z sv he ⟨k,hvi⟩ h1 h2 h3 hm hK;rw[he] at hd;simp only[den] at hd;obtain⟨us,hve,d⟩:=hd;have hle:z.toNat*n+n<=cs.length:=by
   rw[<-h3]
   have:(z.toNat+1)*n<=len*n:=Nat.mul_le_mul_right n (by omega)
   rw[Nat.add_mul,Nat.one_mul] at this;exact this
  obtain⟨v,hv,dv⟩:=part_ok (W:=W) ha hn d hle hm;refine .val (v:=v) (W':=W) (by simp [ho,isDefer]) ?_ (qaf hR hK dv);simp only[execOp,ho,Instr.index,hvi,hve,asIntOf,Sem.run_bind,qab ht,Result.andThen_ok,Sem.run_pure];rw[if_pos ⟨h1,h2⟩];simp [qbb hn,hv]
 simp only[vop] at h;split at h
 ·rename_i cs z he hz
  split at h
  ·rename_i hh
   obtain⟨h1,h2,h3⟩:=hh;rw[qdo] at h3;split at h
   ·rename_i sv hm
    rw[qiv,qey] at hm;exact go cs z sv he (qdz hz hdi) h1 h2 h3 hm h
   ·exact h.elim
  ·exact h.elim
 ·rename_i cs z he hz
  split at h
  ·rename_i h3
   rw[qdo] at h3;obtain⟨h1,h2,_,sv,hm,hK⟩:=h;refine go cs z sv he (qdz hz hdi) h1 ?_ h3 (by simpa using hm) hK;rw[<-h3] at h2
   have:=Nat.le_of_mul_le_mul_right h2 (by omega)
   omega
  ·exact h.elim
 ·exact h.elim
theorem qzalh (off:Nat):∀ (xs:List SV) (us:List Value) (k:Nat) (cs:List SV) (cells:Array Value),denL ρ xs us->denL ρ cs cells.toList->off+k+xs.length<=cs.length ->
  denL ρ (repl cs (off+k) xs) ((us.zipIdx k).foldl (λ(cs:Array Value) (p:Value×Nat)=>cs.setIfInBounds (off+p.2) p.1) cells).toList
 | [],[],k,cs,cells,_,hc,_=>by simpa [repl] using hc
 | [],_::_,_,_,_,h,_,_=>by simp [denL] at h
 | _::_,[],_,_,_,h,_,_=>by simp [denL] at h
 | x::xs,u::us,k,cs,cells,h,hc,hl=>by
  simp only[denL] at h;simp only[List.length_cons] at hl;simp only[repl,List.zipIdx_cons,List.foldl_cons]
  have:=qzalh off xs us (k+1) (put cs (off+k) x) (cells.setIfInBounds (off+k) u) h.2 ?_ (by simp [qes];omega)
  ·simpa [Nat.add_assoc] using this
  ·rw[qes]
   have hlen:=qan hc;refine qcx (by simpa using hlen) λq y hy=>?_;by_cases hq:q=off+k
   ·subst hq
    have hlt:off+k<cs.length:=by omega
    rw[List.getElem?_set_self hlt] at hy;simp at hy;subst hy;refine⟨u,?_,h.1⟩
    have:off+k<cells.size:=by simp at hlen;omega
    simp [this]
   ·rw[List.getElem?_set_ne (Ne.symm hq)] at hy
    obtain⟨v,hv,d⟩:=qbk q y hc hy;refine⟨v,?_,d⟩
    have:cells[q]?=some v:=by simpa using hv
    simp [Ne.symm hq,this]
theorem qzaot {place : Nat → Option (Nat × Nat)} (hE : EnvOk ρ vs a.tmps) : ∀ (parts : List (Nat × Operand)) (parts' : List (Nat × Nat × Opd)) (cs out : List SV) (cells : Array Value),
    parts.mapM (fun (p : Nat × Operand) => do let pl ← place p.1; pure (pl.1, pl.2, ← cOpd p.2)) = some parts' → fillS vs cs parts' = some out → denL ρ cs cells.toList →
    ∃ cells', Instr.fill place cells (parts.map fun p => (p.1, a.eval p.2)) = some cells' ∧ denL ρ out cells'.toList
  | [], parts', cs, out, cells, hp, hf, hc => by
    simp at hp; subst hp
    simp only [fillS, Option.some.injEq] at hf
    subst hf
    exact ⟨cells, rfl, hc⟩
  | (i, x) :: parts, parts', cs, out, cells, hp, hf, hc => by
    simp only [List.mapM_cons, Option.bind_eq_bind, Option.bind_eq_some_iff, Option.pure_def, Option.some.injEq] at hp
    obtain ⟨_, ⟨⟨off, n⟩, hpl, x', hx', rfl⟩, ps, hps, rfl⟩ := hp
    simp only [fillS, qrt] at hf
    split at hf
    · rename_i ws hws
      split at hf
      · rename_i hh
        obtain ⟨h1, h2⟩ := hh
        rw [qdo] at h1 h2
        have hdx := qos hws (qbe hE hx')
        have hlx := qan hdx
        have hlc := qan hc
        simp only [Array.length_toList] at hlx hlc
        have hrep := qzalh (ρ := ρ) off ws (a.eval x).cells.toList 0 cs cells hdx hc (by omega)
        obtain ⟨cells', hfl, hd'⟩ := qzaot hE parts ps _ out _ hps hf hrep
        refine ⟨cells', ?_, hd'⟩
        simp only [List.map_cons, Instr.fill, hpl]
        rw [if_neg (by simp; omega)]
        rw [← hfl]
        congr 1
        rw [← Array.foldl_toList, Array.toList_zipIdx]
      · cases hf
    · cases hf
theorem s_mkM {t:TypeId}(ho:o.op=.makeMap t none):Sound P o .mkM:=by
 intro N W0 W ρ l vs a K h hR hE;simp only[vop,qbs,qdm] at h;refine .val (v:=.map (some W.heap.size)) (W':=W.alloc (.map #[] 0)) (by simp [ho,isDefer]) (by simp [execOp,ho,Instr.makeMap])
  ⟨upd ρ l.length [⟨some ⟨W.heap.size,0,none⟩,0,0⟩],_,_,h,qox hR _,by simp,?_,?_⟩
 ·refine hR.push (Below.allocW hR _) (by simp) (λi hi=>qit hi) ?_ ⟨W.heap.size,#[],0,⟨qam,hR.hN _ (Nat.le_refl _)⟩,qfj,by simp [MapRel],by simp [Born]⟩
  intro vw hv ad ha;simp only[List.mem_singleton] at hv;subst hv;simp at ha;subst ha;simp
 ·simp only[den]
  exact⟨_,by rw[qam];exact List.mem_singleton.2 rfl,_,rfl,rfl⟩
theorem s_mkMh {t kt e:TypeId}{k:IntKind}{n:Int}(ho:o.op=.makeMap t (some (.const (.int k n)))) (ht:P.underlying t=some (.map kt e)):Sound P o .mkM:=by
 intro N W0 W ρ l vs a K h hR hE;simp only[vop,qbs,qdm] at h;refine .val (v:=.map (some W.heap.size)) (W':=W.alloc (.map #[] 0)) (by simp [ho,isDefer]) (by simp [execOp,ho,Instr.makeMap,qab ht,Act.eval,asInt,asIntOf])
  ⟨upd ρ l.length [⟨some ⟨W.heap.size,0,none⟩,0,0⟩],_,_,h,qox hR _,by simp,?_,?_⟩
 ·refine hR.push (Below.allocW hR _) (by simp) (λi hi=>qit hi) ?_ ⟨W.heap.size,#[],0,⟨qam,hR.hN _ (Nat.le_refl _)⟩,qfj,by simp [MapRel],by simp [Born]⟩
  intro vw hv ad ha;simp only[List.mem_singleton] at hv;subst hv;simp at ha;subst ha;simp
 ·simp only[den]
  exact⟨_,by rw[qam];exact List.mem_singleton.2 rfl,_,rfl,rfl⟩
theorem List.mapM_congr_opt {α β:Type}{f g:α->Option β}:∀ {l:List α},(∀ x∈l,f x=g x)->l.mapM f=l.mapM g
 | [],_=>rfl
 | x::l,h=>by
  simp only[List.mapM_cons];rw[h x (by simp),List.mapM_congr_opt (λy hy=>h y (by simp [hy]))]
theorem run_places {fs : List Field} (h : ∀ f ∈ fs, (szOf P f.type).isSome = true) :
    (fs.mapM (fun (f : Field) => (do pure (f.offset, ← Go.sizeOf f.type) : Sem (Nat × Nat)))).run P W = .ok (fs.map fun f => (f.offset, (szOf P f.type).getD 0)) W := by
  induction fs with
  | nil => simp
  | cons f fs ih =>
    have h1 := h f (by simp)
    obtain ⟨n, hn⟩ := Option.isSome_iff_exists.1 h1
    simp only [List.mapM_cons, Sem.run_bind, qbb hn, Result.andThen_ok, Sem.run_pure, ih (fun g hg => h g (by simp [hg])), List.map_cons, hn, Option.getD_some]
theorem qzaje {t : TypeId} {parts : Array (Nat × Operand)} {fs : Array Field} {zero : List SV} {ps : List (Nat × Nat × Opd)} (ho : o.op = .build t parts) (ht : P.underlying t = some (.struct fs))
    (hz : zeroOf P t = some zero) (hall : fs.all (fun f => (szOf P f.type).isSome) = true)
    (hp : parts.toList.mapM (fun (p : Nat × Operand) => do let f ← fs[p.1]?; let n ← szOf P f.type; pure (f.offset, n, ← cOpd p.2)) = some ps) : Sound P o (.build zero ps) := by
  intro N W0 W ρ l vs a K h hR hE
  obtain ⟨i, z, hi, hz', hd⟩ := qgq hz
  simp only [vop] at h
  split at h
  · rename_i cs hcs
    split at h
    · have hall' : ∀ f ∈ fs.toList, (szOf P f.type).isSome = true := by
        intro f hf
        rw [Array.all_eq_true'] at hall
        exact hall f (by simpa using hf)
      have hpl : parts.toList.mapM (fun (p : Nat × Operand) => do let pl ← (fun i => (fs.toList.map fun f => (f.offset, (szOf P f.type).getD 0))[i]?) p.1; pure (pl.1, pl.2, ← cOpd p.2)) = some ps := by
        rw [← hp]
        refine List.mapM_congr_opt fun p _ => ?_
        simp only [List.getElem?_map, Array.getElem?_toList]
        cases hf : fs[p.1]? with
        | none => simp
        | some f =>
          have hmem : f ∈ fs.toList := by
            have := Array.mem_of_getElem? hf
            simpa using this
          obtain ⟨n, hn⟩ := Option.isSome_iff_exists.1 (hall' f hmem)
          simp [hn]
      obtain ⟨cells', hfl, hdc⟩ := qzaot hE parts.toList ps zero cs z.cells hpl hcs (hd ρ)
      refine .val (v := .agg cells') (W' := W) (by simp [ho, isDefer]) ?_ (qaf hR h (by simp only [den]; exact ⟨_, rfl, hdc⟩))
      have hplaces := run_places (P := P) (W := W) hall'
      simp only [execOp, ho, Instr.build, Sem.run_bind, qct hi hz', Result.andThen_ok, Sem.run_pure, qab ht, Array.toList_map]
      rw [Array.mapM_eq_mapM_toList]
      simp only [Sem.run_map, hplaces, Result.andThen_ok]
      have e : (fun (x : Nat) => Option.map (fun (f : Field) => (f.offset, (szOf P f.type).getD 0)) fs[x]?) = fun i => (fs.toList.map fun f => (f.offset, (szOf P f.type).getD 0))[i]? := by
        funext x; simp
      have hfl' : Instr.fill (fun (x : Nat) => Option.map (fun (f : Field) => (f.offset, (szOf P f.type).getD 0)) fs[x]?) z.cells (parts.toList.map fun p => (p.1, a.eval p.2)) = some cells' := by
        rw [e]; exact hfl
      simp [hfl']
    · exact h.elim
  · exact h.elim
theorem qzamz {t e : TypeId} {parts : Array (Nat × Operand)} {n len : Nat} {zero : List SV} {ps : List (Nat × Nat × Opd)} (ho : o.op = .build t parts) (ht : P.underlying t = some (.array len e))
    (hz : zeroOf P t = some zero) (hn : szOf P e = some n)
    (hp : parts.toList.mapM (fun (p : Nat × Operand) => do pure (p.1 * n, n, ← cOpd p.2)) = some ps) : Sound P o (.build zero ps) := by
  intro N W0 W ρ l vs a K h hR hE
  obtain ⟨i, z, hi, hz', hd⟩ := qgq hz
  simp only [vop] at h
  split at h
  · rename_i cs hcs
    split at h
    · obtain ⟨cells', hfl, hdc⟩ := qzaot (place := fun i => some (i * n, n)) hE parts.toList ps zero cs z.cells (by rw [← hp]; rfl) hcs (hd ρ)
      refine .val (v := .agg cells') (W' := W) (by simp [ho, isDefer]) ?_ (qaf hR h (by simp only [den]; exact ⟨_, rfl, hdc⟩))
      simp only [execOp, ho, Instr.build, Sem.run_bind, qct hi hz', Result.andThen_ok, Sem.run_pure, qab ht, Array.toList_map, qbb hn, hfl]
    · exact h.elim
  · exact h.elim
theorem qzavf:∀ (n:Nat) (z:List SV),repS n z=(List.replicate n z).flatten
 | 0,_=>rfl
 | n+1,z=>by simp [repS,qhj,qzavf n z,List.replicate_succ]
theorem qzaet {zero:List SV}{z:Array Value}{n sz:Nat}(hd:denL ρ zero z.toList) (hl:zero.length=sz) (h0:sz≠0):
  denL ρ (repS n zero) ((Array.range (n*sz)).map (z[·%z.size]!)).toList:=by
 have hz:z.size=sz:=by have:=qan hd;simp at this;omega
 have hlen:((List.replicate n zero).flatten).length=n*sz:=by simp [hl]
 rw[qzavf];refine qcx (by simp [hlen]) λq x hx=>?_;have hq:q<n*sz:=by
  have:=(List.getElem?_eq_some_iff.1 hx).1
  omega
 have hm:q%sz<sz:=Nat.mod_lt _ (by omega);have key:∀ (n q:Nat),q<n*sz->((List.replicate n zero).flatten)[q]?=zero[q%sz]?:=by
  intro n
  induction n with
  | zero=>intro q h;simp at h
  | succ n ih=>
   intro q h;simp only[List.replicate_succ,List.flatten_cons];by_cases h1:q<sz
   ·rw[List.getElem?_append_left (by omega),Nat.mod_eq_of_lt h1]
   ·have hlt:q-sz<n*sz:=by
     rw[Nat.add_mul,Nat.one_mul] at h;omega
    have e2:(q-sz)%sz=q%sz:=(Nat.mod_eq_sub_mod (by omega)).symm;rw[List.getElem?_append_right (by omega),hl,ih _ hlt,e2]
 rw[key n q hq] at hx;obtain⟨v,hv,d⟩:=qbk _ x hd hx;refine⟨v,?_,d⟩;have hv':z[q%sz]?=some v:=by simpa using hv
 simp [hq,hz,getElem!_def,hv']
theorem qzacz:∀ (parts:List (Nat×Nat×Opd)) (cs out:List SV),fillS vs cs parts=some out->out.length=cs.length
 | [],cs,out,h=>by simp [fillS] at h;rw[h]
 | (off,n,x)::parts,cs,out,h=>by
  simp only[fillS,qrt] at h;split at h
  ·split at h
   ·rw[qzacz parts _ out h,qcu]
   ·cases h
  ·cases h
theorem s_buildS {t e : TypeId} {parts : Array (Nat × Operand)} {n len : Nat} {zero : List SV} {ps : List (Nat × Opd)} (ho : o.op = .buildSlice t len parts) (ht : P.underlying t = some (.slice e))
    (hz : zeroOf P e = some zero) (hn : szOf P e = some n) (h0 : n ≠ 0) (hzl : zero.length = n) (hbig : ¬ len * n > 2 ^ 20)
    (hp : parts.toList.mapM (fun (p : Nat × Operand) => do pure (p.1, ← cOpd p.2)) = some ps) : Sound P o (.buildS n len zero ps) := by
  intro N W0 W ρ l vs a K h hR hE
  obtain ⟨i, z, hi, hz', hd⟩ := qgq hz
  simp only [vop, qbs, qdm] at h
  split at h
  · rename_i cs hcs
    split at h
    · have hp2 : parts.toList.mapM (fun (p : Nat × Operand) => do let pl ← (fun i => some (i * n, n)) p.1; pure (pl.1, pl.2, ← cOpd p.2)) = some (ps.map fun (i, x) => (i * n, n, x)) := by
        clear hcs
        generalize parts.toList = ql at hp
        induction ql generalizing ps with
        | nil => simp at hp; subst hp; simp
        | cons q ql ih =>
          simp only [List.mapM_cons, Option.bind_eq_bind, Option.bind_eq_some_iff, Option.pure_def, Option.some.injEq] at hp ⊢
          obtain ⟨_, ⟨x', hx', rfl⟩, ps', hps, rfl⟩ := hp
          exact ⟨_, ⟨_, rfl, x', hx', rfl⟩, _, ih hps, rfl⟩
      obtain ⟨cells', hfl, hdc⟩ := qzaot (place := fun i => some (i * n, n)) hE parts.toList _ _ cs _ hp2 hcs (qzaet (n := len) (hd ρ) hzl h0)
      have hcl : cs.length = len * n := by
        rw [qzacz _ _ _ hcs, qzavf]
        simp [hzl]
      have hcsz : cells'.size = cs.length := by have := qan hdc; simpa using this.symm
      refine .val (v := .slice (some ⟨W.heap.size, 0, none⟩) len len) (W' := W.alloc (.cells cells' e)) (by simp [ho, isDefer]) ?_
        ⟨_, _, _, h, qox hR _, by simp, hR.newR (cap := len) e (by omega) (by omega) (by omega) (by simp) (fun q x hx => ?_), ?_⟩
      · have hb24 : ¬ len * n > 2 ^ 24 := by omega
        by_cases hln : len * n = 0
        · have hr : Array.range (len * n) = #[] := by rw [hln]; rfl
          rw [hr] at hfl
          have hfl2 : Instr.fill (fun i => some (i * n, n)) #[] (parts.toList.map fun p => (p.1, a.eval p.2)) = some cells' := by simpa using hfl
          simp only [execOp, ho, Instr.buildSlice, Sem.run_bind, qab ht, Result.andThen_ok, qbb hn]
          rw [if_neg hb24]
          simp only [Sem.run_pure]
          rw [if_pos hln]
          simp only [Array.toList_map, hr, List.map_toArray, List.map_nil, hfl2, newRow]
          simp
        · simp only [execOp, ho, Instr.buildSlice, Sem.run_bind, qab ht, Result.andThen_ok, qbb hn]
          rw [if_neg hb24]
          simp only [Sem.run_pure]
          rw [if_neg hln]
          simp only [Sem.run_bind, qct hi hz', Sem.run_pure, Result.andThen_ok, Array.toList_map, hfl]
          simp [newRow]
      · obtain ⟨v, hv, d⟩ := qbk q x hdc hx
        exact ⟨v, by simpa using hv, d⟩
      · simp only [den]
        refine ⟨by simp [Z.v], by simp [Z.v], _, by rw [qam]; exact List.mem_singleton.2 rfl, by simp [Z.v]; omega, ?_⟩
        simp only [SlVal, Z.v]
        exact .inl ⟨len, by simp, by simp, by simp, by simp⟩
    · exact h.elim
  · exact h.elim
end
end Cz
namespace Cz
open Go Go.RowKit
section
variable {P:Program}{N:Nat->Prop}{W0 W:World}{ρ:Nms}{l:List Blk}{vs:List SV}{a:Act}{K:SV->List Blk->Prop}{o:Oper}
theorem zeroV_ok {t:TypeId}{x:SV}(h:zeroV P t=some x):∃ z,(zeroValue t).run P W=.ok z W/\∀ ρ,den ρ x z:=by
 simp only[zeroV,Option.bind_eq_bind,Option.bind_eq_some_iff] at h;obtain⟨i,hi,h⟩:=h;split at h
 ·rename_i cs hz
  simp only[Option.map_eq_some_iff] at h;obtain⟨xs,hxs,rfl⟩:=h;exact⟨_,qct hi hz,λρ=>by simp only[den];exact⟨_,rfl,qus ρ hxs⟩⟩
 ·rename_i v hz
  exact⟨_,qct hi hz,λρ=>cSV_ok h ρ⟩
 ·cases h
theorem qvo (em:Bool):∀ (d:Nat) (t:TypeId) (s:List Kd),sigOf P d t=some s->∀ (m:Nat),d<=m->∀ (x:Value),PairsOk s x.cells.toList x.cells.toList->Made P t x ->
  (Instr.checkKey em m t x).run P W=.ok () W
 | 0,_,_,h,_,_,_,_,_=>by simp [sigOf] at h
 | d+1,t,s,h,m,hm,x,hp,hx=>by
  obtain⟨m,rfl⟩:∃ k,m=k+1:=⟨m-1,by omega⟩;have hm':d<=m:=by omega
  simp only[sigOf] at h;cases hu:P.underlying t with
  | none=>simp [hu] at h
  | some D=>
   rw[hu] at h;cases D<;>simp only[Option.some.injEq,reduceCtorEq] at h
   case bool=>simp [Instr.checkKey,qab hu]
   case int k=>simp [Instr.checkKey,qab hu]
   case string=>simp [Instr.checkKey,qab hu]
   case struct fs=>
    simp only[Made,aggOf,hu,if_true] at hx;obtain⟨xs,rfl⟩:=hx;split at h
    ·cases h
    ·simp only[Value.cells] at hp
     simp only[Instr.checkKey,Sem.run_bind,qab hu,Result.andThen_ok];rw[<-Array.forIn_toList];have key:∀ (fl:List Field) (off:Nat) (sr:List Kd),
       fl.foldr (λ(f:Field) (acc:Nat->Option (List Kd))=>λoff=>do
        let s <-sigOf P d f.type
        if f.name = "_"∨f.offset≠off∨szOf P f.type≠some s.length∨s.length=0 then none else
        let r <-acc (off+s.length)
        pure (s++r)) (λ_=>some []) off=some sr ->
       PairsOk sr (xs.toList.drop off) (xs.toList.drop off) ->
       (forIn fl PUnit.unit (λ(f:Field) (_:PUnit)=>(if f.name≠ "_" then do
        Instr.checkKey em m f.type (<-part f.type xs f.offset)
        pure (ForInStep.yield PUnit.unit) else pure (ForInStep.yield PUnit.unit):Sem (ForInStep PUnit)))).run P W=.ok PUnit.unit W:=by
      intro fl
      induction fl with
      | nil=>intro off sr hsr hpr;simp
      | cons f fl ih=>
       intro off sr hsr hpr;simp only[List.foldr_cons,Option.bind_eq_bind,Option.bind_eq_some_iff] at hsr;obtain⟨s1,hs1,hsr⟩:=hsr;split at hsr
       ·cases hsr
       ·rename_i hcond
        simp only[not_or,Decidable.not_not,ne_eq] at hcond;obtain⟨hnm,hoff,hsz,hs0⟩:=hcond;simp only[Option.bind_eq_some_iff,Option.pure_def,Option.some.injEq] at hsr;obtain⟨r,hr,rfl⟩:=hsr;have hl:=hpr.length;have hsp:=hpr.split;simp only[List.drop_drop] at hsp;simp only[List.length_drop,List.length_append,Array.length_toList] at hl;obtain⟨agg,ha,h1⟩:=qzamy hs1;have hone:=qmm hsp.1;obtain⟨u,hu1,hu2,hu3⟩:∃ v,(part f.type xs f.offset).run P W=.ok v W/\v.cells.toList=(xs.toList.drop off).take s1.length/\Made P f.type v:=by
         rw[hoff];refine qzaey ha hsz (by omega) λhe=>⟨h1 he,λv hv=>hone.1 v ?_⟩;rw[h1 he];refine List.mem_of_getElem? (i:=0) ?_;simpa using hv
        have hrec:=qvo em d f.type s1 hs1 m hm' u (by rw[hu2];exact hsp.1) hu3;have htail:=ih _ _ hr hsp.2;simp only[List.forIn_cons,ne_eq,hnm,not_false_eq_true,if_true,Sem.run_bind,hu1,hrec,Result.andThen_ok,Sem.run_pure];exact htail
     have:=key fs.toList 0 s h (by simpa using hp)
     simp at this ⊢;rw[this];rfl
   case array n e=>
    simp only[Made,aggOf,hu,if_true] at hx;obtain⟨xs,rfl⟩:=hx;simp only[Option.bind_eq_bind,Option.bind_eq_some_iff] at h;obtain⟨s1,hs1,h⟩:=h;split at h
    ·cases h
    ·rename_i hsz0
     have hsz:szOf P e=some s1.length:=Decidable.byContradiction λhh=>hsz0 (.inl hh);have h0:s1.length≠0:=λhh=>hsz0 (.inr hh);simp only[Option.pure_def,Option.some.injEq] at h;subst h;simp only[Value.cells] at hp;simp only[Instr.checkKey,Sem.run_bind,qab hu,Result.andThen_ok];simp only[Std.Legacy.Range.forIn_eq_forIn_range',Std.Legacy.Range.size,Nat.sub_zero,Nat.add_one_sub_one,Nat.div_one];have key:∀ (k j:Nat),PairsOk (List.replicate k s1).flatten (xs.toList.drop (j*s1.length)) (xs.toList.drop (j*s1.length)) ->
       (forIn (List.range' j k) PUnit.unit (λ(i:Nat) (_:PUnit)=>(do
        let n <-Go.sizeOf e
        let p <-part e xs (i*n)
        Instr.checkKey em m e p
        pure (ForInStep.yield PUnit.unit):Sem (ForInStep PUnit)))).run P W=.ok PUnit.unit W:=by
      intro k
      induction k with
      | zero=>intro j hpr;simp
      | succ k ih=>
       intro j hpr;simp only[List.replicate_succ,List.flatten_cons] at hpr;have hl:=hpr.length;have hsp:=hpr.split;simp only[List.drop_drop] at hsp;simp only[List.length_drop,List.length_append,Array.length_toList] at hl;obtain⟨agg,ha,h1⟩:=qzamy hs1;have hone:=qmm hsp.1;obtain⟨u,hu1,hu2,hu3⟩:∃ v,(part e xs (j*s1.length)).run P W=.ok v W/\v.cells.toList=(xs.toList.drop (j*s1.length)).take s1.length/\Made P e v:=by
        refine qzaey ha hsz (by omega) λhe=>⟨h1 he,λv hv=>hone.1 v ?_⟩;rw[h1 he] at hv ⊢;refine List.mem_of_getElem? (i:=0) ?_;simpa using hv
       have hrec:=qvo em d e s1 hs1 m hm' u (by rw[hu2];exact hsp.1) hu3;have hj:j*s1.length+s1.length=(j+1)*s1.length:=by rw[Nat.add_mul,Nat.one_mul]
       rw[hj] at hsp;have htail:=ih (j+1) hsp.2;simp only[List.range'_succ,List.forIn_cons,Sem.run_bind,qbb hsz,hu1,hrec,Result.andThen_ok,Sem.run_pure];exact htail
     have:=key n 0 (by simpa using hp)
     simp at this ⊢;rw[this];rfl
theorem qys {kt:TypeId}{sig:Sg}(hsg:sgOf P kt=some sig) {key zero:SV}{kv:Value}{K:SV->Bool->Prop}(hk:den ρ key kv):∀ (es:List (SV×SV)) (es':List MapEntry) (i:Nat),
  MapRel ρ es es'->vlook (S0 P) sig key K zero es ->
  ∃ res,(Instr.findAsking kt kv es' i).run P W=.ok res W/\(match res with|some (_,val)=>∃ sv,K sv true/\den ρ sv val|none=>K zero false)
 | [],[],i,_,h=>⟨none,by simp [Instr.findAsking],h⟩
 | [],_::_,_,h,_=>by simp [MapRel] at h
 | (_,_)::_,[],_,h,_=>by simp [MapRel] at h
 | (k,v)::es,e::es',i,hm,h=>by
  simp only[vlook] at h;obtain⟨r,hr,h1,h2,_⟩:=veq_ok (W:=W) hsg h hk hm.1;have hrun:(Op.equal kt kv e.key).run P W=.ok r W:=hr _ (by simp [Op.maxDepth]);cases r with
  | true=>exact⟨some (i,e.val),by simp [Instr.findAsking,hrun],v,h1 rfl,hm.2.1⟩
  | false=>
   obtain⟨res,hres,hK⟩:=qys hsg hk es es' (i+1) hm.2.2 (h2 rfl);exact⟨res,by simpa [Instr.findAsking,hrun] using hres,hK⟩
theorem sameNow_ok {kt:TypeId}{D:TypeDesc}(hu:P.underlying kt=some D) {kv ek:Value}{r:Bool}(h:Instr.sameNow D kv ek=some r):(Op.equal kt kv ek).run P W=.ok r W:=by
 unfold Instr.sameNow at h;split at h
 ·split at h
  ·rename_i hk
   subst hk;simp at h;subst h;exact run_equalIn_int W 9999 kt _ _ _ _ hu
  ·cases h
 ·simp at h;subst h
  rw[beq_toListBytes];exact run_equalIn_string W 9999 kt _ _ hu
 ·simp at h;subst h
  exact run_equalIn_bool W 9999 kt _ _ hu
 ·cases h
theorem qzall {kt:TypeId}{D:TypeDesc}(hu:P.underlying kt=some D) {kv:Value}:∀ (es':List MapEntry) (i:Nat) (res:Option (Nat×Value)),Instr.findNow D kv es' i=some res ->
  (Instr.findAsking kt kv es' i).run P W=.ok res W
 | [],i,res,h=>by simp [Instr.findNow] at h;subst h;simp [Instr.findAsking]
 | e::es',i,res,h=>by
  have same:∀ r,Instr.sameNow D kv e.key=some r->(Op.equal kt kv e.key).run P W=.ok r W:=λr hr=>sameNow_ok hu hr;simp only[Instr.findNow] at h;split at h
  ·rename_i hs
   simp at h;subst h;simp [Instr.findAsking,same _ hs]
  ·rename_i hs
   have:=qzall hu es' (i+1) res h
   simp [Instr.findAsking,same _ hs,this]
  ·cases h
theorem qsc {kt:TypeId}{D:TypeDesc}(hu:P.underlying kt=some D) {kv:Value}{es':List MapEntry}{res:Option (Nat×Value)}(h:(Instr.findAsking kt kv es' 0).run P W=.ok res W):
  (Instr.findKey kt kv es').run P W=.ok res W:=by
 simp only[Instr.findKey,Sem.run_bind,qab hu,Result.andThen_ok];cases hn:Instr.findNow D kv es' 0 with
 | none=>simpa using h
 | some r=>
  have:=qzall (W:=W) hu es' 0 r hn
  rw[h] at this;simp at this;simp [this]
theorem qzauh {kt:TypeId}{sig:Sg}{x:SV}{v:Value}(hsg:sgOf P kt=some sig) (h:vkey sig x=true) (hd:den ρ x v) (em:Bool):
  (Instr.checkKey em 10000 kt v).run P W=.ok () W:=by
 simp only[sgOf,Option.bind_eq_bind,Option.bind_eq_some_iff,Option.pure_def,Option.some.injEq] at hsg;obtain⟨s,hs,ag,ha,rfl⟩:=hsg;unfold vkey at h;split at h
 ·rename_i xs hxs
  simp only[Bool.and_eq_true] at h;have dx:=qos hxs hd;have hi:isAg x=ag:=by
   have:=h.1
   cases h1:isAg x<;>cases ag<;>simp [h1] at this ⊢
  exact qvo em 50 kt s hs 10000 (by omega) v (qxx h.2 dx dx) (qzavn ha hi hxs hd)
 ·cases h
theorem s_look {t kt e:TypeId}{m k:Operand}{m' k':Opd}{sig:Sg}{zero:SV}{ok:Bool}(ho:o.op=.lookup t m k ok) (ht:P.underlying t=some (.map kt e)) (hz:zeroV P e=some zero)
  (hsg:sgOf P kt=some sig) (hm:cOpd m=some m') (hk:cOpd k=some k'):Sound P o (.look sig zero ok m' k'):=by
 intro N W0 W ρ l vs a K h hR hE;have hdm:=qbe hE hm;have hdk:=qbe hE hk;obtain⟨z,hzr,hzd⟩:=zeroV_ok (W:=W) hz;have hsg':=hsg;simp only[sgOf,Option.bind_eq_bind,Option.bind_eq_some_iff,Option.pure_def,Option.some.injEq] at hsg;obtain⟨s,hs,ag,ha,rfl⟩:=hsg;have hkt:∃ D,P.underlying kt=some D:=by
  cases hu:P.underlying kt with
  | none=>simp [aggOf,hu] at ha
  | some D=>exact⟨D,rfl⟩
 obtain⟨D,hD⟩:=hkt;have fin:∀ (sv:SV) (f:Bool) (v:Value),(λv f=>K (if ok then .tp [v,ofB f] else v) l) sv f->den ρ sv v ->
   (execOp a.eval o).run P W=.ok (.value (if ok then .tuple #[v,.bool f] else v)) W->OpRuns P o a W (OpPost P N W0 ρ l K):=by
  intro sv f v hK hd hrun;refine .val (by simp [ho,isDefer]) hrun (qaf hR hK ?_);cases ok with
  | true=>
   simp only[if_true,den];refine⟨_,rfl,?_⟩;cases f<;>simp [denL,den,ofB,hd]
  | false=>simpa using hd
 simp only[vop,lk_eq] at h;split at h
 ·rename_i hvk
  have hck:=λem=>qzauh (W:=W) hsg' hvk hdk em;split at h
  ·rename_i b he
   rw[he] at hdm;simp only[den] at hdm;obtain⟨vw,hvw,ad,hb,hve⟩:=hdm;split at h
   ·rename_i es hes
    obtain⟨b0,es',clock,⟨e1,_⟩,hheap,hmr,_⟩:=hR.blk b _ (qas hes (by simp));obtain rfl:=qep e1 hvw;simp at hb;subst hb;have hget:(getObj b0).run P W=.ok (.map es' clock) W:=by simp [getObj,Sem.run,hheap]
    obtain⟨res,hres,hK⟩:=qys (W:=W) hsg' hdk es es'.toList 0 hmr h;have hfind:=qsc hD hres;have hrun:∀ v f,(match res with|some (_,v)=>(v,true)|none=>(z,false))=(v,f)->(execOp a.eval o).run P W=.ok (.value (if ok then .tuple #[v,.bool f] else v)) W:=by
     intro v f hvf;simp only[execOp,ho,Instr.lookup,Sem.run_bind,qab ht,Result.andThen_ok,hve,hget,Sem.run_pure,hck,hfind];cases res with
     | none=>simp at hvf;obtain⟨rfl,rfl⟩:=hvf;simp [hzr]
     | some r=>obtain⟨i,u⟩:=r;simp at hvf;obtain⟨rfl,rfl⟩:=hvf;simp
    cases res with
    | none=>exact fin zero false z hK (hzd ρ) (hrun _ _ rfl)
    | some r=>
     obtain⟨i,u⟩:=r;obtain⟨sv,hKs,hds⟩:=hK;exact fin sv true u hKs hds (hrun _ _ rfl)
   ·exact h.elim
  ·rename_i he
   rw[he] at hdm;simp only[den] at hdm;have hfind:(Instr.findKey kt (a.eval k) []).run P W=.ok none W:=qsc hD (by simp [Instr.findAsking]);refine fin zero false z ?_ (hzd ρ) ?_
   ·cases ok<;>simpa [ofB] using h
   ·simp only[execOp,ho,Instr.lookup,Sem.run_bind,qab ht,Result.andThen_ok,hdm.1,Sem.run_pure,hck,hfind]
    simp [hzr]
  ·exact h.elim
 ·exact h.elim
theorem qzafz:∀ (n:Nat) (s:Kd) (x y:Value),PairOk s x y->eqC x y=true->Instr.sameBits n x y=true
 | n,.kb,_,_,⟨a,b,rfl,rfl⟩,h=>by cases n<;>simpa [eqC,Instr.sameBits] using h
 | n,.ki,_,_,⟨k,a,b,rfl,rfl⟩,h=>by cases n<;>simpa [eqC,Instr.sameBits] using h
 | n,.ks,_,_,⟨a,b,rfl,rfl⟩,h=>by
  have:(a==b)=true:=by rw[beq_toListBytes];simpa [eqC] using h
  cases n<;>simpa [Instr.sameBits] using this
theorem qtj (n:Nat):∀ (ss:List Kd) (xs ys:List Value),PairsOk ss xs ys->eqCs xs ys=true->((xs.zip ys).all λ(x,y)=>Instr.sameBits n x y)=true
 | [],[],[],_,_=>by simp
 | [],[],_::_,h,_=>by simp [PairsOk] at h
 | [],_::_,_,h,_=>by simp [PairsOk] at h
 | _::_,[],_,h,_=>by simp [PairsOk] at h
 | _::_,_::_,[],h,_=>by simp [PairsOk] at h
 | s::ss,x::xs,y::ys,h,he=>by
  simp only[eqCs,Bool.and_eq_true] at he;simp only[List.zip_cons_cons,List.all_cons,Bool.and_eq_true];exact⟨qzafz n s x y h.1 he.1,qtj n ss xs ys h.2 he.2⟩
theorem keyStays {kt:TypeId}{ss:List Kd}{x y:Value}(hp:PairsOk ss x.cells.toList y.cells.toList) (hx:Made P kt x) (hy:Made P kt y) (he:eqCs x.cells.toList y.cells.toList=true):
  (Instr.keyThatStays x y).run P W=.ok y W:=by
 have:Instr.sameBits 10000 x y=true:=by
  unfold Made at hx hy;split at hx
  ·rename_i ha
   simp only[ha,if_true] at hy;obtain⟨c,rfl⟩:=hx;obtain⟨d,rfl⟩:=hy;simp only[Value.cells] at hp he;have hl:=hp.length;simp only[Array.length_toList] at hl
   have:=qtj 9999 ss _ _ hp he
   show (c.size==d.size&&_)=true;simp only[Bool.and_eq_true,beq_iff_eq];exact⟨by omega,this⟩
  ·rename_i ha
   simp only[ha,if_false] at hy;rw[qfu hx,qfu hy] at hp he
   match ss,hp with
   | [s],hp=>
    simp only[eqCs,Bool.and_true] at he;exact qzafz 10000 s x y hp.1 he
   | s::s'::ss,hp=>simp [PairsOk] at hp
 simp [Instr.keyThatStays,this]
theorem MapRel.append:∀ {es fs:List (SV×SV)}{es' fs':List MapEntry},MapRel ρ es es'->MapRel ρ fs fs'->MapRel ρ (es++fs) (es'++fs')
 | [],_,[],_,_,h=>h
 | [],_,_::_,_,h,_=>by simp [MapRel] at h
 | (_,_)::_,_,[],_,h,_=>by simp [MapRel] at h
 | (_,_)::_,_,_::_,_,h,h2=>⟨h.1,h.2.1,MapRel.append h.2.2 h2⟩
theorem PairOk.symm {s:Kd}{x y:Value}(h:PairOk s x y):PairOk s y x:=by
 cases s
 ·obtain⟨a,b,rfl,rfl⟩:=h;exact⟨b,a,rfl,rfl⟩
 ·obtain⟨k,a,b,rfl,rfl⟩:=h;exact⟨k,b,a,rfl,rfl⟩
 ·obtain⟨a,b,rfl,rfl⟩:=h;exact⟨b,a,rfl,rfl⟩
theorem PairsOk.symm:∀ {ss:List Kd}{xs ys:List Value},PairsOk ss xs ys->PairsOk ss ys xs
 | [],[],[],h=>h
 | _::_,_::_,_::_,h=>⟨h.1.symm,PairsOk.symm h.2⟩
theorem eqC_symm {x y:Value}(h:eqC x y=true):eqC y x=true:=by
 unfold eqC at h ⊢;split at h
 ·simp at h;simp [h]
 ·simp at h;simp [h]
 ·simp at h;simp [h]
 ·cases h
theorem qzahu:∀ {xs ys:List Value},eqCs xs ys=true->eqCs ys xs=true
 | [],[],h=>h
 | [],_::_,h=>by simp [eqCs] at h
 | _::_,[],h=>by simp [eqCs] at h
 | x::xs,y::ys,h=>by
  simp only[eqCs,Bool.and_eq_true] at h ⊢;exact⟨eqC_symm h.1,qzahu h.2⟩
theorem MapRel.length:∀ {es:List (SV×SV)}{es':List MapEntry},MapRel ρ es es'->es.length=es'.length
 | [],[],_=>rfl
 | [],_::_,h=>by simp [MapRel] at h
 | (_,_)::_,[],h=>by simp [MapRel] at h
 | (_,_)::es,_::es',h=>by simp [MapRel.length h.2.2]
theorem qzaad {α:Type}(f:α->α) (y:α) (ys:List α):∀ xs:List α,(xs++y::ys).modify xs.length f=xs++f y::ys
 | []=>by simp
 | x::xs=>by simp [qzaad f y ys xs]
theorem vmupd_ok {kt:TypeId}{sig:Sg}(hsg:sgOf P kt=some sig) {key val:SV}{kv vv:Value}{K:List (SV×SV)->Prop}(hk:den ρ key kv) (hv:den ρ val vv):
  ∀ (acc es:List (SV×SV)) (acc' es':List MapEntry),MapRel ρ acc acc'->MapRel ρ es es'->vmupd (S0 P) sig key val K acc es ->
  ∃ res,(Instr.findAsking kt kv es' acc'.length).run P W=.ok res W /\
   (match res with
    | none=>∀ born,∃ out,K out/\MapRel ρ out (acc'++es'++[{ key:=kv,val:=vv,born:=born }])
    | some (i,_)=>∃ e,(acc'++es')[i]?=some e/\(Instr.keyThatStays e.key kv).run P W=.ok kv W/\∃ out,K out/\MapRel ρ out ((acc'++es').modify i λe=>{ e with key:=kv,val:=vv }))
 | acc,[],acc',[],ha,_,h=>⟨none,by simp [Instr.findAsking],λborn=>⟨_,h,by simpa using MapRel.append ha (fs:=[(key,val)]) (fs':=[{ key:=kv,val:=vv,born:=born }]) ⟨hk,hv,trivial⟩⟩⟩
 | _,[],_,_::_,_,h,_=>by simp [MapRel] at h
 | _,(_,_)::_,_,[],_,h,_=>by simp [MapRel] at h
 | acc,(k,u)::es,acc',e::es',ha,hm,h=>by
  simp only[vmupd] at h;obtain⟨r,hr,h1,h2,hp,mx,my,hreq⟩:=veq_ok (W:=W) hsg h hk hm.1;have hrun:(Op.equal kt kv e.key).run P W=.ok r W:=hr _ (by simp [Op.maxDepth]);cases r with
  | true=>
   refine⟨some (acc'.length,e.val),by simp [Instr.findAsking,hrun],e,by simp,keyStays hp.symm my mx (qzahu hreq.symm),_,h1 rfl,?_⟩
   have:(acc'++e::es').modify acc'.length (λe=>{ e with key:=kv,val:=vv })=acc'++{ e with key:=kv,val:=vv }::es':=by
    exact qzaad _ _ _ _
   rw[this];exact MapRel.append ha ⟨hk,hv,hm.2.2⟩
  | false=>
   have ih:=vmupd_ok hsg hk hv (acc++[(k,u)]) es (acc'++[e]) es' (MapRel.append ha ⟨hm.1,hm.2.1,trivial⟩) hm.2.2 (h2 rfl);obtain⟨res,hres,hK⟩:=ih;refine⟨res,?_,?_⟩
   ·simp at hres
    simpa [Instr.findAsking,hrun] using hres
   ·simpa [List.append_assoc] using hK
theorem qzatj {es:Array MapEntry}{clock:Nat}{k v:Value}(h:Born es clock):Born (es.push { key:=k,val:=v,born:=clock }) (clock+1):=by
 obtain⟨h1,h2⟩:=h;refine⟨by simp [h1],λi e he=>?_⟩;rw[Array.getElem?_push] at he;split at he
 ·rename_i hi
  simp only[Option.some.injEq] at he;subst he;simp [hi,h1]
 ·exact h2 i e he
theorem born_mod {es:Array MapEntry}{clock i:Nat}{k v:Value}(h:Born es clock):Born (es.modify i λe=>{ e with key:=k,val:=v }) clock:=by
 obtain⟨h1,h2⟩:=h;refine⟨by simp [h1],λj e he=>?_⟩;rw[Array.getElem?_modify] at he;split at he
 ·cases hj:es[j]? with
  | none=>rw[hj] at he;cases he
  | some e0=>
   rw[hj] at he;simp only[Option.map_some,Option.some.injEq] at he;subst he;exact h2 j e0 hj
 ·exact h2 j e he
theorem s_mupd {t kt e:TypeId}{m k x:Operand}{m' k' x':Opd}{sig:Sg}(ho:o.op=.mapUpdate t m k x∨o.op=.insert t m k x) (ht:P.underlying t=some (.map kt e))
  (hsg:sgOf P kt=some sig) (hm:cOpd m=some m') (hk:cOpd k=some k') (hx:cOpd x=some x'):Sound P o (.mupd sig m' k' x'):=by
 intro N W0 W ρ l vs a K h hR hE;have hdm:=qbe hE hm;have hdk:=qbe hE hk;have hdx:=qbe hE hx;have hsg':=hsg;simp only[sgOf,Option.bind_eq_bind,Option.bind_eq_some_iff,Option.pure_def,Option.some.injEq] at hsg;obtain⟨s,hs,ag,ha,rfl⟩:=hsg;have hkt:∃ D,P.underlying kt=some D:=by
  cases hu:P.underlying kt with
  | none=>simp [aggOf,hu] at ha
  | some D=>exact⟨D,rfl⟩
 obtain⟨D,hD⟩:=hkt;have hex:(execOp a.eval o).run P W=((Instr.mapUpdate t (a.eval m) (a.eval k) (a.eval x)).run P W).andThen λ_ w=>.ok .skip w:=by
  rcases ho with ho|ho<;>simp [execOp,ho]
 have hdf:isDefer o.op=false:=by rcases ho with ho|ho<;>simp [ho,isDefer]
 simp only[vop,mu_eq] at h;split at h
 ·rename_i hvk
  have hck:=λem=>qzauh (W:=W) hsg' hvk hdk em;split at h
  ·rename_i b he
   rw[he] at hdm;simp only[den] at hdm;obtain⟨vw,hvw,ad,hb,hve⟩:=hdm;split at h
   ·rename_i es hes
    have hkB:=qas hes (by simp);obtain⟨b0,es',clock,⟨e1,hNb⟩,hheap,hmr,hbo⟩:=hR.blk b _ hkB;obtain rfl:=qep e1 hvw;simp at hb;subst hb;have hget:(getObj b0).run P W=.ok (.map es' clock) W:=by simp [getObj,Sem.run,hheap]
    have hset:∀ ob,(setObj b0 ob).run P W=.ok () (setO W b0 ob):=λob=>by simp [setObj,Sem.run,hheap,setO]
    obtain⟨res,hres,hK⟩:=vmupd_ok (W:=W) hsg' hdk hdx [] es [] es'.toList trivial hmr h;have hfind:=qsc hD hres;have hlt:=qbf hheap;have hup:upd ρ b (ρ b)=ρ:=qdf;have turn:∀ (out:List (SV×SV)) (es2:Array MapEntry) (clock2:Nat),MapRel ρ out es2.toList->Born es2 clock2->Rel P N W0 ρ (l.set b (.m out)) (setO W b0 (.map es2 clock2)):=by
     intro out es2 clock2 hm2 hb2;rw[<-hup];refine hR.turn hkB rfl ?_ (by rw[qar];exact Nat.le_refl _) ?_ (λ_ hv=>hv) ?_ ?_
     ·exact hR.below.trans ⟨rfl,rfl,rfl,by rw[qar];exact Nat.le_refl _,λj hj=>qat (λe=>hj (by subst e;first|exact hNb|exact hN|assumption))⟩
     ·intro i _ hi
      exact qat (λhib=>hi _ (by rw[e1];exact List.mem_singleton.2 rfl) _ rfl hib.symm)
     ·intro vw hvw' a' ha'
      exact⟨by rw[qar];exact hR.ids b vw a' hvw' ha',.inr ⟨vw,hvw',a',ha',rfl⟩⟩
     ·rw[hup]
      exact⟨b0,es2,clock2,⟨e1,hNb⟩,qbr hlt,hm2,hb2⟩
    cases res with
    | none=>
     obtain⟨out,hKo,hmo⟩:=hK clock;simp only[List.nil_append] at hmo;rw[qbj] at hKo;refine .unit hdf (W':=setO W b0 (.map (es'.push { key:=a.eval k,val:=a.eval x,born:=clock }) (clock+1))) ?_
      ⟨ρ,.un,_,hKo,Le.refl _ _,by simp,turn out _ _ (by simpa using hmo) (qzatj hbo),by simp [den]⟩
     rw[hex];simp only[Instr.mapUpdate,Sem.run_bind,qab ht,Result.andThen_ok,hve,hget,hck,hfind,hset]
    | some r=>
     obtain⟨i,u⟩:=r;obtain⟨en,hen,hst,out,hKo,hmo⟩:=hK;simp only[List.nil_append] at hmo hen;rw[qbj] at hKo;have hen':es'[i]?=some en:=by simpa using hen
     refine .unit hdf (W':=setO W b0 (.map (es'.modify i λe=>{ e with key:=a.eval k,val:=a.eval x }) clock)) ?_
      ⟨ρ,.un,_,hKo,Le.refl _ _,by simp,turn out _ _ (by simpa using hmo) (born_mod hbo),by simp [den]⟩
     rw[hex];simp only[Instr.mapUpdate,Sem.run_bind,qab ht,Result.andThen_ok,hve,hget,hck,hfind,hen',Option.map_some,Option.getD_some,hst,hset]
   ·exact h.elim
  ·exact h.elim
 ·exact h.elim
end
end Cz
namespace Cz
open Go Go.RowKit
section
variable {P:Program}{N:Nat->Prop}{W0 W:World}{ρ:Nms}{l:List Blk}{vs:List SV}{a:Act}{o:Oper}
theorem zv_l {n:Int}:(Z.l n).v=n:=rfl
theorem zv_y {n:Int}:(Z.y n).v=n:=rfl
theorem s_cvSS {t u:TypeId}{x:Operand}{x':Opd}(ho:o.op=.convert t u x) (ht:P.underlying t=some .string) (hu:P.underlying u=some .string) (hx:cOpd x=some x'):Sound P o (.cvSS x'):=by
 intro N W0 W ρ l vs a K h hR hE;have hd:=qbe hE hx;simp only[vop] at h;split at h
 ·rename_i s he
  rw[he] at hd;simp only[den] at hd;exact .val (v:=a.eval x) (W':=W) (by simp [ho,isDefer]) (by simp [execOp,ho,convert,qab ht,qab hu,hd]) (qaf hR h (by simp only[den];exact hd))
 ·exact h.elim
theorem s_ixS {t:TypeId}{x i:Operand}{x' i':Opd}(ho:o.op=.index t x i) (ht:P.underlying t=some .string) (hx:cOpd x=some x') (hi:cOpd i=some i'):Sound P o (.ixS x' i'):=by
 intro N W0 W ρ l vs a K h hR hE;have hdx:=qbe hE hx;have hdi:=qbe hE hi;simp only[vop] at h;split at h
 ·rename_i s z he hz
  rw[he] at hdx;simp only[den] at hdx;obtain⟨ki,hvi⟩:=qdz hz hdi;obtain⟨h1,h⟩:=qbl h;obtain⟨h2,h⟩:=qzakq h
  replace h1:0<=z.v:=h1
  replace h2:z.v<(s.length:Int):=h2
  have hlt:z.v.toNat<s.length:=by omega
  have hget:(ByteArray.mk s.toArray)[z.v.toNat]?=some (s[z.v.toNat]):=by
   rw[getElem?_eq_some_iff];exact⟨by show z.v.toNat<s.toArray.size;simpa using hlt,by show s.toArray[z.v.toNat]=_;simp⟩
  refine .val (v:=.int .u8 (s[z.v.toNat]).toNat) (W':=W) (by simp [ho,isDefer]) ?_ (qaf hR h ?_)
  ·simp only[execOp,ho,Instr.index,hvi,hdx,asIntOf,Sem.run_bind,Sem.run_pure,Result.andThen_ok,qab ht]
   rw[if_pos h1,hget];rfl
  ·simp only[den,zv_y]
   show _=Value.int .u8 ((s.getD z.v.toNat 0).toNat:Int);rw[List.getD_eq_getElem?_getD,List.getElem?_eq_getElem hlt];rfl
 ·exact h.elim
theorem qzagc {x:Value}{k:IntKind}{z:Int}{y:Nat}{code:BoundsCode}(hx:x=.int k z) (h0:0<=z) (h1:z<=y):(Instr.sliceBound x y code).run P W=.ok z.toNat W:=by
 subst hx;simp only[Instr.sliceBound,asIntOf,Sem.run_bind,Sem.run_pure,Result.andThen_ok];rw[if_pos ⟨h0,h1⟩];rfl
theorem qow {x:Option Operand}{x':Option Opd}{d z:Z}(hE:EnvOk ρ vs a.tmps) (hx:cOpt x=some x') (hz:optZ vs d x'=some z):
  (x=none/\z=d)∨∃ y k,x=some y/\a.eval y=.int k z.v:=by
 cases x with
 | none=>
  simp only[cOpt,Option.some.injEq] at hx;subst hx;simp only[optZ,Option.some.injEq] at hz;exact .inl ⟨rfl,hz.symm⟩
 | some y=>
  simp only[cOpt,Option.map_eq_some_iff] at hx;obtain⟨y',hy,rfl⟩:=hx;simp only[optZ] at hz;obtain⟨k,hk⟩:=qdz hz (qbe hE hy);exact .inr ⟨y,k,rfl,hk⟩
theorem qmk {isS:Bool}{len cap:Nat}{lo hi mx:Option Operand}{za zb:Z}{m:Nat}(hab:za.v<=zb.v) (h0:0<=za.v) (hlc:len<=cap)
  (hlo:(lo=none/\za=.l 0)∨∃ y k,lo=some y/\a.eval y=.int k za.v)
  (hhi:(hi=none/\zb.v=len/\mx=none)∨∃ y k,hi=some y/\a.eval y=.int k zb.v)
  (hmx:(mx=none/\m=cap)∨∃ y k,mx=some y/\a.eval y=.int k (m:Int)/\m<=cap) (hbm:zb.v<=m):
  (Instr.sliceBounds isS len cap (lo.map a.eval) (hi.map a.eval) (mx.map a.eval)).run P W=.ok (za.v.toNat,zb.v.toNat,m) W:=by
 have elo:∀ (y:Operand) (k:IntKind) (code:BoundsCode),a.eval y=.int k za.v->(Instr.sliceBound (a.eval y) zb.v.toNat code).run P W=.ok za.v.toNat W:=
  λy k code e=>qzagc e h0 (by omega)
 have ehi:∀ (y:Operand) (k:IntKind) (code:BoundsCode),a.eval y=.int k zb.v->(Instr.sliceBound (a.eval y) m code).run P W=.ok zb.v.toNat W:=
  λy k code e=>qzagc e (by omega) hbm
 have emx:∀ (y:Operand) (k:IntKind) (code:BoundsCode),a.eval y=.int k (m:Int)->m<=cap->(Instr.sliceBound (a.eval y) cap code).run P W=.ok m W:=
  λy k code e hm=>by simpa using qzagc (P:=P) (W:=W) (code:=code) e (by omega) (by omega:(m:Int)<=cap)
 rcases hmx with ⟨rfl,rfl⟩|⟨ym,km,rfl,hm,hmc⟩
 ·rcases hhi with ⟨rfl,hb,_⟩|⟨yh,kh,rfl,hh⟩
  ·have hbn:zb.v.toNat=len:=by omega
   rcases hlo with ⟨rfl,rfl⟩|⟨yl,kl,rfl,hl⟩
   ·simp [Instr.sliceBounds,hbn,zv_l,pure]
   ·have:=elo yl kl .sliceB hl
    rw[hbn] at this;simp [Instr.sliceBounds,this,hbn]
  ·rcases hlo with ⟨rfl,rfl⟩|⟨yl,kl,rfl,hl⟩
   ·cases isS<;>simp [Instr.sliceBounds,ehi yh kh _ hh,zv_l]
   ·cases isS<;>simp [Instr.sliceBounds,ehi yh kh _ hh,elo yl kl _ hl]
 ·rcases hhi with ⟨rfl,hb,hn⟩|⟨yh,kh,rfl,hh⟩
  ·cases hn
  ·rcases hlo with ⟨rfl,rfl⟩|⟨yl,kl,rfl,hl⟩
   ·cases isS<;>simp [Instr.sliceBounds,emx ym km _ hm hmc,ehi yh kh _ hh,zv_l]
   ·cases isS<;>simp [Instr.sliceBounds,emx ym km _ hm hmc,ehi yh kh _ hh,elo yl kl _ hl]
theorem s_slcS {t : TypeId} {x : Operand} {x' : Opd} {lo hi mx : Option Operand} {lo' hi' : Option Opd} (ho : o.op = .slice t x lo hi mx) (hm : mx = none) (ht : P.underlying t = some .string) (hx : cOpd x = some x')
    (hlo : cOpt lo = some lo') (hhi : cOpt hi = some hi') : Sound P o (.slcS x' lo' hi') := by
  intro N W0 W ρ l vs a K h hR hE
  have hdx := qbe hE hx
  subst hm
  simp only [vop] at h
  split at h
  · rename_i s he
    rw [he] at hdx
    simp only [den] at hdx
    split at h
    · rename_i za zb hza hzb
      obtain ⟨h1, h⟩ := qbl h
      obtain ⟨h2, h⟩ := qbl h
      obtain ⟨h3, h⟩ := qbl h
      replace h1 : 0 ≤ za.v := h1
      replace h3 : zb.v ≤ (s.length : Int) := h3
      have hsz : (ByteArray.mk s.toArray).size = s.length := by show s.toArray.size = s.length; simp
      have hb := qmk (P := P) (W := W) (a := a) (isS := false) (len := s.length) (cap := s.length) (lo := lo) (hi := hi) (mx := none) (m := s.length) h2 h1 (Nat.le_refl _) (qow hE hlo hza)
        (by rcases qow hE hhi hzb with ⟨e1, e2⟩ | r
            · exact .inl ⟨e1, by rw [e2]; rfl, rfl⟩
            · exact .inr r) (.inl ⟨rfl, rfl⟩) h3
      refine .val (v := .string ((ByteArray.mk s.toArray).extract za.v.toNat zb.v.toNat)) (W' := W) (by simp [ho, isDefer]) ?_ (qaf hR h ?_)
      · simp only [Option.map_none] at hb
        simp [execOp, ho, Instr.sliceAt, Instr.slice, hdx, qab ht, hsz, hb]
      · simp only [den, S0]
        congr 1
        apply ByteArray.ext
        show (ByteArray.extract _ _ _).data = _
        rw [ByteArray.data_extract]
        apply Array.ext'
        have : za.v.toNat + (zb.v.toNat - za.v.toNat) = zb.v.toNat := by omega
        simp [List.take_drop, this]
    · exact h.elim
  · exact h.elim
theorem vpart_den {lit:Bool}{n:Nat}{F:List SV}{za zl:Z}{v:Value}:den ρ (vpart (S0 P) lit n F za zl) v↔den ρ (.v false n ((F.drop (za.v.toNat*n)).take (zl.v.toNat*n)) zl) v:=by
 unfold vpart;split
 ·simp only[den,qiv,qey,Z.v]
 ·rfl
theorem v_part {lit:Bool}{n:Nat}{F:List SV}{ln za zb zl:Z}{b0:Option Addr}{C m:Nat}(hd:den ρ (.v lit n F ln) (.slice b0 ln.v.toNat C)) (h1:0<=za.v) (h2:za.v<=zb.v) (h3:zb.v<=ln.v) (hl:zl.v=zb.v-za.v)
  (hm:zb.v<=m) (hmC:m<=C):den ρ (vpart (S0 P) lit n F za zl) (.slice (if m=za.v.toNat then b0 else b0.map (·.add (za.v.toNat*n))) (zb.v.toNat-za.v.toNat) (m-za.v.toNat)):=by
 rw[vpart_den];simp only[den] at hd ⊢;obtain⟨g0,g1,g2,g3,g4⟩:=hd;have e2:zl.v.toNat=zb.v.toNat-za.v.toNat:=by omega
 have hle:za.v.toNat*n+zl.v.toNat*n<=F.length:=by
  rw[<-g2,<-Nat.add_mul];exact Nat.mul_le_mul_right n (by omega)
 refine⟨by omega,g1,by simp;omega,qzavh _ _ g3,?_⟩;rcases g4 with ⟨b,o,c,e,hc,hb,hF⟩|⟨e0,a,e⟩
 ·simp only[Value.slice.injEq] at e
  obtain⟨rfl,_,rfl⟩:=e;by_cases hma:m=za.v.toNat
  ·refine .inr ⟨by omega,?_⟩
   rw[if_pos hma];exact⟨_,by rw[show zb.v.toNat-za.v.toNat=0 by omega,show m-za.v.toNat=0 by omega]⟩
  ·refine .inl ⟨b,o+za.v.toNat*n,m-za.v.toNat,?_,by omega,hb,qzatf _ _ hF⟩
   rw[if_neg hma];simp only[Option.map_some,qbu];rw[e2]
 ·simp only[Value.slice.injEq] at e
  obtain⟨rfl,_,rfl⟩:=e;refine .inr ⟨by omega,?_⟩;have hm0:m=0:=by omega
  rw[if_pos (by omega)];exact⟨_,by rw[show zb.v.toNat-za.v.toNat=0 by omega,show m-za.v.toNat=0 by omega]⟩
theorem room_ok {vw:View}{sz off:Nat}{a b:Option Z}{ln:Z}{cap:Option Z}{v:Value}(hin:(off+ln.v.toNat)*sz<=vw.n) (hs:SlVal vw sz off ln.v.toNat (cap.map Z.v) v):SlVal vw sz off ln.v.toNat ((roomC a b ln cap).map Z.v) v:=by
 unfold roomC;split
 ·rename_i n
  split
  ·rename_i hn
   replace hn:0<n:=hn
   have e:(Z.l n).v=n:=rfl;rw[e] at hs hin ⊢;simp only[Option.map_none] at hs;simp only[Option.map_some];unfold SlVal at hs ⊢;cases hb:vw.base with
   | none=>rw[hb] at hs;exact absurd hs.2.1 (by omega)
   | some ad=>
    rw[hb] at hs;rcases hs with ⟨c,e,q1,q2,q3⟩|⟨q1,_⟩
    ·refine .inl ⟨c,e,q1,q2,.inr ⟨?_,q3,?_,?_⟩⟩
     ·show -1-n<0;omega
     ·show -1-(-1-n)<=(c:Int);omega
     ·show (off+(-1-(-1-n)).toNat)*sz<=vw.n
      rw[show (-1-(-1-n)).toNat=n.toNat by omega];exact hin
    ·omega
  ·exact hs
 ·exact hs
theorem s_slc {t e : TypeId} {n : Nat} {x : Operand} {x' : Opd} {lo hi mx : Option Operand} {lo' hi' mx' : Option Opd} (ho : o.op = .slice t x lo hi mx) (ht : P.underlying t = some (.slice e)) (hn : szOf P e = some n)
    (hx : cOpd x = some x') (hlo : cOpt lo = some lo') (hhi : cOpt hi = some hi') (hmx : cOpt mx = some mx') (hhn : mx' ≠ none → hi ≠ none) : Sound P o (.slc n x' lo' hi' mx') := by
  intro N W0 W ρ l vs a K h hR hE
  have hdx := qbe hE hx
  have run : ∀ (b : Option Addr) (ln cp : Nat) (za zb : Z) (m : Nat), a.eval x = .slice b ln cp →
      (Instr.sliceBounds true ln cp (lo.map a.eval) (hi.map a.eval) (mx.map a.eval)).run P W = .ok (za.v.toNat, zb.v.toNat, m) W →
      (execOp a.eval o).run P W = .ok (.value (.slice (if m = za.v.toNat then b else b.map (·.add (za.v.toNat * n))) (zb.v.toNat - za.v.toNat) (m - za.v.toNat))) W := by
    intro b ln cp za zb m e1 e2
    simp [execOp, ho, Instr.sliceAt, Instr.slice, e1, qab ht, e2, qbb hn]
  simp only [vop] at h
  split at h
  · -- a slice
    rename_i k sz' off ln cap he
    rw [he] at hdx
    split at h
    case isFalse => exact h.elim
    rename_i hsz
    subst hsz
    simp only [den] at hdx
    obtain ⟨ho0, hl0, vw, hvw, hin, hsv⟩ := hdx
    replace hsv := room_ok (a := optZ vs (.l 0) lo') (b := optZ vs ln hi') hin hsv
    generalize roomC (optZ vs (.l 0) lo') (optZ vs ln hi') ln cap = cap at h hsv
    have fin : ∀ (za zb : Z) (zm : Option Z), optZ vs (.l 0) lo' = some za → optZ vs ln hi' = some zb → 0 ≤ za.v → za.v ≤ zb.v → zb.v ≤ ln.v → cap = none →
        ((mx' = none ∧ zm = none) ∨ ∃ y z, mx' = some y ∧ intZ (ev vs y) = some z ∧ zm = some z ∧ zb.v ≤ z.v ∧ z.v ≤ ln.v) →
        K (.sl k n (zadd (S0 P) off za) (zsub (S0 P) zb za) (zm.map fun z => zsub (S0 P) z za)) l → OpRuns P o a W (OpPost P N W0 ρ l K) := by
      intro za zb zm hza hzb h1 h2 h3 hc hm hK
      subst hc
      -- what the slice is
      have hshape : ∃ b0 C, a.eval x = .slice b0 ln.v.toNat C ∧ ln.v.toNat ≤ C := by
        unfold SlVal at hsv
        split at hsv
        · obtain ⟨_, h5, a', e⟩ := hsv; exact ⟨a', 0, by rw [e, h5], by omega⟩
        · rcases hsv with ⟨c, e, h5, _⟩ | ⟨h5, ⟨a', e⟩, _⟩
          · exact ⟨_, c, e, h5⟩
          · exact ⟨a', 0, by rw [e, h5], by omega⟩
      obtain ⟨b0, C, hv, hLC⟩ := hshape
      -- the capacity's bound
      have hmm : ∃ m : Nat, zb.v ≤ m ∧ m ≤ C ∧ ((mx = none ∧ m = C) ∨ ∃ y k, mx = some y ∧ a.eval y = .int k (m : Int) ∧ m ≤ C) ∧
          (zm = none → m = C) ∧ (∀ z, zm = some z → (m : Int) = z.v ∧ m ≤ ln.v.toNat) ∧ (mx = none ∨ hi ≠ none ∨ True) := by
        rcases hm with ⟨e1, e2⟩ | ⟨y, z, e1, e2, e3, h4, h5⟩
        · subst e1
          have : mx = none := by
            cases mx with
            | none => rfl
            | some y => simp [cOpt] at hmx
          exact ⟨C, by omega, Nat.le_refl _, .inl ⟨this, rfl⟩, fun _ => rfl, (fun z hz => by rw [e2] at hz; cases hz), .inr (.inr trivial)⟩
        · subst e1
          cases mx with
          | none => simp [cOpt] at hmx
          | some y0 =>
            simp only [cOpt, Option.map_eq_some_iff, Option.some.injEq] at hmx
            obtain ⟨y1, hy1, rfl⟩ := hmx
            obtain ⟨kk, hkk⟩ := qdz e2 (qbe hE hy1)
            have e5 : ((z.v.toNat : Nat) : Int) = z.v := Int.toNat_of_nonneg (by omega)
            refine ⟨z.v.toNat, by omega, by omega, .inr ⟨y0, kk, rfl, by rw [e5]; exact hkk, by omega⟩, (fun e => by rw [e3] at e; cases e), fun z' hz' => ?_, .inr (.inr trivial)⟩
            rw [e3] at hz'; simp at hz'; subst hz'
            exact ⟨e5, by omega⟩
      obtain ⟨m, hbm, hmC, hmx2, hmn, hms, _⟩ := hmm
      have hhi2 : (hi = none ∧ zb.v = ln.v.toNat ∧ mx = none) ∨ ∃ y k, hi = some y ∧ a.eval y = .int k zb.v := by
        rcases qow hE hhi hzb with ⟨e1, e2⟩ | r
        · rcases hm with ⟨e3, e4⟩ | ⟨y, z, e3, _⟩
          · have : mx = none := by
              subst e3
              cases mx with
              | none => rfl
              | some y => simp [cOpt] at hmx
            exact .inl ⟨e1, by rw [e2]; omega, this⟩
          · exact absurd e1 (hhn (by rw [e3]; simp))
        · exact .inr r
      have hb := qmk (P := P) (W := W) (a := a) (isS := true) (len := ln.v.toNat) (cap := C) (lo := lo) (hi := hi) (mx := mx) (m := m) h2 h1 hLC (qow hE hlo hza) hhi2 hmx2 hbm
      refine .val (by simp [ho, isDefer]) (run b0 _ C za zb m hv hb) (qaf hR hK ?_)
      have eoff : (zadd (S0 P) off za).v = off.v + za.v := qpt _ _
      have elen : (zsub (S0 P) zb za).v = zb.v - za.v := qzacf _ _
      have e1 : (off.v + za.v).toNat = off.v.toNat + za.v.toNat := Int.toNat_add ho0 h1
      have e2 : (zb.v - za.v).toNat = zb.v.toNat - za.v.toNat := by omega
      simp only [den]
      rw [eoff, elen, e1, e2]
      refine ⟨by omega, by omega, vw, hvw, Nat.le_trans (Nat.mul_le_mul_right n (by omega)) hin, ?_⟩
      have ecap : ∀ z', (zm.map fun z => zsub (S0 P) z za).map Z.v = some z' → z' = (m : Int) - za.v := by
        intro z' hz'
        cases zm with
        | none => simp at hz'
        | some z => simp only [Option.map_some, Option.some.injEq] at hz'; rw [← hz', qzacf, ← (hms z rfl).1]
      have ecn : (zm.map fun z => zsub (S0 P) z za).map Z.v = none → m = C := by
        intro hz'
        cases zm with
        | none => exact hmn rfl
        | some z => simp at hz'
      unfold SlVal at hsv ⊢
      cases hbase : vw.base with
      | none =>
        rw [hbase] at hsv
        obtain ⟨q1, q2, a', q3⟩ := hsv
        rw [q3] at hv
        simp only [Value.slice.injEq] at hv
        obtain ⟨rfl, _, rfl⟩ := hv
        have hz : za.v.toNat = 0 := by omega
        have hm0 : m = 0 := by omega
        refine ⟨⟨by omega, fun z' hz' => by have := ecap z' hz'; omega⟩, by omega, a', ?_⟩
        rw [if_pos (by omega), hm0, hz]
        congr 1
        omega
      | some ad =>
        rw [hbase] at hsv
        by_cases hma : m = za.v.toNat
        · rw [if_pos hma]
          refine .inr ⟨by omega, ⟨b0, ?_⟩, fun z' hz' => ?_⟩
          · rw [show zb.v.toNat - za.v.toNat = 0 by omega, show m - za.v.toNat = 0 by omega]
          · have := ecap z' hz'; omega
        · rw [if_neg hma]
          rcases hsv with ⟨c, q1, q2, q3, q4⟩ | ⟨q1, ⟨a', q2⟩, _⟩
          · rw [q1] at hv
            simp only [Value.slice.injEq] at hv
            obtain ⟨rfl, _, rfl⟩ := hv
            refine .inl ⟨m - za.v.toNat, ?_, by omega, by omega, ?_⟩
            · simp only [Option.map_some, qbu]
              congr 3
              rw [Nat.add_mul, Nat.add_assoc]
            · cases hcc : (zm.map fun z => zsub (S0 P) z za).map Z.v with
              | none =>
                have := ecn hcc
                simp only [Option.map_none] at q4
                simp only
                omega
              | some z' =>
                have := ecap z' hcc
                simp only
                omega
          · rw [q2] at hv
            simp only [Value.slice.injEq] at hv
            obtain ⟨rfl, _, rfl⟩ := hv
            omega
    have fin2 : ∀ (za zb zc : Z) (zm : Option Z) (zr : Z), optZ vs (.l 0) lo' = some za → optZ vs ln hi' = some zb → cap = some zc → zc.v ≤ -1 → 0 ≤ za.v → za.v ≤ zb.v → zb.v ≤ -1 - zc.v →
        ((mx' = none ∧ zm = none) ∨ ∃ y z, mx' = some y ∧ intZ (ev vs y) = some z ∧ zm = some z ∧ zb.v ≤ z.v ∧ z.v ≤ -1 - zc.v) →
        ((zm = none ∧ zr = zadd (S0 P) zc za) ∨ ∃ z, zm = some z ∧ zr = zsub (S0 P) z za) → K (.sl k n (zadd (S0 P) off za) (zsub (S0 P) zb za) (some zr)) l → OpRuns P o a W (OpPost P N W0 ρ l K) := by
      intro za zb zc zm zr hza hzb hc h0 h1 h2 h3 hm hzr hK
      subst hc
      unfold SlVal at hsv
      cases hbase : vw.base with
      | none =>
        rw [hbase] at hsv
        have := hsv.1.2 zc.v rfl
        omega
      | some ad =>
        rw [hbase] at hsv
        simp only [Option.map_some] at hsv
        have hshape : ∃ b0 C, a.eval x = .slice b0 ln.v.toNat C ∧ ln.v.toNat ≤ C ∧ -1 - zc.v ≤ (C : Int) ∧ ((b0 = some ⟨ad.block, ad.off + off.v.toNat * n, none⟩ ∧ off.v.toNat + C = vw.cap) ∨ C = 0) ∧ (off.v.toNat + (-1 - zc.v).toNat) * n ≤ vw.n := by
          rcases hsv with ⟨c, e, q1, q2, q3⟩ | ⟨q1, ⟨a', e⟩, q2⟩
          · rcases q3 with q3 | ⟨q3, q6, q4, q5⟩
            · exact absurd q3 (by omega)
            · exact ⟨_, c, e, q1, q4, .inl ⟨rfl, q6⟩, q5⟩
          · have := q2 _ rfl
            have e9 : zc.v = -1 := by omega
            refine ⟨a', 0, by rw [e, q1], by omega, by omega, .inr rfl, Nat.le_trans (Nat.mul_le_mul_right n (by omega)) hin⟩
        obtain ⟨b0, C, hv, hLC, hCz, hbb, hfit⟩ := hshape
        obtain ⟨m, hbm, hmC, hmx2, hmn, hms⟩ : ∃ m : Nat, zb.v ≤ m ∧ m ≤ C ∧ ((mx = none ∧ m = C) ∨ ∃ y k, mx = some y ∧ a.eval y = .int k (m : Int) ∧ m ≤ C) ∧ (zm = none → m = C) ∧ (∀ z, zm = some z → (m : Int) = z.v) := by
          rcases hm with ⟨e1, e2⟩ | ⟨y, z, e1, e2, e3, h4, h5⟩
          · subst e1
            have : mx = none := by
              cases mx with
              | none => rfl
              | some y => simp [cOpt] at hmx
            exact ⟨C, by omega, Nat.le_refl _, .inl ⟨this, rfl⟩, fun _ => rfl, fun z hz => by rw [e2] at hz; cases hz⟩
          · subst e1
            cases mx with
            | none => simp [cOpt] at hmx
            | some y0 =>
              simp only [cOpt, Option.map_eq_some_iff, Option.some.injEq] at hmx
              obtain ⟨y1, hy1, rfl⟩ := hmx
              obtain ⟨kk, hkk⟩ := qdz e2 (qbe hE hy1)
              have e5 : ((z.v.toNat : Nat) : Int) = z.v := Int.toNat_of_nonneg (by omega)
              exact ⟨z.v.toNat, by omega, by omega, .inr ⟨y0, kk, rfl, by rw [e5]; exact hkk, by omega⟩, (fun e => by rw [e3] at e; cases e), fun z' hz' => by rw [e3] at hz'; cases hz'; exact e5⟩
        have hhi2 : (hi = none ∧ zb.v = ln.v.toNat ∧ mx = none) ∨ ∃ y k, hi = some y ∧ a.eval y = .int k zb.v := by
          rcases qow hE hhi hzb with ⟨e1, e2⟩ | r
          · rcases hm with ⟨e3, e4⟩ | ⟨y, z, e3, _⟩
            · have : mx = none := by
                subst e3
                cases mx with
                | none => rfl
                | some y => simp [cOpt] at hmx
              exact .inl ⟨e1, by rw [e2]; omega, this⟩
            · exact absurd e1 (hhn (by rw [e3]; simp))
          · exact .inr r
        have hb := qmk (P := P) (W := W) (a := a) (isS := true) (len := ln.v.toNat) (cap := C) (lo := lo) (hi := hi) (mx := mx) (m := m) h2 h1 hLC (qow hE hlo hza) hhi2 hmx2 hbm
        refine .val (by simp [ho, isDefer]) (run b0 _ C za zb m hv hb) (qaf hR hK ?_)
        have eoff : (zadd (S0 P) off za).v = off.v + za.v := qpt _ _
        have elen : (zsub (S0 P) zb za).v = zb.v - za.v := qzacf _ _
        have e1 : (off.v + za.v).toNat = off.v.toNat + za.v.toNat := Int.toNat_add ho0 h1
        have e2 : (zb.v - za.v).toNat = zb.v.toNat - za.v.toNat := by omega
        simp only [den]
        rw [eoff, elen, e1, e2]
        refine ⟨by omega, by omega, vw, hvw, Nat.le_trans (Nat.mul_le_mul_right n (by omega)) hfit, ?_⟩
        have hzv : (zm = none ∧ zr.v = zc.v + za.v) ∨ (zm ≠ none ∧ zr.v = (m : Int) - za.v) := by
          rcases hzr with ⟨g1, g2⟩ | ⟨z, g1, g2⟩
          · exact .inl ⟨g1, by rw [g2]; exact qpt _ _⟩
          · exact .inr ⟨by rw [g1]; simp, by rw [g2, hms z g1]; exact qzacf _ _⟩
        unfold SlVal
        rw [hbase]
        simp only [Option.map_some]
        by_cases hma : m = za.v.toNat
        · rw [if_pos hma]
          refine .inr ⟨by omega, ⟨b0, ?_⟩, fun z' hz' => ?_⟩
          · rw [show zb.v.toNat - za.v.toNat = 0 by omega, show m - za.v.toNat = 0 by omega]
          · simp only [Option.some.injEq] at hz'
            rcases hzv with ⟨g1, g2⟩ | ⟨_, g2⟩
            · have := hmn g1; omega
            · omega
        · rw [if_neg hma]
          rcases hbb with ⟨rfl, q2⟩ | q2
          · refine .inl ⟨m - za.v.toNat, ?_, by omega, by omega, ?_⟩
            · simp only [Option.map_some, qbu]
              congr 3
              rw [Nat.add_mul, Nat.add_assoc]
            · rcases hzv with ⟨g1, g2⟩ | ⟨_, g2⟩
              · have := hmn g1
                refine .inr ⟨by omega, by omega, by omega, Nat.le_trans (Nat.mul_le_mul_right n (by omega)) hfit⟩
              · exact .inl (by omega)
          · omega
    split at h
    · rename_i za zb hza hzb
      obtain ⟨h1, h⟩ := qbl h
      obtain ⟨h2, h⟩ := qbl h
      obtain ⟨h3, h⟩ := qbl h
      exact fin za zb none hza hzb h1 h2 h3 rfl (.inl ⟨rfl, rfl⟩) h
    · rename_i za zb y hza hzb
      split at h
      · rename_i zm hzm
        obtain ⟨h1, h⟩ := qbl h
        obtain ⟨h2, h⟩ := qbl h
        obtain ⟨h3, h⟩ := qbl h
        obtain ⟨h4, h⟩ := qbl h
        exact fin za zb (some zm) hza hzb h1 h2 (by omega) rfl (.inr ⟨y, zm, rfl, hzm, rfl, h3, h4⟩) h
      · exact h.elim
    · rename_i za zb zc hza hzb
      unfold vsl2 at h
      obtain ⟨h0, h⟩ := qbl h
      obtain ⟨h1, h⟩ := qbl h
      obtain ⟨h2, h⟩ := qbl h
      obtain ⟨h3, h⟩ := qbl h
      rw [qzacf] at h3
      exact fin2 za zb zc none _ hza hzb rfl h0 h1 h2 h3 (.inl ⟨rfl, rfl⟩) (.inl ⟨rfl, rfl⟩) h
    · rename_i za zb y zc hza hzb
      split at h
      · rename_i zm hzm
        obtain ⟨h0, h⟩ := qbl h
        obtain ⟨h1, h⟩ := qbl h
        obtain ⟨h2, h⟩ := qbl h
        obtain ⟨h3, h⟩ := qbl h
        obtain ⟨h4, h⟩ := qbl h
        rw [qzacf] at h4
        have h4' : zm.v ≤ -1 - zc.v := h4
        exact fin2 za zb zc (some zm) _ hza hzb rfl h0 h1 h2 (by omega) (.inr ⟨y, zm, rfl, hzm, rfl, h3, h4'⟩) (.inr ⟨zm, rfl, rfl⟩) h
      · exact h.elim
    · exact h.elim
  · -- a row that nobody writes
    rename_i lit sz' F ln he
    rw [he] at hdx
    split at h
    case isFalse => exact h.elim
    rename_i hsz
    subst hsz
    have hshape : ∃ b0 C, a.eval x = .slice b0 ln.v.toNat C ∧ ln.v.toNat ≤ C := by
      simp only [den] at hdx
      obtain ⟨_, _, _, _, ⟨b, o, c, e, hc, _⟩ | ⟨e0, a', e⟩⟩ := hdx
      · exact ⟨_, c, e, hc⟩
      · exact ⟨a', 0, by rw [e, e0]; rfl, by omega⟩
    obtain ⟨b0, C, hv, hLC⟩ := hshape
    have hl0 : 0 ≤ ln.v := by simp only [den] at hdx; exact hdx.1
    have mxn : mx' = none → mx = none := by
      intro e1
      subst e1
      cases mx with
      | none => rfl
      | some y => simp [cOpt] at hmx
    have hin : hi' = none → hi = none := by
      intro e1
      subst e1
      cases hi with
      | none => rfl
      | some y => simp [cOpt] at hhi
    have fin : ∀ (za zb zm : Z) (sv : SV), optZ vs (.l 0) lo' = some za → optZ vs ln hi' = some zb → optZ vs ln mx' = some zm → 0 ≤ za.v → za.v ≤ zb.v → zb.v ≤ zm.v → zm.v ≤ ln.v →
        (∀ m, zb.v ≤ ((m : Nat) : Int) → m ≤ C → den ρ sv (.slice (if m = za.v.toNat then b0 else b0.map (·.add (za.v.toNat * n))) (zb.v.toNat - za.v.toNat) (m - za.v.toNat))) → K sv l → OpRuns P o a W (OpPost P N W0 ρ l K) := by
      intro za zb zm sv hza hzb hzm h1 h2 h3 h4 hsv hK
      obtain ⟨m, hmb, hmC, hmx2⟩ : ∃ m : Nat, zb.v ≤ m ∧ m ≤ C ∧ ((mx = none ∧ m = C) ∨ ∃ y k, mx = some y ∧ a.eval y = .int k (m : Int) ∧ m ≤ C) := by
        rcases qow hE hmx hzm with ⟨e1, e2⟩ | ⟨y, k, e1, e2⟩
        · exact ⟨C, by omega, Nat.le_refl _, .inl ⟨e1, rfl⟩⟩
        · have e5 : ((zm.v.toNat : Nat) : Int) = zm.v := Int.toNat_of_nonneg (by omega)
          exact ⟨zm.v.toNat, by omega, by omega, .inr ⟨y, k, e1, by rw [e5]; exact e2, by omega⟩⟩
      have hhi2 : (hi = none ∧ zb.v = ln.v.toNat ∧ mx = none) ∨ ∃ y k, hi = some y ∧ a.eval y = .int k zb.v := by
        rcases qow hE hhi hzb with ⟨e1, e2⟩ | r
        · refine .inl ⟨e1, by rw [e2]; omega, ?_⟩
          cases hmx0 : mx' with
          | none => exact mxn hmx0
          | some y => exact absurd e1 (hhn (by rw [hmx0]; simp))
        · exact .inr r
      have hb := qmk (P := P) (W := W) (a := a) (isS := true) (len := ln.v.toNat) (cap := C) (lo := lo) (hi := hi) (mx := mx) (m := m) h2 h1 hLC (qow hE hlo hza) hhi2 hmx2 hmb
      exact .val (by simp [ho, isDefer]) (run b0 _ C za zb m hv hb) (qaf hR hK (hsv m hmb hmC))
    rw [hv] at hdx
    split at h
    · rename_i hall
      have hn3 : lo' = none ∧ hi' = none ∧ mx' = none := by
        cases lo' <;> cases hi' <;> cases mx' <;> simp [allN] at hall <;> exact ⟨rfl, rfl, rfl⟩
      obtain ⟨rfl, rfl, rfl⟩ := hn3
      refine fin (.l 0) ln ln _ rfl rfl rfl (Int.le_refl _) hl0 (Int.le_refl _) (Int.le_refl _) (fun m hm hmC => ?_) h
      show den ρ _ (.slice (if m = 0 then b0 else b0.map (·.add (0 * n))) (ln.v.toNat - 0) (m - 0))
      rw [Nat.zero_mul, Nat.sub_zero, Nat.sub_zero]
      have hb0 : (if m = 0 then b0 else b0.map (·.add 0)) = b0 := by
        split
        · rfl
        · cases b0 with
          | none => rfl
          | some ad => simp [Addr.add]
      rw [hb0]
      simp only [den] at hdx ⊢
      obtain ⟨g0, g1, g2, g3, g4⟩ := hdx
      refine ⟨g0, g1, g2, g3, ?_⟩
      rcases g4 with ⟨b, o, c, e, hc, hb, hF⟩ | ⟨e0, a, e⟩
      · simp only [Value.slice.injEq] at e
        obtain ⟨rfl, _, rfl⟩ := e
        exact .inl ⟨b, o, m, rfl, by omega, hb, hF⟩
      · simp only [Value.slice.injEq] at e
        obtain ⟨rfl, _, rfl⟩ := e
        refine .inr ⟨e0, b0, ?_⟩
        rw [show m = 0 by omega, e0]; rfl
    · split at h
      · rename_i za zb zm hza hzb hzm
        obtain ⟨h1, h⟩ := qbl h
        obtain ⟨h2, h⟩ := qbl h
        obtain ⟨h3, h⟩ := qbl h
        obtain ⟨h4, h⟩ := qbl h
        exact fin za zb zm _ hza hzb hzm h1 h2 h3 h4 (fun m hm hmC => v_part hdx h1 h2 (by omega) (by rw [qzacf]) hm hmC) h
      · exact h.elim
  · -- nil
    rename_i he
    rw [he] at hdx
    simp only [den] at hdx
    split at h
    case h_2 => exact h.elim
    rename_i za zb zm hza hzb hzm
    obtain ⟨h1, h⟩ := qbl h
    obtain ⟨h2, h⟩ := qbl h
    obtain ⟨h3, h⟩ := qbl h
    obtain ⟨h4, h⟩ := qbl h
    replace h1 : 0 ≤ za.v := h1
    replace h4 : zm.v ≤ 0 := h4
    have hm0 : zm.v = 0 := by omega
    have hb := qmk (P := P) (W := W) (a := a) (isS := true) (len := 0) (cap := 0) (lo := lo) (hi := hi) (mx := mx) (m := 0) h2 h1 (Nat.le_refl _) (qow hE hlo hza)
      (by rcases qow hE hhi hzb with ⟨e1, e2⟩ | r
          · refine .inl ⟨e1, by rw [e2]; rfl, ?_⟩
            cases mx with
            | none => rfl
            | some y =>
              simp only [cOpt, Option.map_eq_some_iff] at hmx
              obtain ⟨y1, _, rfl⟩ := hmx
              exact absurd e1 (hhn (by simp))
          · exact .inr r)
      (by rcases qow hE hmx hzm with ⟨e1, e2⟩ | ⟨y, k, e1, e2⟩
          · exact .inl ⟨e1, rfl⟩
          · exact .inr ⟨y, k, e1, by rw [e2, hm0]; rfl, Nat.le_refl _⟩) (by omega)
    have ha0 : za.v.toNat = 0 := by omega
    have hb0 : zb.v.toNat = 0 := by omega
    have hr := run none 0 0 za zb 0 hdx.1 hb
    rw [ha0, hb0] at hr
    refine .val (by simp [ho, isDefer]) hr (qaf hR h ?_)
    simp [den, oneC]
  · exact h.elim
theorem s_mkS {t e:TypeId}{n:Nat}{zero:List SV}{x y:Operand}{x' y':Opd}(ho:o.op=.makeSlice t x y) (ht:P.underlying t=some (.slice e)) (hn:szOf P e=some n)
  (hz:zeroOf P e=some zero) (h0:n≠0) (hzl:zero.length=n) (hby:¬ P.bytesOf e > 1024) (hx:cOpd x=some x') (hy:cOpd y=some y'):Sound P o (.mkS n zero x' y'):=by
 intro N W0 W ρ l vs a K h hR hE;obtain⟨i,z,hi,hz',hd⟩:=qgq hz;have key:∀ (m:Int) (zm:Z) (lit:Bool),zm.v=m->(∃ k1,a.eval x=.int k1 m)->(∃ k2,a.eval y=.int k2 m)->0<=m->m<=65536->(lit=false->∀ x∈repS m.toNat zero,plainV x=true) ->
   K (.sl l.length n (.l 0) zm none) (l++[.r false lit (.l 0) n (repS m.toNat zero)])->OpRuns P o a W (OpPost P N W0 ρ l K):=by
  rintro m zm lit hzm ⟨k1,e1⟩ ⟨k2,e2⟩ hm0 hmb hp h;have hsz:i.size=n:=by simp only[szOf,hi,Option.map_some,Option.some.injEq] at hn;exact hn
  have hby':i.bytes<=1024:=by simp only[Program.bytesOf,hi,Option.map_some,Option.getD_some] at hby;omega
  have hmul:(i.bytes:Int)*m<=1024*65536:=by
   have h1:(i.bytes:Int)*m<=1024*m:=Int.mul_le_mul_of_nonneg_right (by omega) hm0;have h2:(1024:Int)*m<=1024*65536:=by omega
   omega
  have hrun:=run_make (P:=P) W t e i z ht hi hz' k1 k2 m m hm0 (Int.le_refl _) (by omega) (by omega);rw[hsz] at hrun;have hdz:=qzaet (n:=m.toNat) (hd ρ) hzl h0;refine .val (v:=.slice (some ⟨W.heap.size,0,none⟩) m.toNat m.toNat) (W':=W.alloc (.cells (madeCells z.cells (m.toNat*n)) e)) (by simp [ho,isDefer]) ?_
   ⟨_,_,_,h,qox hR _,by simp,hR.newR (cap:=m.toNat) e (by omega) ?_ ?_ hp (λq x hx=>?_),?_⟩
  ·simp [execOp,ho,e1,e2,hrun]
  ·have:=qan hdz
   simp only[Array.length_toList,Array.size_map,Array.size_range] at this;omega
  ·rw[size_madeCells];exact Nat.le_refl _
  ·obtain⟨v,hv,d⟩:=qbk q x hdz hx
   exact⟨v,by rw[<-Array.getElem?_toList];exact hv,d⟩
  ·have hlen:=qan hdz
   simp only[Array.length_toList,Array.size_map,Array.size_range] at hlen;simp only[den];refine⟨by simp [zv_l],by rw[hzm];exact hm0,_,by rw[qam];exact List.mem_singleton.2 rfl,by simp [zv_l,hzm];omega,?_⟩;simp only[SlVal,zv_l,hzm];exact .inl ⟨m.toNat,by simp,by simp,by simp,by simp⟩
 simp only[vop,qbs,qdm] at h;split at h
 ·rename_i m c hm hc
  obtain⟨k1,e1⟩:=qdz hm (qbe hE hx);obtain⟨k2,e2⟩:=qdz hc (qbe hE hy);split at h
  ·rename_i hb
   obtain⟨rfl,hm0,hmb⟩:=hb;rw[zv_l] at e1 e2;exact key m (.l m) true zv_l ⟨k1,e1⟩ ⟨k2,e2⟩ hm0 hmb (by simp) h
  ·exact h.elim
 ·rename_i m c _ hm hc
  obtain⟨k1,e1⟩:=qdz hm (qbe hE hx);obtain⟨k2,e2⟩:=qdz hc (qbe hE hy);obtain⟨hmc,hm0,hmb,hp,hK⟩:=h;exact key m.v (.y m.v) false rfl ⟨k1,e1⟩ ⟨k2,by rw[e2,hmc]⟩ hm0 hmb (λ_ x hx=>qet hp x hx) hK
 ·exact h.elim
theorem qzawm {F:List SV}{off n:Nat}{x:List UInt8}(hb:bytesOf F off n x) {vw:View}{ad:Addr}(hv:ViewOk W ρ F vw) (hbase:vw.base=some ad) (hin:off+n<=vw.n):
  ∀ j,j<n->W.cell? ⟨ad.block,ad.off+off+j,none⟩=some (.int .u8 ((x.getD j 0).toNat:Int)):=by
 intro j hj;have hjl:j<x.length:=by rw[hb.1];exact hj
 obtain⟨z,hz,hzv⟩:=hb.2 j x[j] (List.getElem?_eq_getElem hjl);obtain⟨a',v,e1,e2,e3⟩:=hv.2.2 (off+j) _ (by omega) hz;rw[hbase] at e1;simp at e1;subst e1;simp only[den] at e3;rw[Nat.add_assoc,e2,e3,hzv,List.getD_eq_getElem?_getD,List.getElem?_eq_getElem hjl];rfl
theorem qzu:∀ (x:List UInt8) (s:ByteArray),(x.map λc=>(c.toNat:Int)).foldl (λr n=>r.push (UInt8.ofNat n.toNat)) s=⟨s.data++x.toArray⟩
 | [],s=>by simp
 | c::x,s=>by
  simp only[List.map_cons,List.foldl_cons];rw[qzu x];congr 1;apply Array.ext';simp [ByteArray.push]
theorem s_cvBS {t u e:TypeId}{x:Operand}{x':Opd}(ho:o.op=.convert t u x) (ht:P.underlying t=some (.slice e)) (he:isU8 P e=true) (hu:P.underlying u=some .string) (hx:cOpd x=some x'):
  Sound P o (.cvBS x'):=by
 intro N W0 W ρ l vs a K h hR hE;have hd:=qbe hE hx;have he':P.underlying e=some (.int .u8):=by
  unfold isU8 at he;split at he
  ·rename_i h1;exact h1
  ·cases he
 have run:∀ (b:Option Addr) (ln cp:Nat) (s:ByteArray),a.eval x=.slice b ln cp->(Conv.bytesToString (.slice b ln cp)).run P W=.ok (.string s) W ->
   (execOp a.eval o).run P W=.ok (.value (.string s)) W:=by
  intro b ln cp s e1 e2;simp [execOp,ho,e1,run_convert_bytes_string W t u e b ln cp ht he' hu,e2]
 simp only[vop] at h;split at h
 ·rename_i k sz off ln cap hev
  rw[hev] at hd;split at h
  case h_2=>exact h.elim
  rename_i ro lit st sz' F hF;split at h
  case isFalse=>exact h.elim
  rename_i hsz;obtain⟨rfl,rfl⟩:=hsz;obtain⟨_,hvs,_,_⟩:=hR.blk k _ (qas hF (by simp));obtain⟨ho0,hl0,xs,hb,hK⟩:=h;simp only[den] at hd;obtain⟨_,_,vw,hvw,hin,hsv⟩:=hd;rw[Nat.mul_one] at hin;have hv:=hvs vw hvw;have hnil:ln.v.toNat=0->xs=[]:=λh0=>List.eq_nil_of_length_eq_zero (by rw[hb.1,h0]);have empty:∀ a',a.eval x=.slice a' 0 0->ln.v.toNat=0->(execOp a.eval o).run P W=.ok (.value (.string ⟨xs.toArray⟩)) W:=by
   intro a' e1 h0;rw[hnil h0];refine run a' 0 0 _ e1 ?_;cases a' with
   | none=>rfl
   | some ad=>exact run_bytesToString W ad 0 0 [] (by simp [loadCells,loadCellsFrom,Sem.run_pure])
  refine .val (v:=.string ⟨xs.toArray⟩) (W':=W) (by simp [ho,isDefer]) ?_ (qaf hR hK (by simp only[den]));unfold SlVal at hsv;cases hbase:vw.base with
  | none=>
   rw[hbase] at hsv;obtain⟨_,h0,a',e1⟩:=hsv;exact empty a' e1 h0
  | some ad=>
   rw[hbase] at hsv;rcases hsv with ⟨c,e1,_⟩|⟨h0,⟨a',e1⟩,_⟩
   ·refine run _ _ _ _ e1 ?_
    have hlen:(xs.map λc=>SV.i .u8 (.y (c.toNat:Int))).length=ln.v.toNat:=by rw[List.length_map];exact hb.1
    obtain⟨us,hus,hdu⟩:=qgz (P:=P) (W:=W) (ρ:=ρ) (b:=ad.block) (o:=ad.off+off.v.toNat*1) (n:=ln.v.toNat) hlen (λq y hy=>by
     rw[List.getElem?_map,Option.map_eq_some_iff] at hy;obtain⟨c,hc,rfl⟩:=hy;have hq:q<ln.v.toNat:=by rw[<-hb.1];exact (List.getElem?_eq_some_iff.1 hc).1
     refine⟨_,?_,rfl⟩;rw[Nat.mul_one,qzawm hb hv hbase hin q hq,List.getD_eq_getElem?_getD,hc];rfl)
    have hus2:us=((xs.map λc=>(c.toNat:Int)).map (Value.int .u8)).toArray:=by
     have:∀ (xs:List UInt8) (us:List Value),denL ρ (xs.map λc=>SV.i .u8 (.y (c.toNat:Int))) us->us=(xs.map λc=>(c.toNat:Int)).map (Value.int .u8):=by
      intro xs
      induction xs with
      | nil=>intro us hd;cases us with|nil=>rfl|cons=>simp [denL] at hd
      | cons c xs ih=>
       intro us hd;cases us with
       | nil=>simp [denL] at hd
       | cons u us=>
        simp only[List.map_cons,denL,den] at hd ⊢;rw[hd.1,ih us hd.2];rfl
     rw[<-this xs us.toList hdu]
    rw[hus2] at hus;rw[run_bytesToString W _ _ _ _ hus,qzu]
    simp
   ·exact empty a' e1 h0
 ·rename_i lit sz F ln hev
  rw[hev] at hd;split at h
  case isFalse=>exact h.elim
  rename_i hsz;subst hsz;obtain⟨ho0,hl0,xs,hb,hK⟩:=h;simp only[den] at hd;obtain⟨g0,g1,g2,g3,g4⟩:=hd;refine .val (v:=.string ⟨xs.toArray⟩) (W':=W) (by simp [ho,isDefer]) ?_ (qaf hR hK (by simp only[den]));rcases g4 with ⟨b,o',c,e1,hc,_,hF⟩|⟨e0,a',e1⟩
  ·refine run _ _ _ _ e1 ?_
   have hlen:(xs.map λc=>SV.i .u8 (.y (c.toNat:Int))).length=ln.v.toNat:=by rw[List.length_map];exact hb.1
   obtain⟨us,hus,hdu⟩:=qgz (P:=P) (W:=W) (ρ:=ρ) (b:=b) (o:=o') (n:=ln.v.toNat) hlen (λq y hy=>by
    rw[List.getElem?_map,Option.map_eq_some_iff] at hy;obtain⟨c,hc,rfl⟩:=hy;obtain⟨z,hz,hzc⟩:=hb.2 q c hc;rw[show (0:Int).toNat+q=q by simp] at hz;obtain⟨u,e,d⟩:=qse q _ hF hz;refine⟨u,hR.fin _ _ _ e,?_⟩;simp only[den] at d ⊢;rw[d,hzc];rfl)
   have hus2:us=((xs.map λc=>(c.toNat:Int)).map (Value.int .u8)).toArray:=by
    have:∀ (xs:List UInt8) (us:List Value),denL ρ (xs.map λc=>SV.i .u8 (.y (c.toNat:Int))) us->us=(xs.map λc=>(c.toNat:Int)).map (Value.int .u8):=by
     intro xs
     induction xs with
     | nil=>intro us hd;cases us with|nil=>rfl|cons=>simp [denL] at hd
     | cons c xs ih=>
      intro us hd;cases us with
      | nil=>simp [denL] at hd
      | cons u us=>
       simp only[List.map_cons,denL,den] at hd ⊢;rw[hd.1,ih us hd.2];rfl
    rw[<-this xs us.toList hdu]
   rw[hus2] at hus;rw[run_bytesToString W _ _ _ _ hus,qzu]
   simp
  ·have hx0:xs=[]:=List.eq_nil_of_length_eq_zero (by rw[hb.1,e0];rfl)
   rw[hx0];refine run a' 0 0 _ e1 ?_;cases a' with
   | none=>rfl
   | some ad=>exact run_bytesToString W ad 0 0 [] (by simp [loadCells,loadCellsFrom,Sem.run_pure])
 ·rename_i hev
  rw[hev] at hd;simp only[den] at hd;refine .val (v:=.string ⟨#[]⟩) (W':=W) (by simp [ho,isDefer]) (run none _ _ _ hd.1 rfl) (qaf hR h (by simp [den]))
 ·exact h.elim
end
end Cz
namespace Cz
open Go Go.RowKit
section
variable {P:Program}{N:Nat->Prop}{W0 W:World}{ρ:Nms}{l:List Blk}{vs:List SV}{a:Act}{o:Oper}
theorem qyt (h:Rel P N W0 ρ l W):Rel P N W0 ρ l W.drew:=h.drew
theorem Rel.newRF (h:Rel P N W0 ρ l W) {F:List SV}{c:Array Value}(T:TypeId) {fz:Nat×Nat}(hfz:c.size<=fz.1∨fz=(0,0)) {lit:Bool}{sz cap:Nat}(hsz:0<sz) (hn:F.length<=cap*sz) (hcap:cap*sz<=c.size)
  (hp:lit=false->∀ x∈F,plainV x=true)
  (hd:∀ (q:Nat) (x:SV),F[q]?=some x->∃ v,c[q]?=some v/\den ρ x v):
  Rel P N W0 (upd ρ l.length [⟨some ⟨W.heap.size,0,none⟩,F.length,cap⟩]) (l++[.r false lit (.l 0) sz F]) (W.alloc (.cells c T fz)):=by
 have hcell:∀ q,(W.alloc (.cells c T fz)).cell? ⟨W.heap.size,q,none⟩=c[q]?:=λq=>by
  simp only[World.cell?,qfj];rfl
 have hfr:∀ q,q<c.size->(W.alloc (.cells c T fz)).frozen? ⟨W.heap.size,q,none⟩=false:=λq hq=>by
  simp only[World.frozen?,qfj];rcases hfz with h1|rfl
  ·simp;omega
  ·simp
 refine h.push (Below.allocW h _) (by simp) (λi hi=>qit hi) ?_ ⟨hsz,?_,hp,?_⟩
 ·intro vw hv a ha
  simp only[List.mem_singleton] at hv;subst hv;simp at ha;subst ha;simp
 ·intro vw hv
  rw[qam,List.mem_singleton] at hv;subst hv;refine⟨Nat.le_refl _,by simp,λq x _ hx=>?_⟩;obtain⟨v,hv,d⟩:=hd q x hx;exact⟨_,v,rfl,by rw[Nat.zero_add,hcell];exact hv,qfr (qhk (m:=l.length) (by rw[h.out _ (Nat.le_refl _)];simp)) h.out x v d⟩
 ·intro _
  rw[qam];refine⟨_,List.mem_singleton.2 rfl,rfl,?_,hn,?_⟩
  ·intro vw hv a ha
   rw[List.mem_singleton] at hv;subst hv;simp at ha;subst ha;exact⟨h.hN _ (Nat.le_refl _),c,T,fz,qfj,by simpa using hcap,hfr,hfz.elim .inr (λe=>.inl (by rw[e]))⟩
  ·intro vw hv
   rw[List.mem_singleton] at hv;subst hv;exact .inl ⟨rfl,rfl⟩
theorem sb_get {x:List UInt8}{q:Nat}{y:SV}(h:((S0 P).sb x)[q]?=some y):∃ c,x[q]?=some c/\y=.i .u8 (.y (c.toNat:Int)):=by
 have h':(x.map λc=>SV.i .u8 (.y (c.toNat:Int)))[q]?=some y:=h;rw[List.getElem?_map,Option.map_eq_some_iff] at h';obtain⟨c,hc,rfl⟩:=h';exact⟨c,hc,rfl⟩
theorem sb_len {x:List UInt8}:((S0 P).sb x).length=x.length:=by
 show (x.map _).length=_
 simp
theorem sb_plain {x:List UInt8}:∀ y∈(S0 P).sb x,plainV y=true:=by
 intro y hy;obtain⟨q,hq,rfl⟩:=List.getElem_of_mem hy;obtain⟨c,_,e⟩:=sb_get (P:=P) (List.getElem?_eq_getElem hq);rw[e];rfl
theorem s_cvSB {t u e:TypeId}{x:Operand}{x':Opd}(ho:o.op=.convert t u x) (ht:P.underlying t=some .string) (hu:P.underlying u=some (.slice e)) (he:isU8 P e=true) (hx:cOpd x=some x'):
  Sound P o (.cvSB x'):=by
 intro N W0 W ρ l vs a K h hR hE;have hd:=qbe hE hx;have he':P.underlying e=some (.int .u8):=by
  unfold isU8 at he;split at he
  ·rename_i h1;exact h1
  ·cases he
 simp only[vop,qbs,qdm] at h;split at h
 case h_2=>exact h.elim
 rename_i s hev;rw[hev] at hd;simp only[den] at hd;have hsz:(ByteArray.mk s.toArray).size=s.length:=by show s.toArray.size=s.length;simp
 have hrun:=run_bytes_of_string (P:=P) W t u e ⟨s.toArray⟩ ht hu he';rw[hsz] at hrun;have hge:=grownCap_ge W s.length 0 e;generalize hcap:grownCap W s.length 0 e=cap at hrun hge;have hrow:(bytesRow ⟨s.toArray⟩ cap).size=cap:=by
  simp [bytesRow,hsz];omega
 have hR1:=qyt hR;refine .val (v:=.slice (some ⟨W.heap.size,0,none⟩) s.length cap) (by simp [ho,isDefer]) (by simp only[execOp,ho,hd];simp [hrun];rfl)
  ⟨_,_,_,h,qox hR _,by simp,hR1.newRF (cap:=cap) e (.inl (Nat.le_refl _)) (by omega) (by rw[sb_len];omega) (by rw[hrow];omega) (λ_=>sb_plain) (λq y hy=>?_),?_⟩
 ·obtain⟨c,hc,rfl⟩:=sb_get hy
  have hq:q<s.length:=(List.getElem?_eq_some_iff.1 hc).1;refine⟨_,?_,rfl⟩;simp only[bytesRow];rw[Array.getElem?_append_left (by simpa using hq)];simp [hc,zv_y]
 ·simp only[den]
  have e1:(Z.y ((S0 P).slen s)).v=(s.length:Int):=rfl;rw[e1];refine⟨by simp [zv_l],by omega,_,by rw[qam];exact List.mem_singleton.2 rfl,by simp only[zv_l];rw[sb_len];simp,?_⟩;simp only[SlVal,zv_l,Int.toNat_natCast];exact .inl ⟨cap,by simp,by omega,by simp,by simp⟩
def fzNew (fz:Nat×Nat) (n:Nat):Nat×Nat:=if fz.1==fz.2 then (n,n+1) else (min fz.1 n,max fz.2 (n+1))
theorem freeze_eq {b:Nat}{c:Array Value}{e:TypeId}{fz:Nat×Nat}(h:W.heap[b]?=some (.cells c e fz)) (n:Nat):W.freeze ⟨b,n,none⟩ 1=setO W b (.cells c e (fzNew fz n)):=by
 unfold World.freeze setO;simp only[Nat.one_ne_zero,if_false];congr 1;apply Array.ext_getElem?;intro j;rw[Array.getElem?_setIfInBounds,Array.getElem?_modify];by_cases hj:b=j
 ·subst hj
  simp only[if_true,h,qbf h,Option.map_some];obtain⟨lo,hi⟩:=fz;simp only[fzNew]
 ·simp [hj]
theorem cell_fz {b:Nat}{c:Array Value}{e:TypeId}{fz fz':Nat×Nat}(h:W.heap[b]?=some (.cells c e fz)) (ad:Addr):(setO W b (.cells c e fz')).cell? ad=W.cell? ad:=by
 by_cases hb:ad.block=b
 ·simp only[World.cell?,hb,qbr (qbf h),h]
 ·simp only[World.cell?,qat hb]
theorem Rel.frz (hR:Rel P N W0 ρ l W) {k:Nat}{lit:Bool}{st:Z}{sz:Nat}{F:List SV}{vw:View}{a:Addr}{c:Array Value}{e:TypeId}{fz:Nat×Nat}(hk:l[k]?=some (.r false lit st sz F)) (hv:vw∈ρ k)
  (ha:vw.base=some a) (hh:W.heap[a.block]?=some (.cells c e fz)):Rel P N W0 ρ l (setO W a.block (.cells c e (fzNew fz c.size))):=by
 have hN:N a.block:=hR.own k _ vw a hk rfl hv ha;have hset:l.set k (.r false lit st sz F)=l:=by
  apply List.ext_getElem?;intro j;rw[List.getElem?_set];split
  ·rename_i e;subst e;rw[hk];simp [(List.getElem?_eq_some_iff.1 hk).1]
  ·rfl
 have hup:upd ρ k (ρ k)=ρ:=qdf;have ht:=hR.turn (W':=setO W a.block (.cells c e (fzNew fz c.size))) (B:=.r false lit st sz F) (vws:=ρ k) hk rfl
  (hR.below.trans ⟨rfl,rfl,rfl,by rw[qar];exact Nat.le_refl _,λj hj=>qat (λe=>hj (by subst e;first|exact hNb|exact hN|assumption))⟩) (by rw[qar];exact Nat.le_refl _)
  (λi _ hi=>qat (λe=>hi vw hv a ha e.symm)) (λ_ h=>h)
  (λvw' hv' a' ha'=>⟨by rw[qar];exact hR.ids k vw' a' hv' ha',.inr ⟨vw',hv',a',ha',rfl⟩⟩) ?_
 ·rwa[hset,hup] at ht
 ·rw[hup]
  obtain⟨h0,h1,h2,h3⟩:=hR.blk k _ hk;refine⟨h0,λvw' hv'=>?_,h2,λhr=>?_⟩
  ·obtain⟨g1,g2,g3⟩:=h1 vw' hv'
   refine⟨g1,g2,λq x hq hx=>?_⟩;obtain⟨a',v,e1,e2,e3⟩:=g3 q x hq hx;exact⟨a',v,e1,by rw[cell_fz hh];exact e2,e3⟩
  ·obtain⟨cur,hc,hn,ho,r⟩:=h3 hr
   refine⟨cur,hc,hn,λvw2 hv2 a' ha'=>?_,r⟩;obtain⟨o1,c',e',fz',o2,o3,o4,o5⟩:=ho vw2 hv2 a' ha';by_cases hb:a'.block=a.block
   ·rw[hb,hh] at o2
    simp only[Option.some.injEq,Obj.cells.injEq] at o2;obtain⟨rfl,rfl,rfl⟩:=o2;have hge:c.size<=(fzNew fz c.size).1:=by
     unfold fzNew;split
     ·exact Nat.le_refl _
     ·rename_i hne
      rcases o5 with o5|o5
      ·simp [o5] at hne
      ·simp only;omega
    refine⟨o1,c,e,fzNew fz c.size,by rw[hb];exact qbr (qbf hh),o3,λq hq=>?_,.inr hge⟩;simp only[World.frozen?,hb,qbr (qbf hh)]
    simp;omega
   ·refine⟨o1,c',e',fz',by rw[qat hb];exact o2,o3,λq hq=>?_,o5⟩
    have:=o4 q hq
    simp only[World.frozen?,qat hb] at this ⊢;exact this
theorem s_cvLL {t e:TypeId}{x:Operand}{x':Opd}(ho:o.op=.convert t t x) (ht:P.underlying t=some (.slice e)) (he:isU8 P e=true) (hx:cOpd x=some x'):Sound P o (.cvLL x'):=by
 intro N W0 W ρ l vs a K h hR hE;have hd:=qbe hE hx;have he':P.underlying e=some (.int .u8):=by
  unfold isU8 at he;split at he
  ·rename_i h1;exact h1
  ·cases he
 simp only[vop] at h;split at h
 case h_2=>exact h.elim
 rename_i k sz off n cap hev;split at h
 case isFalse=>exact h.elim
 rename_i hn0;obtain⟨hn,hsz0⟩:=hn0;split at h
 case h_2=>exact h.elim
 rename_i lit st sz' F hl;rw[hev] at hd;have hd0:=hd;have hk:=qas hl (by simp);simp only[den,show (Z.l n).v=n from rfl] at hd;obtain⟨g0,g1,vw,hv,g2,g3⟩:=hd;obtain⟨hsz,hvw,_,_⟩:=hR.blk k _ hk;unfold SlVal at g3;split at g3
 ·obtain⟨_,e0,_⟩:=g3;omega
 ·rename_i ad hb
  obtain⟨cp,hev2⟩:∃ cp,a.eval x=.slice (some ⟨ad.block,ad.off+off.v.toNat*sz,none⟩) n.toNat cp:=by
   rcases g3 with ⟨cp,e,_⟩|⟨e0,_⟩
   ·exact⟨cp,e⟩
   ·omega
  obtain⟨v1,v2,v3⟩:=hvw vw hv;have hpos:0<vw.n:=by
   have:0<(off.v.toNat+n.toNat)*sz:=Nat.mul_pos (by omega) (by omega)
   omega
  obtain⟨y,hy⟩:∃ y,F[0]?=some y:=⟨_,List.getElem?_eq_getElem (by omega)⟩;obtain⟨a',u,e1,e2,_⟩:=v3 0 y hpos hy;rw[hb] at e1;cases e1;obtain⟨c,T,fz,hh⟩:∃ c T fz,W.heap[ad.block]?=some (.cells c T fz):=by
   unfold World.cell? at e2;simp only at e2;split at e2
   ·split at e2
    ·cases e2
    ·rename_i c T fz hh _;exact⟨c,T,fz,hh⟩
   ·cases e2
  refine .val (v:=a.eval x) (W':=setO W ad.block (.cells c T (fzNew fz c.size))) (by simp [ho,isDefer]) ?_ ?_
  ·have hsh:W.shape? ad.block=some (T,c.size):=by simp [World.shape?,hh]
   simp [execOp,ho,convert,hev2,qab ht,qab he',markStringish,hsh,freeze_eq hh]
  ·exact⟨ρ,_,l,h,Le.refl _ _,Nat.le_refl _,hR.frz hk hv hb hh,hd0⟩
section
variable {ats:Array TypeId}{args:Array Value}{t u ty e:TypeId}{D:TypeDesc}{b:Option Addr}{n c m sz:Nat}{y:Value}{news:List Value}
theorem qer (ha0:ats[0]?=some t) (ha1:ats[1]?=some u) (hx0:args[0]?=some (.slice b n c)) (hx1:args[1]?=some y) (ht:P.underlying t=some (.slice e)) (hu:P.underlying u=some D) (hD:∀ k,D≠.int k)
  (hn:szOf P e=some sz) (hlen:(Builtin.lenOf y).run P W=.ok m W) (hcells:(Builtin.firstCells sz m y).run P W=.ok news.toArray W) (hroom:n+m<=c) {W':World}
  (hst:match b with|none=>W'=W|some ad=>(storeCells (ad.add (n*sz)) news).run P W=.ok () W'):
  (Builtin.append_ ats ty args).run P W=.ok (.slice b (n+m) c) W':=by
 cases b with
 | none=>
  simp only at hst;subst hst;simp [Builtin.append_,ha0,ha1,hx0,hx1,qab ht,qab hu,qbb hn,hlen,hroom,hcells]
 | some ad=>
  simp [Builtin.append_,ha0,ha1,hx0,hx1,qab ht,qab hu,qbb hn,hlen,hroom,hcells,hst]
theorem qpz {i:TypeInfo}{z:Value}{olds:List Value}(ha0:ats[0]?=some t) (ha1:ats[1]?=some u) (hx0:args[0]?=some (.slice b n c)) (hx1:args[1]?=some y) (ht:P.underlying t=some (.slice e))
  (hu:P.underlying u=some D) (hD:∀ k,D≠.int k) (hi:P.info? e=some i) (hz:i.zero=some z) (hn:szOf P e=some sz) (hlen:(Builtin.lenOf y).run P W=.ok m W)
  (hcells:(Builtin.firstCells sz m y).run P W.drew=.ok news.toArray W.drew) (holds:(Builtin.firstCells sz n (.slice b n c)).run P W.drew=.ok olds.toArray W.drew) (hroom:c<n+m)
  (hby:i.bytes<=1024) (hbig:n+m<=137438953472):
  (Builtin.append_ ats ty args).run P W=.ok (.slice (some ⟨W.heap.size,0,none⟩) (n+m) (grownCap W (n+m) c e))
   (W.drew.alloc (.cells (olds.toArray++news.toArray++Builtin.zeroCells z.cells (grownCap W (n+m) c e-(n+m))) e)):=by
 have h1:¬ (n+m<=c):=by omega
 have h63:¬ (9223372036854775807<((n:Int)+(m:Int))):=by omega
 have hb:(n+m)*i.bytes<=140737488355328:=by
  have h2:(n+m)*i.bytes<=137438953472*1024:=Nat.mul_le_mul hbig hby;omega
 have h48:¬ (281474976710656<Builtin.nextslicecap (n+m) c*i.bytes):=by
  have:=growslice_fits hroom hb
  omega
 simp [Builtin.append_,ha0,ha1,hx0,hx1,qab ht,qab hu,qbb hn,hlen,h1,typeInfo,hi,h63,h48,Question.forced,hcells,holds,zeroValue,hz,newRow,grownCap];have e1:(olds++news).toArray=olds.toArray++news.toArray:=by simp
 rw[e1,Array.append_assoc]
end
theorem qkc:∀ (xs:List SV) (f:Nat->Option Value),(∀ (q:Nat) (x:SV),xs[q]?=some x->∃ v,f q=some v/\den ρ x v) ->
  ∃ us:List Value,denL ρ xs us/\∀ (q:Nat) (v:Value),us[q]?=some v->f q=some v
 | [],f,_=>⟨[],by simp [denL],by simp⟩
 | x::xs,f,h=>by
  obtain⟨v,hv,hd⟩:=h 0 x (by simp);obtain⟨us,hus,hf⟩:=qkc xs (λq=>f (q+1)) (λq y hy=>h (q+1) y (by simpa using hy));refine⟨v::us,by simp only[denL];exact⟨hd,hus⟩,λq u hu=>?_⟩;cases q with
  | zero=>simp at hu;subst hu;exact hv
  | succ q=>exact hf q u (by simpa using hu)
theorem src_ok {y:SV}{v:Value}{sz:Nat}{ys:List SV}{n:Z}{ylit:Bool}(h:srcOf (S0 P) l sz y=some (ys,n,ylit)) (hd:den ρ y v) (hR:Rel P N W0 ρ l W):
  0<=n.v/\ys.length=n.v.toNat*sz/\(ylit=false->∀ x∈ys,plainV x=true) /\
   ∃ us:List Value,denL ρ ys us/\∀ W':World,W'.heap=W.heap->(Builtin.lenOf v).run P W'=.ok n.v.toNat W'/\(Builtin.firstCells sz n.v.toNat v).run P W'=.ok us.toArray W':=by
 have nil:∀ a',v=.slice a' 0 0->∀ W':World,(Builtin.lenOf v).run P W'=.ok 0 W'/\(Builtin.firstCells sz 0 v).run P W'=.ok (([]:List Value).toArray) W':=by
  intro a' e W';subst e;refine⟨rfl,?_⟩;cases a' with
  | none=>rfl
  | some ad=>simp [Builtin.firstCells,loadCells,loadCellsFrom,pure]
 unfold srcOf at h;split at h
 ·rename_i k sz' off ln cap
  split at h
  case h_2=>cases h
  rename_i ro lit st sz'' F hF;split at h
  case isFalse=>cases h
  rename_i hsz;obtain⟨rfl,rfl⟩:=hsz;obtain⟨_,hvs,hpl,_⟩:=hR.blk k _ (qas hF (by simp));have key:n=ln/\ys=(F.drop (off.v.toNat*sz)).take (ln.v.toNat*sz)/\(ylit=false->∀ x∈F,plainV x=true):=by
   split at h
   ·simp only[Option.some.injEq,Prod.mk.injEq] at h
    obtain⟨h1,h2,h3⟩:=h;rw[qiv,qey] at h1;exact⟨h2.symm,h1.symm,λe=>by rw[<-h3] at e;cases e⟩
   ·split at h
    ·rename_i hp
     simp only[Option.some.injEq,Prod.mk.injEq] at h;obtain⟨h1,h2,h3⟩:=h;refine⟨h2.symm,h1.symm,λ_=>?_⟩;cases lit with
     | false=>exact hpl rfl
     | true=>exact λx hx=>qet hp x hx
    ·cases h
  obtain⟨rfl,rfl,hpl2⟩:=key;simp only[den] at hd;obtain⟨h0,h1,vw,hvw,hin,hsv⟩:=hd;have hv:=hvs vw hvw;have hinF:off.v.toNat*sz+n.v.toNat*sz<=vw.n:=by rw[<-Nat.add_mul];exact hin
  have hlen:((F.drop (off.v.toNat*sz)).take (n.v.toNat*sz)).length=n.v.toNat*sz:=by
   have:=hv.1
   simp;omega
  refine⟨h1,hlen,λe x hx=>hpl2 e x (List.mem_of_mem_drop (List.mem_of_mem_take hx)),?_⟩;have empty:n.v.toNat=0->(∃ a',v=.slice a' 0 0)->∃ us:List Value,denL ρ ((F.drop (off.v.toNat*sz)).take (n.v.toNat*sz)) us /\
    ∀ W':World,W'.heap=W.heap->(Builtin.lenOf v).run P W'=.ok n.v.toNat W'/\(Builtin.firstCells sz n.v.toNat v).run P W'=.ok us.toArray W':=by
   rintro e0 ⟨a',e⟩;refine⟨[],by rw[e0];simp [denL],λW' _=>?_⟩;rw[e0];exact nil a' e W'
  unfold SlVal at hsv;cases hbase:vw.base with
  | none=>rw[hbase] at hsv;exact empty hsv.2.1 hsv.2.2
  | some ad=>
   rw[hbase] at hsv;rcases hsv with ⟨c,e,_⟩|⟨e0,e,_⟩
   ·obtain⟨us,hus,hcell⟩:=qkc (ρ:=ρ) ((F.drop (off.v.toNat*sz)).take (n.v.toNat*sz)) (λq=>W.cell? ⟨ad.block,ad.off+off.v.toNat*sz+q,none⟩) (qzo hv hbase hinF)
    refine⟨us,hus,λW' hW=>?_⟩;have hul:us.length=n.v.toNat*sz:=by rw[<-qan hus,hlen]
    have hl:=run_loadCells_list (P:=P) W' ⟨ad.block,ad.off+off.v.toNat*sz,none⟩ us (λj u hj=>by
     rw[qbu,qcr (W:=W) (by rw[hW])];exact hcell j u hj)
    rw[hul] at hl;subst e;exact⟨rfl,by simp [Builtin.firstCells,hl]⟩
   ·exact empty e0 e
 ·rename_i lit sz' F ln
  split at h
  case isFalse=>cases h
  rename_i hsz;subst hsz;have key:ys=F/\n.v=ln.v:=by
   split at h
   ·simp only[Option.some.injEq,Prod.mk.injEq] at h;exact⟨h.1.symm,by rw[<-h.2.1]⟩
   ·simp only[Option.some.injEq,Prod.mk.injEq] at h;exact⟨h.1.symm,by rw[h.2.1]⟩
  obtain⟨rfl,hn⟩:=key;simp only[den] at hd;obtain⟨g0,g1,g2,g3,g4⟩:=hd;rw[hn];refine⟨g0,g2.symm,λ_=>qbw g3,?_⟩;rcases g4 with ⟨b,o,c,e,hc,_,hF⟩|⟨e0,a',e⟩
  ·obtain⟨us,hus,hcell⟩:=qkc (ρ:=ρ) ys (λq=>W.cell? ⟨b,o+q,none⟩) (λq x hx=>by
    obtain⟨u,e,d⟩:=qse q x hF hx;exact⟨u,hR.fin _ _ _ e,d⟩)
   refine⟨us,hus,λW' hW=>?_⟩;have hul:us.length=ln.v.toNat*sz:=by rw[<-qan hus,g2]
   have hl:=run_loadCells_list (P:=P) W' ⟨b,o,none⟩ us (λj u hj=>by
    rw[qbu,qcr (W:=W) (by rw[hW])];exact hcell j u hj)
   rw[hul] at hl;subst e;exact⟨rfl,by simp [Builtin.firstCells,hl]⟩
  ·have hy0:ys=[]:=List.eq_nil_of_length_eq_zero (by rw[<-g2,e0];simp)
   refine⟨[],by rw[hy0];simp [denL],λW' _=>?_⟩;rw[e0];exact nil a' e W'
 ·simp only[Option.some.injEq,Prod.mk.injEq] at h
  obtain⟨rfl,rfl,rfl⟩:=h;simp only[den] at hd;exact⟨by simp [zv_l],by simp [zv_l],(λe=>by cases e),[],by simp [denL],λW' _=>nil none hd.1 W'⟩
 ·rename_i s
  split at h
  case isFalse=>cases h
  rename_i h1;subst h1;simp only[Option.some.injEq,Prod.mk.injEq] at h;obtain⟨rfl,rfl,rfl⟩:=h;simp only[den] at hd;subst hd;have hsz:(ByteArray.mk s.toArray).size=s.length:=by show s.toArray.size=s.length;simp
  have e1:(Z.y ((S0 P).slen s)).v=(s.length:Int):=rfl;rw[e1,Int.toNat_natCast];refine⟨by omega,by rw[sb_len,Nat.mul_one],λ_=>sb_plain,s.map (λc=>Value.int .u8 (c.toNat:Int)),?_,λW' _=>⟨by simp [Builtin.lenOf,hsz,pure],?_⟩⟩
  ·refine qcx (by rw[sb_len];simp) λq y hy=>?_
   obtain⟨c,hc,rfl⟩:=sb_get hy;exact⟨.int .u8 (c.toNat:Int),by simp [hc],by simp only[den,zv_y]⟩
  ·have:((ByteArray.mk s.toArray).extract 0 s.length)=⟨s.toArray⟩:=by
    apply ByteArray.ext;rw[ByteArray.data_extract]
    simp
   simp [Builtin.firstCells,this,pure]
 ·cases h
theorem qzajg {ylit:Bool}{ys:List SV}{us:List Value}(h:scalarsIf ylit ys=true) (hp:ylit=false->∀ x∈ys,plainV x=true) (hd:denL ρ ys us):∀ v∈us,oneC v=true:=by
 refine qzahz ?_ hd;cases ylit with
 | true=>exact h
 | false=>
  have:∀ (ys:List SV),(∀ x∈ys,plainV x=true)->scalars ys=true:=by
   intro ys
   induction ys with
   | nil=>intro _;rfl
   | cons y ys ih=>
    intro hh;simp only[scalars,Bool.and_eq_true];refine⟨?_,ih λx hx=>hh x (by simp [hx])⟩
    have:=hh y (by simp)
    cases y<;>simp [plainV] at this<;>rfl
  exact this ys (hp rfl)
end
end Cz
namespace Cz
open Go Go.RowKit
section
variable {P:Program}{N:Nat->Prop}{W0 W:World}{ρ:Nms}{l:List Blk}{vs:List SV}{a:Act}{o:Oper}
theorem Rel.appIn (h:Rel P N W0 ρ l W) {k sz:Nat}{lit lit':Bool}{st st':Z}{F ys:List SV}{us:List Value}{vw:View}{ad:Addr}(hk:l[k]?=some (.r false lit st sz F)) (hvw:vw∈ρ k)
  (hb:vw.base=some ad) (hn:vw.n=F.length) (hroom:F.length+ys.length<=vw.cap*sz) (hst:st'.v.toNat=F.length) (hone:∀ v∈us,oneC v=true)
  (hp:lit'=false->(∀ x∈F,plainV x=true)/\∀ x∈ys,plainV x=true) (hd:denL ρ ys us):
  ∃ W',(storeCells ⟨ad.block,ad.off+F.length,none⟩ us).run P W=.ok () W' /\
   Rel P N W0 (upd ρ k (⟨some ad,F.length+ys.length,vw.cap⟩::ρ k)) (l.set k (.r false lit' st' sz (F++ys))) W':=by
 obtain⟨hsz,hvs,hpl,hown⟩:=h.blk k _ hk;obtain⟨cur,hcur,hcn,hcown,hcap,hall⟩:=hown rfl;have hsame:vw.base=cur.base/\vw.cap=cur.cap:=by
  rcases hall vw hvw with h1|⟨_,h1,_⟩
  ·exact h1
  ·omega
 have hcb:cur.base=some ad:=hsame.1▸hb;obtain⟨hNb,c,T,fz,hh,hcs,hf,hfz⟩:=hcown cur hcur ad hcb;rw[<-hsame.2] at hcs hcap;have hul:=qan hd;have hrun:=qcm (P:=P) (b:=ad.block) us (ad.off+F.length) 0 c W hh (by omega) hf hone;simp only[Nat.add_zero] at hrun;refine⟨_,hrun,?_⟩;have hlt:=qbf hh;have hle:Le l.length ρ (upd ρ k (⟨some ad,F.length+ys.length,vw.cap⟩::ρ k)):=qhk (λ_ hv=>List.mem_cons_of_mem _ hv);have hcell:∀ q,(setO W ad.block (.cells (splice c (ad.off+F.length) us) T fz)).cell? ⟨ad.block,ad.off+q,none⟩=(splice c (ad.off+F.length) us)[ad.off+q]?:=λq=>by
  simp [World.cell?,qbr hlt]
 have hold:∀ (vw':View),vw'∈ρ k->vw'.base=some ad->∀ (q:Nat) (x:SV),q<vw'.n->F[q]?=some x ->
   ∃ v,(setO W ad.block (.cells (splice c (ad.off+F.length) us) T fz)).cell? ⟨ad.block,ad.off+q,none⟩=some v/\den ρ x v:=by
  intro vw' hvw' hb' q x hq hx;obtain⟨hv1,_,hv3⟩:=hvs vw' hvw';obtain⟨a',v,ea,hcv,d⟩:=hv3 q x hq hx;rw[hb'] at ea;simp at ea;subst ea;refine⟨v,?_,d⟩;rw[hcell,qix us c _ _ (by omega),if_neg (by omega)];simpa [World.cell?,hh] using hcv
 refine h.turn hk rfl ?_ (by rw[qar];exact Nat.le_refl _) ?_ (λ_ hv=>List.mem_cons_of_mem _ hv) ?_ ?_
 ·exact h.below.trans ⟨rfl,rfl,rfl,by rw[qar];exact Nat.le_refl _,λj hj=>qat (λe=>hj (by subst e;first|exact hNb|exact hN|assumption))⟩
 ·intro i _ hi
  exact qat (λhib=>hi _ hcur _ hcb hib.symm)
 ·intro vw' hvw' a' ha'
  rcases List.mem_cons.1 hvw' with rfl|hvw'
  ·simp at ha';subst ha'
   exact⟨by rw[qar];exact hlt,.inr ⟨vw,hvw,_,hb,rfl⟩⟩
  ·exact⟨by rw[qar];exact h.ids k vw' a' hvw' ha',.inr ⟨vw',hvw',a',ha',rfl⟩⟩
 ·refine⟨hsz,?_,?_,?_⟩
  ·rw[qam]
   intro vw' hvw';rcases List.mem_cons.1 hvw' with rfl|hvw'
   ·refine⟨by simp,by simp,λq x hq hx=>⟨ad,?_⟩⟩
    rcases Nat.lt_or_ge q F.length with h1|h1
    ·rw[List.getElem?_append_left h1] at hx
     obtain⟨v,hc,d⟩:=hold vw hvw hb q x (by omega) hx;exact⟨v,rfl,hc,qfr hle h.out _ _ d⟩
    ·rw[List.getElem?_append_right h1] at hx
     obtain⟨v,hv',d⟩:=qbk _ x hd hx;simp only at hq;refine⟨v,rfl,?_,qfr hle h.out _ _ d⟩;rw[hcell,qix us c _ _ (by omega),if_pos (by omega),show ad.off+q-(ad.off+F.length)=q-F.length by omega];exact hv'
   ·obtain⟨hv1,hv2,hv3⟩:=hvs vw' hvw'
    refine⟨by simp;omega,hv2,λq x hq hx=>?_⟩;rw[List.getElem?_append_left (by omega)] at hx;rcases hall vw' hvw' with ⟨h1,_⟩|⟨_,_,h2⟩
    ·obtain⟨v,hc,d⟩:=hold vw' hvw' (by rw[h1,hcb]) q x hq hx
     exact⟨ad,v,by rw[h1,hcb],hc,qfr hle h.out _ _ d⟩
    ·obtain⟨a',v,ea,hcv,d⟩:=hv3 q x hq hx
     refine⟨a',v,ea,?_,qfr hle h.out _ _ d⟩;rw[qcr (W:=W)]
     ·exact hcv
     ·exact qat (h2 a' ad ea hcb)
  ·intro hl x hx
   rcases List.mem_append.1 hx with hx|hx
   ·exact (hp hl).1 x hx
   ·exact (hp hl).2 x hx
  ·intro _
   rw[qam];refine⟨_,List.mem_cons_self,by simp,?_,by simpa using hroom,?_⟩
   ·have hme:∀ a',some ad=some a'->N a'.block/\∃ c' e fz',(setO W ad.block (.cells (splice c (ad.off+F.length) us) T fz)).heap[a'.block]?=some (.cells c' e fz')/\a'.off+vw.cap*sz<=c'.size /\
      (∀ q,q<c'.size->(setO W ad.block (.cells (splice c (ad.off+F.length) us) T fz)).frozen? ⟨a'.block,q,none⟩=false)/\(fz'.1=fz'.2∨c'.size<=fz'.1):=by
     intro a' ha';simp at ha';subst ha';exact⟨hNb,splice c (ad.off+F.length) us,T,fz,qbr hlt,by rw[qce];exact hcs,(λq hq=>by rw[qoc hh];exact hf q (by rw[qce] at hq;exact hq)),by rw[qce];exact hfz⟩
    intro vw' hvw';rcases List.mem_cons.1 hvw' with rfl|hvw'
    ·exact hme
    ·rcases hall vw' hvw' with ⟨h1,h1c⟩|⟨_,_,h2⟩
     ·intro a' ha'
      rw[h1,hcb] at ha';rw[h1c,<-hsame.2];exact hme a' ha'
     ·exact (hcown vw' hvw').keep λa2 ea=>qat (h2 a2 ad ea hcb)
   ·intro vw' hvw'
    rcases List.mem_cons.1 hvw' with rfl|hvw'
    ·exact .inl ⟨rfl,rfl⟩
    ·rcases hall vw' hvw' with ⟨h1,h2⟩|⟨h1,h2,h3⟩
     ·exact .inl ⟨by rw[h1,hcb],by rw[h2,hsame.2]⟩
     ·refine .inr ⟨by omega,by simp;omega,λa1 a2 e1 e2=>?_⟩
      simp at e2;subst e2;exact h3 a1 _ e1 hcb
theorem Rel.appNew (h:Rel P N W0 ρ l W) {k sz cap:Nat}{lit lit':Bool}{st st':Z}{F ys:List SV}{c:Array Value}(T:TypeId) (hk:l[k]?=some (.r false lit st sz F)) (hst:st'.v.toNat=F.length) (hpos:0<ys.length)
  (hn:F.length+ys.length<=cap*sz) (hcap:cap*sz<=c.size) (hp:lit'=false->(∀ x∈F,plainV x=true)/\∀ x∈ys,plainV x=true)
  (hd:∀ (q:Nat) (x:SV),(F++ys)[q]?=some x->∃ v,c[q]?=some v/\den ρ x v):
  Rel P N W0 (upd ρ k (⟨some ⟨W.heap.size,0,none⟩,F.length+ys.length,cap⟩::ρ k)) (l.set k (.r false lit' st' sz (F++ys))) (W.alloc (.cells c T)):=by
 obtain⟨hsz,hvs,hpl,hown⟩:=h.blk k _ hk;obtain⟨cur,hcur,hcn,hcown,hcap',hall⟩:=hown rfl;have hle:Le l.length ρ (upd ρ k (⟨some ⟨W.heap.size,0,none⟩,F.length+ys.length,cap⟩::ρ k)):=qhk (λ_ hv=>List.mem_cons_of_mem _ hv);refine h.turn hk rfl (Below.allocW h _) (by simp) (λi hi _=>qit hi) (λ_ hv=>List.mem_cons_of_mem _ hv) ?_ ?_
 ·intro vw' hvw' a' ha'
  rcases List.mem_cons.1 hvw' with rfl|hvw'
  ·simp at ha';subst ha'
   exact⟨by simp,.inl (by simp)⟩
  ·exact⟨Nat.lt_of_lt_of_le (h.ids k vw' a' hvw' ha') (by simp),.inr ⟨vw',hvw',a',ha',rfl⟩⟩
 ·refine⟨hsz,?_,?_,?_⟩
  ·rw[qam]
   intro vw' hvw';rcases List.mem_cons.1 hvw' with rfl|hvw'
   ·refine⟨by simp,by simp,λq x hq hx=>?_⟩
    obtain⟨v,hv,d⟩:=hd q x hx;exact⟨_,v,rfl,by rw[Nat.zero_add,qzapb];exact hv,qfr hle h.out _ _ d⟩
   ·obtain⟨hv1,hv2,hv3⟩:=hvs vw' hvw'
    refine⟨by simp;omega,hv2,λq x hq hx=>?_⟩;rw[List.getElem?_append_left (by omega)] at hx;obtain⟨a',v,ea,hcv,d⟩:=hv3 q x hq hx;refine⟨a',v,ea,?_,qfr hle h.out _ _ d⟩;rw[qcr (W:=W)]
    ·exact hcv
    ·exact qit (h.ids k vw' a' hvw' ea)
  ·intro hl x hx
   rcases List.mem_append.1 hx with hx|hx
   ·exact (hp hl).1 x hx
   ·exact (hp hl).2 x hx
  ·intro _
   rw[qam];refine⟨_,List.mem_cons_self,by simp,?_,by simpa using hn,?_⟩
   ·intro vw' hvw'
    rcases List.mem_cons.1 hvw' with rfl|hvw'
    ·intro a' ha'
     simp at ha';subst ha';exact⟨h.hN _ (Nat.le_refl _),c,T,(0,0),qfj,by simpa using hcap,λq _=>qzaaj,.inl rfl⟩
    ·exact (hcown vw' hvw').keep λa2 ea=>qit (h.ids k vw' a2 hvw' ea)
   ·intro vw' hvw'
    rcases List.mem_cons.1 hvw' with rfl|hvw'
    ·exact .inl ⟨rfl,rfl⟩
    ·refine .inr ⟨?_,?_,λa1 a2 e1 e2=>?_⟩
     ·have:=(hvs vw' hvw').1;omega
     ·have:=(hvs vw' hvw').1;simp;omega
     ·simp at e2;subst e2
      have:=h.ids k vw' a1 hvw' e1
      simp;omega
theorem Rel.newEmpty (h:Rel P N W0 ρ l W) {lit:Bool}{sz:Nat}(hsz:0<sz):Rel P N W0 (upd ρ l.length [⟨none,0,0⟩]) (l++[.r false lit (.l 0) sz []]) W:=by
 refine h.push h.below (Nat.le_refl _) (λ_ _=>rfl) ?_ ⟨hsz,?_,λ_ x hx=>by simp at hx,?_⟩
 ·intro vw hv a ha
  simp only[List.mem_singleton] at hv;subst hv;cases ha
 ·intro vw hv
  rw[qam,List.mem_singleton] at hv;subst hv;exact⟨Nat.le_refl _,λ_=>⟨rfl,rfl⟩,λq x hq _=>by simp at hq⟩
 ·intro _
  rw[qam];refine⟨_,List.mem_singleton.2 rfl,rfl,(λvw hv a ha=>by rw[List.mem_singleton] at hv;subst hv;cases ha),by simp,?_⟩;intro vw hv;rw[List.mem_singleton] at hv;subst hv;exact .inl ⟨rfl,rfl⟩
theorem qmc {b:Option Addr}{c sz:Nat}{W:World}:(Builtin.firstCells sz 0 (.slice b 0 c)).run P W=.ok ([]:List Value).toArray W:=by
 cases b with
 | none=>rfl
 | some ad=>simp [Builtin.firstCells,loadCells,loadCellsFrom,pure]
theorem upd_idW {ρ:Nms}{k:Nat}:upd ρ k (ρ k)=ρ:=qdf
theorem qzagk:∀ {F:List SV},(∀ x∈F,plainV x=true)->plains F=true
 | [],_=>rfl
 | x::F,h=>by
  simp only[plains,Bool.and_eq_true];exact⟨h x (by simp),qzagk λy hy=>h y (by simp [hy])⟩
theorem Rel.drop (h:Rel P N W0 ρ l W) {k:Nat}{A:Blk}(hk:l[k]?=some A) (hA:A.wr=true):Rel P N W0 ρ (l.set k .dead) W:=by
 have:=h.turn (vws:=ρ k) (B:=.dead) hk hA h.below (Nat.le_refl _) (λ_ _ _=>rfl) (λ_ hv=>hv) (λvw hv a ha=>⟨h.ids k vw a hv ha,.inr ⟨vw,hv,a,ha,rfl⟩⟩) trivial
 rwa[qdf] at this
theorem Rel.pushRo (h:Rel P N W0 ρ l W) {vw:View}{lit:Bool}{sz:Nat}{F:List SV}(hsz:0<sz) (hv:ViewOk W (upd ρ l.length [vw]) F vw)
  (hsep:∀ (k:Nat) (B:Blk) (vw':View) (a a':Addr),l[k]?=some B->B.wr=true->vw'∈ρ k->vw'.base=some a->vw.base=some a'->a.block≠a'.block) (hid:∀ a,vw.base=some a->a.block<W.heap.size)
  (hp:lit=false->∀ x∈F,plainV x=true):Rel P N W0 (upd ρ l.length [vw]) (l++[.r true lit (.l 0) sz F]) W:=by
 have hle:Le l.length ρ (upd ρ l.length [vw]):=qhk (by rw[h.out _ (Nat.le_refl _)];simp);have hat:∀ (k:Nat) (B:Blk),(l++[Blk.r true lit (.l 0) sz F])[k]?=some B->(k<l.length/\l[k]?=some B)∨(k=l.length/\B=.r true lit (.l 0) sz F):=by
  intro k B hB;rcases Nat.lt_or_ge k l.length with h1|h1
  ·rw[List.getElem?_append_left h1] at hB;exact .inl ⟨h1,hB⟩
  ·rw[List.getElem?_append_right h1] at hB
   have h2:=(List.getElem?_eq_some_iff.1 hB).1;simp only[List.length_singleton] at h2;have h3:k-l.length=0:=by omega
   rw[h3] at hB;simp only[List.getElem?_cons_zero,Option.some.injEq] at hB;exact .inr ⟨by omega,hB.symm⟩
 have hwr:∀ (k:Nat) (B:Blk),(l++[Blk.r true lit (.l 0) sz F])[k]?=some B->B.wr=true->k<l.length/\l[k]?=some B:=by
  intro k B hB hw;rcases hat k B hB with h1|⟨_,rfl⟩
  ·exact h1
  ·simp [Blk.wr] at hw
 refine⟨h.below,h.le,λk hk=>?_,λk vw' a hv' ha=>?_,λk B hB=>?_,λk k' B vw1 vw2 a a' hB hw hne h1 h2 e1 e2=>?_,λk B vw1 a hB hw h1 e1=>?_,h.qN,h.fin,λk B vw1 a hB hw h1 e1=>?_⟩
 ·simp only[List.length_append,List.length_singleton] at hk
  rw[qap (by omega)];exact h.out k (by omega)
 ·by_cases hk:k=l.length
  ·subst hk
   rw[qam,List.mem_singleton] at hv';subst hv';exact hid a ha
  ·rw[qap hk] at hv';exact h.ids k vw' a hv' ha
 ·rcases hat k B hB with ⟨h1,h2⟩|⟨rfl,rfl⟩
  ·exact (h.blk k B h2).keep hle h.out (qap (by omega)) λ_ _ _ _=>rfl
  ·refine⟨hsz,λvw' hv'=>?_,hp,λe=>by cases e⟩
   rw[qam,List.mem_singleton] at hv';subst hv';exact hv
 ·obtain⟨h3,h4⟩:=hwr k B hB hw
  rw[qap (by omega)] at h1;by_cases hk:k'=l.length
  ·subst hk
   rw[qam,List.mem_singleton] at h2;subst h2;exact hsep k B vw1 a a' h4 hw h1 e1 e2
  ·rw[qap hk] at h2;exact h.sep k k' B vw1 vw2 a a' h4 hw hne h1 h2 e1 e2
 ·obtain⟨h3,h4⟩:=hwr k B hB hw
  rw[qap (by omega)] at h1;exact h.own k B vw1 a h4 hw h1 e1
 ·obtain⟨h3,h4⟩:=hwr k B hB hw
  rw[qap (by omega)] at h1;exact h.fsep k B vw1 a h4 hw h1 e1
theorem s_app {c:Call}{t u e:TypeId}{D:TypeDesc}{x y:Operand}{x' y':Opd}{sz:Nat}{zero:List SV}(ho:o.op=.call c) (hcal:c.callee=.builtin .append) (ht0:c.argTypes[0]?=some t) (ht1:c.argTypes[1]?=some u)
  (hx0:c.args[0]?=some x) (hx1:c.args[1]?=some y) (ht:P.underlying t=some (.slice e)) (hu:P.underlying u=some D) (hD:∀ k,D≠.int k) (hn:szOf P e=some sz) (hzr:zeroOf P e=some zero) (h0:sz≠0)
  (hzl:zero.length=sz) (hby:¬ P.bytesOf e > 1024) (hx:cOpd x=some x') (hy:cOpd y=some y'):Sound P o (.app sz x' y'):=by
 intro N W0 W ρ l vs a K h hR hE;have hdx:=qbe hE hx;have hdy:=qbe hE hy;obtain⟨i,z,hi,hz,hdz⟩:=qgq hzr;have hzs:z.cells.size=sz:=by have:=qan (hdz ρ);simp at this;omega
 have hby':i.bytes<=1024:=by simp only[Program.bytesOf,hi,Option.map_some,Option.getD_some] at hby;omega
 have hop:∀ {v':Value}{W':World},(Builtin.append_ c.argTypes o.type (c.args.map a.eval)).run P W=.ok v' W'->(execOp a.eval o).run P W=.ok (.value v') W':=by
  intro v' W' hr;simp [execOp,ho,resolve,hcal,invoke,builtin,hr]
 have hx0':(c.args.map a.eval)[0]?=some (a.eval x):=by simp [hx0]
 have hx1':(c.args.map a.eval)[1]?=some (a.eval y):=by simp [hx1]
 have hzc:∀ n,(Builtin.zeroCells z.cells n).size=n*sz:=λn=>by simp [Builtin.zeroCells,hzs]
 simp only[vop,vapp] at h;split at h
 ·exact h.elim
 rename_i ys m ylit hsrc;split at h
 case isFalse=>exact h.elim
 rename_i hsi;obtain⟨hm0,hyl,hpy,us,hus,hrun⟩:=src_ok hsrc hdy hR;have hone:=qzajg hsi hpy hus;have hul:us.length=ys.length:=(qan hus).symm;obtain⟨hlen,hcells⟩:=hrun W rfl;obtain⟨_,hcellsD⟩:=hrun W.drew rfl;have fresh:∀ b,a.eval x=.slice b 0 0->vnew (S0 P) l sz ys m ylit K->OpRuns P o a W (OpPost P N W0 ρ l K):=by
  intro b hb hv;unfold vnew at hv;obtain⟨hbig,hK⟩:=qbl hv;rw[zv_l] at hbig;rw[hb] at hx0';simp only[qbs,qdm] at hK;by_cases hz0:m.v.toNat=0
  ·have hys:ys=[]:=List.eq_nil_of_length_eq_zero (by rw[hyl,hz0];simp)
   have hus0:us=[]:=List.eq_nil_of_length_eq_zero (by rw[hul,hys];rfl);subst hys;subst hus0;have hr:=qer (P:=P) (W:=W) (ty:=o.type) ht0 ht1 hx0' hx1' ht hu hD hn hlen hcells (by omega) (W':=W) (by cases b<;>simp [storeCells,pure]);rw[hz0] at hr;refine .val (by simp [ho,isDefer]) (hop hr) ⟨_,_,_,hK,qox hR _,by simp,hR.newEmpty (by omega),?_⟩;simp only[den];refine⟨by simp [zv_l],hm0,_,by rw[qam];exact List.mem_singleton.2 rfl,by simp [zv_l,hz0],?_⟩;simp only[SlVal,zv_l,hz0];exact⟨by simp,trivial,b,rfl⟩
  ·have hr:=qpz (P:=P) (W:=W) (ty:=o.type) ht0 ht1 hx0' hx1' ht hu hD hi hz hn hlen hcellsD qmc (by omega) hby' (by omega)
   rw[Nat.zero_add] at hr;have hge:=grownCap_ge W m.v.toNat 0 e;generalize grownCap W m.v.toNat 0 e=cap at hr hge;have hmc:m.v.toNat*sz+(cap-m.v.toNat)*sz=cap*sz:=by rw[<-Nat.add_mul];congr 1;omega
   refine .val (by simp [ho,isDefer]) (hop hr) ⟨_,_,_,hK,qox hR _,by simp,(qyt hR).newR (cap:=cap) e (by omega) ?_ ?_ hpy (λq y' hq=>?_),?_⟩
   ·rw[hyl];exact Nat.mul_le_mul_right _ hge
   ·simp only[Array.size_append,List.size_toArray,hzc,List.length_nil,hul,hyl]
    omega
   ·obtain⟨v,hv',d⟩:=qbk q y' hus hq
    have hql:q<us.length:=(List.getElem?_eq_some_iff.1 hv').1;refine⟨v,?_,d⟩;rw[Array.getElem?_append_left (by simp;omega),Array.getElem?_append_right (by simp)];simpa using hv'
   ·simp only[den]
    refine⟨by simp [zv_l],hm0,_,by rw[qam];exact List.mem_singleton.2 rfl,by simp only[zv_l];rw[hyl];simp,?_⟩;simp only[SlVal,zv_l];exact .inl ⟨cap,by simp,by omega,by simp,by simp⟩
 have row:∀ (k:Nat) (ln:Z) (F:List SV) (lit lit':Bool) (st st':Z),ev vs x'=.sl k sz (.l 0) ln none->lget l k=.r false lit st sz F->ln.v.toNat*sz=F.length->st'.v.toNat=F.length ->
   (lit'=false->(∀ x∈F,plainV x=true)/\∀ x∈ys,plainV x=true)->ln.v+m.v<=137438953472 ->
   K (.sl k sz (.l 0) (zadd (S0 P) ln m) none) (lset l k (.r false lit' st' sz (F++ys)))->OpRuns P o a W (OpPost P N W0 ρ l K):=by
  intro k ln F lit lit' st st' he hF hfull hst hpp hbig hK;rw[he] at hdx;have hkB:=qas hF (by simp);have hklt:k<l.length:=(List.getElem?_eq_some_iff.1 hkB).1;obtain⟨_,hvs,_,hown⟩:=hR.blk k _ hkB;simp only[den] at hdx;obtain⟨_,hl0,vw,hvw,hin,hsv⟩:=hdx;rw[zv_l] at hin hsv;have hv:=hvs vw hvw;have hvn:vw.n=F.length:=by
   have:=hv.1
   simp only[Int.toNat_zero,Nat.zero_add] at hin;omega
  have ezz:(zadd (S0 P) ln m).v=ln.v+m.v:=qpt _ _;have ezn:(ln.v+m.v).toNat=ln.v.toNat+m.v.toNat:=Int.toNat_add hl0 hm0;have hyF:F.length+ys.length=(ln.v.toNat+m.v.toNat)*sz:=by rw[Nat.add_mul,hfull,hyl]
  have grow:∀ (b:Option Addr) (cp:Nat) (olds:List Value),a.eval x=.slice b ln.v.toNat cp->cp<ln.v.toNat+m.v.toNat->denL ρ F olds ->
    (Builtin.firstCells sz ln.v.toNat (.slice b ln.v.toNat cp)).run P W.drew=.ok olds.toArray W.drew->ln.v.toNat<=cp->OpRuns P o a W (OpPost P N W0 ρ l K):=by
   intro b cp olds hb hlt hdo hfo hlc;rw[hb] at hx0';have hr:=qpz (P:=P) (W:=W) (ty:=o.type) ht0 ht1 hx0' hx1' ht hu hD hi hz hn hlen hcellsD hfo hlt hby' (by omega);have hge:=grownCap_ge W (ln.v.toNat+m.v.toNat) cp e;generalize grownCap W (ln.v.toNat+m.v.toNat) cp e=cap at hr hge;have hol:olds.length=F.length:=(qan hdo).symm;have hmc:(ln.v.toNat+m.v.toNat)*sz+(cap-(ln.v.toNat+m.v.toNat))*sz=cap*sz:=by rw[<-Nat.add_mul];congr 1;omega
   have hpos:0<ys.length:=by
    rw[hyl];exact Nat.mul_pos (by omega) (by omega)
   rw[qbj] at hK;have hd2:denL ρ (F++ys) (olds++us):=qcy hdo hus;refine .val (by simp [ho,isDefer]) (hop hr) ⟨_,_,_,hK,qhk (λ_ hv=>List.mem_cons_of_mem _ hv),by simp,
    (qyt hR).appNew (cap:=cap) e hkB hst hpos ?_ ?_ hpp (λq y' hq=>?_),?_⟩
   ·rw[hyF];exact Nat.mul_le_mul_right _ hge
   ·simp only[Array.size_append,List.size_toArray,hzc,hol,hul]
    omega
   ·obtain⟨v,hv',d⟩:=qbk q y' hd2 hq
    have hql:q<(olds++us).length:=(List.getElem?_eq_some_iff.1 hv').1;refine⟨v,?_,d⟩;rw[Array.getElem?_append_left (by simpa using hql)];simpa using hv'
   ·simp only[den]
    rw[ezz,ezn];refine⟨by simp [zv_l],by omega,_,by rw[qam];exact List.mem_cons_self,by simp only[zv_l,Int.toNat_zero,Nat.zero_add];rw[hyF];exact Nat.le_refl _,?_⟩;simp only[SlVal,zv_l];exact .inl ⟨cap,by simp,by omega,by simp,by simp⟩
  have empty:∀ b,a.eval x=.slice b 0 0->ln.v.toNat=0->OpRuns P o a W (OpPost P N W0 ρ l K):=by
   intro b hb e0;have hF0:F=[]:=List.eq_nil_of_length_eq_zero (by rw[<-hfull,e0];simp);by_cases hz0:m.v.toNat=0
   ·have hys:ys=[]:=List.eq_nil_of_length_eq_zero (by rw[hyl,hz0];simp)
    have hus0:us=[]:=List.eq_nil_of_length_eq_zero (by rw[hul,hys];rfl);subst hF0;subst hys;subst hus0;rw[hb] at hx0';have hr:=qer (P:=P) (W:=W) (ty:=o.type) ht0 ht1 hx0' hx1' ht hu hD hn hlen hcells (by omega) (W':=W) (by cases b<;>simp [storeCells,pure]);rw[hz0] at hr;rw[qbj] at hK;have hR2:Rel P N W0 ρ (l.set k (.r false lit' st' sz ([]++[]))) W:=by
     rw[<-upd_idW (ρ:=ρ) (k:=k)];refine hR.turn hkB rfl hR.below (Nat.le_refl _) (λ_ _ _=>rfl) (λ_ hv=>hv) (λvw' hvw' a' ha'=>⟨hR.ids k vw' a' hvw' ha',.inr ⟨vw',hvw',a',ha',rfl⟩⟩) ?_;rw[upd_idW];obtain⟨cur,hcur,hcn,hcown,hcap,hall⟩:=hown rfl;refine⟨by omega,λvw' hvw'=>hvs vw' hvw',λ_ x hx=>by simp at hx,λ_=>⟨cur,hcur,hcn,hcown,hcap,λvw' hvw'=>?_⟩⟩;rcases hall vw' hvw' with h1|⟨_,h1,_⟩
     ·exact .inl h1
     ·simp at h1
    refine .val (by simp [ho,isDefer]) (hop hr) ⟨ρ,_,_,hK,Le.refl _ _,by simp,hR2,?_⟩;simp only[den];rw[ezz,ezn,e0,hz0];refine⟨by simp [zv_l],by omega,vw,hvw,by simp [zv_l],?_⟩;simp only[SlVal,zv_l];cases vw.base with
    | none=>exact⟨by simp,by simp,b,rfl⟩
    | some ad=>exact .inr ⟨by simp,⟨b,rfl⟩,by simp⟩
   ·refine grow b 0 [] (by rw[e0];exact hb) (by omega) (by rw[hF0];simp [denL]) (by rw[e0];exact qmc) (by omega)
  unfold SlVal at hsv;cases hbase:vw.base with
  | none=>
   rw[hbase] at hsv;obtain⟨_,e0,b,hb⟩:=hsv;exact empty b hb e0
  | some ad=>
   rw[hbase] at hsv;rcases hsv with ⟨cp,hb,hlc,_,hcap⟩|⟨e0,⟨b,hb⟩,_⟩
   ·simp only[Option.map_none,Int.toNat_zero,Nat.zero_add,Nat.zero_mul,Nat.add_zero] at hcap hb
    by_cases hroom:ln.v.toNat+m.v.toNat<=cp
    ·
     have hcr:F.length+ys.length<=vw.cap*sz:=by rw[hyF,<-hcap];exact Nat.mul_le_mul_right _ hroom
     obtain⟨W',hst',hR2⟩:=hR.appIn (st':=st') hkB hvw hbase hvn hcr hst hone hpp hus;rw[hb] at hx0';have hr:=qer (P:=P) (W:=W) (ty:=o.type) ht0 ht1 hx0' hx1' ht hu hD hn hlen hcells hroom (W':=W') (by simp only[qbu];rw[hfull];exact hst');rw[qbj] at hK;refine .val (by simp [ho,isDefer]) (hop hr) ⟨_,_,_,hK,qhk (λ_ hv=>List.mem_cons_of_mem _ hv),by simp,hR2,?_⟩;simp only[den];rw[ezz,ezn];refine⟨by simp [zv_l],by omega,_,by rw[qam];exact List.mem_cons_self,by simp only[zv_l,Int.toNat_zero,Nat.zero_add];rw[hyF];exact Nat.le_refl _,?_⟩;simp only[SlVal,zv_l];exact .inl ⟨cp,by simp,by omega,by simp;omega,by simp;omega⟩
    ·obtain⟨olds,hdo,hcell⟩:=qkc (ρ:=ρ) F (λq=>W.cell? ⟨ad.block,ad.off+q,none⟩) (λq x hx=>by
      obtain⟨a',v,ea,hc,d⟩:=hv.2.2 q x (by rw[hvn];exact (List.getElem?_eq_some_iff.1 hx).1) hx;rw[hbase] at ea;simp at ea;subst ea;exact⟨v,hc,d⟩)
     have hol:olds.length=ln.v.toNat*sz:=by rw[hfull];exact (qan hdo).symm
     have hl:=run_loadCells_list (P:=P) W.drew ⟨ad.block,ad.off,none⟩ olds (λj u hj=>by
      rw[qbu,qcr (W:=W) (W':=W.drew) rfl];exact hcell j u hj)
     rw[hol] at hl;exact grow _ cp olds hb (by omega) hdo (by simp [Builtin.firstCells,hl]) hlc
   ·exact empty b (by rw[hb]) e0
 have stale:∀ (k:Nat) (ln:Z) (F:List SV) (st:Z),ev vs x'=.sl k sz (.l 0) ln none->lget l k=.r false true st sz F->0<ln.v.toNat->ln.v+m.v<=137438953472 ->
   K (.sl (len l) sz (.l 0) (zadd (S0 P) ln m) none) (snoc (lset l k .dead) (.r true true (.l 0) sz (takeS F (ln.v.toNat*sz)++ys)))->OpRuns P o a W (OpPost P N W0 ρ l K):=by
  intro k ln F st he hF hpos hbig hK;rw[he] at hdx;have hkB:=qas hF (by simp);obtain⟨_,hvs,_,hown⟩:=hR.blk k _ hkB;obtain⟨cur,hcur,hcn,hcown,hcap',hall⟩:=hown rfl;simp only[den] at hdx;obtain⟨_,hl0,vw,hvw,hin,hsv⟩:=hdx;rw[zv_l] at hin hsv;simp only[Int.toNat_zero,Nat.zero_add] at hin;have hv:=hvs vw hvw;have ezz:(zadd (S0 P) ln m).v=ln.v+m.v:=qpt _ _;have ezn:(ln.v+m.v).toNat=ln.v.toNat+m.v.toNat:=Int.toNat_add hl0 hm0;have hTl:(takeS F (ln.v.toNat*sz)).length=ln.v.toNat*sz:=by
   rw[qey,List.length_take];have:=hv.1;omega
  have hyF:(takeS F (ln.v.toNat*sz)++ys).length=(ln.v.toNat+m.v.toNat)*sz:=by rw[List.length_append,hTl,Nat.add_mul,hyl]
  rw[qbs,qdm,qbj] at hK;unfold SlVal at hsv;cases hbase:vw.base with
  | none=>rw[hbase] at hsv;obtain⟨_,e0,_⟩:=hsv;omega
  | some ad=>
   rw[hbase] at hsv;rcases hsv with ⟨cp,hb,hlc,_,hcap⟩|⟨e0,_,_⟩
   ·simp only[Option.map_none,Int.toNat_zero,Nat.zero_add,Nat.zero_mul,Nat.add_zero] at hcap hb
    rw[hb] at hx0';obtain⟨olds,hdo,hcell⟩:=qkc (ρ:=ρ) (takeS F (ln.v.toNat*sz)) (λq=>W.cell? ⟨ad.block,ad.off+q,none⟩) (λq x hx=>by
     have hq:=(List.getElem?_eq_some_iff.1 hx).1;rw[hTl] at hq;rw[qey,List.getElem?_take_of_lt hq] at hx;obtain⟨a',v,ea,hc,d⟩:=hv.2.2 q x (by omega) hx;rw[hbase] at ea;simp at ea;subst ea;exact⟨v,hc,d⟩)
    have hol:olds.length=ln.v.toNat*sz:=by rw[<-hTl];exact (qan hdo).symm
    have hd2:denL ρ (takeS F (ln.v.toNat*sz)++ys) (olds++us):=qcy hdo hus;by_cases hroom:ln.v.toNat+m.v.toNat<=cp
    ·obtain⟨hNb,c,T,fz,hh,hcs,hf,hfz⟩:=hcown vw hvw ad hbase
     have hsp:ad.off+ln.v.toNat*sz+us.length<=c.size:=by
      rw[hul,hyl]
      have:(ln.v.toNat+m.v.toNat)*sz<=vw.cap*sz:=by rw[<-hcap];exact Nat.mul_le_mul_right _ hroom
      rw[Nat.add_mul] at this;omega
     have hrun2:=qcm (P:=P) (b:=ad.block) us (ad.off+ln.v.toNat*sz) 0 c W hh (by omega) hf hone;simp only[Nat.add_zero] at hrun2;have hlt:=qbf hh;have hr:=qer (P:=P) (W:=W) (ty:=o.type) ht0 ht1 hx0' hx1' ht hu hD hn hlen hcells hroom (W':=setO W ad.block (.cells (splice c (ad.off+ln.v.toNat*sz) us) T fz)) (by simp only[qbu];exact hrun2);have hR2:Rel P N W0 ρ (l.set k .dead) (setO W ad.block (.cells (splice c (ad.off+ln.v.toNat*sz) us) T fz)):=by
      have:=hR.turn (vws:=ρ k) (B:=.dead) (W':=setO W ad.block (.cells (splice c (ad.off+ln.v.toNat*sz) us) T fz)) hkB rfl
       (hR.below.trans ⟨rfl,rfl,rfl,by rw[qar];exact Nat.le_refl _,λj hj=>qat (λe=>hj (by subst e;exact hNb))⟩) (by rw[qar];exact Nat.le_refl _)
       (λi _ hi=>qat (λhib=>hi vw hvw ad hbase hib.symm)) (λ_ hv=>hv) (λvw' hv' a' ha'=>⟨by rw[qar];exact hR.ids k vw' a' hv' ha',.inr ⟨vw',hv',a',ha',rfl⟩⟩) trivial
      rwa[qdf] at this
     have hlen2:(l.set k Blk.dead).length=l.length:=List.length_set;have hle:Le l.length ρ (upd ρ l.length [⟨some ad,(ln.v.toNat+m.v.toNat)*sz,cp⟩]):=qhk (by rw[hR.out _ (Nat.le_refl _)];simp);have hR3:=hR2.pushRo (vw:=⟨some ad,(ln.v.toNat+m.v.toNat)*sz,cp⟩) (lit:=true) (sz:=sz) (F:=takeS F (ln.v.toNat*sz)++ys) (by omega) ⟨by rw[hyF];exact Nat.le_refl _,by simp,λq y' hq hx=>by
       obtain⟨v,hv',d⟩:=qbk q y' hd2 hx;refine⟨ad,v,rfl,?_,by rw[hlen2];exact qfr hle hR.out _ _ d⟩;have hc:(setO W ad.block (.cells (splice c (ad.off+ln.v.toNat*sz) us) T fz)).cell? ⟨ad.block,ad.off+q,none⟩=(splice c (ad.off+ln.v.toNat*sz) us)[ad.off+q]?:=by simp [World.cell?,qbr hlt]
       rw[hc,qix us c _ _ hsp];rcases Nat.lt_or_ge q (ln.v.toNat*sz) with h1|h1
       ·rw[if_neg (by omega)]
        rw[List.getElem?_append_left (by omega)] at hv'
        have:=hcell q v hv'
        simpa [World.cell?,hh] using this
       ·have hq2:=(List.getElem?_eq_some_iff.1 hv').1
        rw[List.length_append] at hq2;rw[List.getElem?_append_right (by omega),hol] at hv';rw[if_pos (by omega),show ad.off+q-(ad.off+ln.v.toNat*sz)=q-ln.v.toNat*sz by omega];exact hv'⟩
      (λj B vw' a1 a2 hB hw hv' e1 e2=>by
       simp only[Option.some.injEq] at e2;subst e2;by_cases hj:j=k
       ·subst hj
        rw[List.getElem?_set_self (List.getElem?_eq_some_iff.1 hkB).1] at hB;simp at hB;subst hB;simp [Blk.wr] at hw
       ·rw[List.getElem?_set_ne (Ne.symm hj)] at hB
        exact hR.sep j k B vw' vw a1 ad hB hw hj hv' hvw e1 hbase)
      (λa1 e1=>by simp only[Option.some.injEq] at e1;subst e1;rw[qar];exact hlt) (λe=>by cases e)
     rw[hlen2] at hR3;refine .val (by simp [ho,isDefer]) (hop hr) ⟨_,_,_,hK,hle,by simp,hR3,?_⟩;simp only[den];rw[ezz,ezn];refine⟨by simp [zv_l],by omega,_,by rw[qam];exact List.mem_singleton.2 rfl,by simp only[zv_l,Int.toNat_zero,Nat.zero_add];exact Nat.le_refl _,?_⟩;simp only[SlVal,zv_l];exact .inl ⟨cp,by simp,by omega,by simp,by simp⟩
    ·have hl:=run_loadCells_list (P:=P) W.drew ⟨ad.block,ad.off,none⟩ olds (λj u hj=>by
      rw[qbu,qcr (W:=W) (W':=W.drew) rfl];exact hcell j u hj)
     rw[hol] at hl;have hr:=qpz (P:=P) (W:=W) (ty:=o.type) ht0 ht1 hx0' hx1' ht hu hD hi hz hn hlen hcellsD (olds:=olds) (by simp [Builtin.firstCells,hl]) (by omega) hby' (by omega);have hge:=grownCap_ge W (ln.v.toNat+m.v.toNat) cp e;generalize grownCap W (ln.v.toNat+m.v.toNat) cp e=cap at hr hge;have hmc:(ln.v.toNat+m.v.toNat)*sz+(cap-(ln.v.toNat+m.v.toNat))*sz=cap*sz:=by rw[<-Nat.add_mul];congr 1;omega
     have hlen2:(l.set k Blk.dead).length=l.length:=List.length_set;have hR3:=(qyt (hR.drop hkB rfl)).newR (cap:=cap) (c:=olds.toArray++us.toArray++Builtin.zeroCells z.cells (cap-(ln.v.toNat+m.v.toNat))) (lit:=true) (F:=takeS F (ln.v.toNat*sz)++ys) e (sz:=sz) (by omega)
      (by rw[hyF];exact Nat.mul_le_mul_right _ hge) (by simp only[Array.size_append,List.size_toArray,hzc,hol,hul,hyl];rw[Nat.add_mul] at hmc;omega) (λe=>by cases e) (λq y' hq=>by
       obtain⟨v,hv',d⟩:=qbk q y' hd2 hq;have hql:q<(olds++us).length:=(List.getElem?_eq_some_iff.1 hv').1;refine⟨v,?_,d⟩;rw[Array.getElem?_append_left (by simpa using hql)];simpa using hv')
     have hat:(l.set k Blk.dead++[Blk.r false true (.l 0) sz (takeS F (ln.v.toNat*sz)++ys)])[l.length]?=some (.r false true (.l 0) sz (takeS F (ln.v.toNat*sz)++ys)):=by
      rw[List.getElem?_append_right (by rw[hlen2];exact Nat.le_refl _),hlen2];simp
     have hset:(l.set k Blk.dead++[Blk.r false true (.l 0) sz (takeS F (ln.v.toNat*sz)++ys)]).set l.length (.r true true (.l 0) sz (takeS F (ln.v.toNat*sz)++ys))=l.set k Blk.dead++[.r true true (.l 0) sz (takeS F (ln.v.toNat*sz)++ys)]:=by
      rw[List.set_append_right _ _ (by rw[hlen2];exact Nat.le_refl _),hlen2];simp
     rw[hlen2] at hR3;obtain⟨b1,b2,b3,_⟩:=hR3.blk _ _ hat;have hR4:=hR3.turn (B:=.r true true (.l 0) sz (takeS F (ln.v.toNat*sz)++ys)) hat rfl hR3.below (Nat.le_refl _) (λ_ _ _=>rfl) (λ_ hv=>hv) (λvw' hv' a' ha'=>⟨hR3.ids _ vw' a' hv' ha',.inr ⟨vw',hv',a',ha',rfl⟩⟩) (by rw[qdf];exact⟨b1,b2,b3,λe=>by cases e⟩);rw[qdf,hset] at hR4;refine .val (by simp [ho,isDefer]) (hop hr) ⟨_,_,_,hK,qhk (by rw[hR.out _ (Nat.le_refl _)];simp),by simp,hR4,?_⟩;simp only[den];rw[ezz,ezn];refine⟨by simp [zv_l],by omega,_,by rw[qam];exact List.mem_singleton.2 rfl,by simp only[zv_l,Int.toNat_zero,Nat.zero_add];rw[hyF];exact Nat.le_refl _,?_⟩;simp only[SlVal,zv_l];exact .inl ⟨cap,by simp,by omega,by simp,by simp⟩
   ·omega
 split at h
 ·
  rename_i he;rw[he] at hdx;simp only[den] at hdx;exact fresh none hdx.1 h
 ·
  rename_i k sz' off ln he;rw[he] at hdx;split at h
  case isFalse=>exact h.elim
  rename_i hh;obtain⟨rfl,rfl,rfl⟩:=hh;simp only[den] at hdx;obtain⟨_,_,vw,_,_,hsv⟩:=hdx
  have:∃ b,a.eval x=.slice b 0 0:=by
   unfold SlVal at hsv;split at hsv
   ·obtain⟨_,_,a',e⟩:=hsv;exact⟨a',e⟩
   ·rcases hsv with ⟨c,e1,_,_,e2⟩|⟨_,e1,_⟩
    ·simp only[Option.map_some,zv_l] at e2
     have:c=0:=by omega
     subst this;exact⟨_,e1⟩
    ·exact e1
  obtain⟨b,hb⟩:=this;exact fresh b hb h
 ·
  rename_i k sz' off ln zc hne he;split at h
  case isFalse=>exact h.elim
  rename_i hh;obtain⟨rfl,rfl⟩:=hh;unfold vap2 at h;split at h
  case h_2=>exact h.elim
  rename_i lit st sz'' F hF;split at h
  case isFalse=>exact h.elim
  rename_i hc;obtain⟨rfl,hpl⟩:=hc;obtain⟨h0z,h⟩:=qbl h;obtain⟨h1,h⟩:=qbl h;obtain⟨h2,hK⟩:=h;rw[qpt,qzacf] at h1;have h1':ln.v+m.v<=-1-zc.v:=h1;have h0':zc.v<=-1:=h0z;have hkB:=qas hF (by simp);rw[he] at hdx;simp only[den] at hdx;obtain⟨_,hl0,vw,hvw,hin,hsv⟩:=hdx;have ezz:(zadd (S0 P) ln m).v=ln.v+m.v:=qpt _ _;have ezn:(ln.v+m.v).toNat=ln.v.toNat+m.v.toNat:=Int.toNat_add hl0 hm0;have hst:st.v.toNat<=ln.v.toNat*sz:=by
   have h7:decide (st.v<=ln.v*(sz:Int))=true:=h2;have h8:=of_decide_eq_true h7;have e5:((ln.v.toNat:Nat):Int)=ln.v:=Int.toNat_of_nonneg hl0;have e6:st.v<=((ln.v.toNat*sz:Nat):Int):=by rw[Int.natCast_mul,e5];exact h8
   omega
  have hF3:=(hR.blk k _ hkB).2.2.1;rw[qbj] at hK;unfold SlVal at hsv;cases hbase:vw.base with
  | none=>
   rw[hbase] at hsv
   have:=hsv.1.2 zc.v rfl
   omega
  | some ad=>
   rw[hbase] at hsv;simp only[Option.map_some,zv_l,Int.toNat_zero,Nat.zero_add,Nat.zero_mul,Nat.add_zero] at hsv;have hself:ys=[]->l.set k (.r false lit st sz (repl F (ln.v.toNat*sz) ys))=l:=by
    intro e;subst e;rw[repl];obtain⟨h9,e9⟩:=List.getElem?_eq_some_iff.1 hkB;rw[<-e9,List.set_getElem_self]
   rcases hsv with ⟨cp,hb,hlc,hcc,hcz⟩|⟨q1,⟨a',hb⟩,q2⟩
   ·have hcz2:-1-zc.v<=(cp:Int)/\(-1-zc.v).toNat*sz<=vw.n/\cp=vw.cap:=by
     rcases hcz with g1|⟨_,g0,g1,g2⟩
     ·omega
     ·exact⟨g1,g2,g0⟩
    have hfit:(ln.v.toNat+m.v.toNat)*sz<=vw.n:=Nat.le_trans (Nat.mul_le_mul_right sz (by omega)) hcz2.2.1;have hroom:ln.v.toNat+m.v.toNat<=cp:=by omega
    rw[hb] at hx0';have hfin:∀ W',Rel P N W0 ρ (l.set k (.r false lit st sz (repl F (ln.v.toNat*sz) ys))) W'->(storeCells ⟨ad.block,ad.off+ln.v.toNat*sz,none⟩ us).run P W=.ok () W'->OpRuns P o a W (OpPost P N W0 ρ l K):=by
     intro W' hR2 hst2;have hr:=qer (P:=P) (W:=W) (ty:=o.type) ht0 ht1 hx0' hx1' ht hu hD hn hlen hcells hroom (W':=W') (by simp only[qbu];exact hst2);refine .val (by simp [ho,isDefer]) (hop hr) ⟨ρ,_,_,hK,Le.refl _ _,by simp,hR2,?_⟩;simp only[den];rw[ezz,ezn];refine⟨by simp [zv_l],by omega,vw,hvw,by simp only[zv_l,Int.toNat_zero,Nat.zero_add];exact hfit,?_⟩;unfold SlVal;rw[hbase];simp only[zv_l,Option.map_some];exact .inl ⟨cp,by simp,by omega,by simp;omega,.inr ⟨by omega,by simp only[Int.toNat_zero,Nat.zero_add];exact hcz2.2.2,by omega,by simp only[Int.toNat_zero,Nat.zero_add];exact hcz2.2.1⟩⟩
    by_cases hz0:m.v.toNat=0
    ·have hys:ys=[]:=List.eq_nil_of_length_eq_zero (by rw[hyl,hz0];simp)
     have hus0:us=[]:=List.eq_nil_of_length_eq_zero (by rw[hul,hys];rfl);refine hfin W (by rw[hself hys];exact hR) (by rw[hus0];simp [storeCells,pure])
    ·have hpys:∀ x∈ys,plainV x=true:=by
      cases ylit with
      | true=>exact λx hx=>qet hpl x hx
      | false=>exact hpy rfl
     have hscy:scalars ys=true:=qgj (qzagk hpys);have hwl:0<ys.length:=by
      rw[hyl];exact Nat.mul_pos (by omega) (by omega)
     have hfit2:ln.v.toNat*sz+ys.length<=vw.n:=by rw[hyl,<-Nat.add_mul];exact hfit
     obtain⟨W',hr,hR2⟩:=hR.storeR (lit':=lit) (q0:=ln.v.toNat*sz) hkB hvw hbase hfit2 hst hwl hscy (λe=>⟨hpys,hF3 e⟩) hus;exact hfin W' hR2 hr
   ·have hq:=q2 _ rfl
    have e0:ln.v.toNat=0:=by omega
    have em:m.v.toNat=0:=by omega
    have hys:ys=[]:=List.eq_nil_of_length_eq_zero (by rw[hyl,em];simp);have hus0:us=[]:=List.eq_nil_of_length_eq_zero (by rw[hul,hys];rfl);rw[hself hys] at hK;subst hys;subst hus0;rw[hb] at hx0';have hr:=qer (P:=P) (W:=W) (ty:=o.type) ht0 ht1 hx0' hx1' ht hu hD hn hlen hcells (by omega) (W':=W) (by cases a'<;>simp [storeCells,pure]);rw[em] at hr;refine .val (by simp [ho,isDefer]) (hop hr) ⟨ρ,_,_,hK,Le.refl _ _,by simp,hR,?_⟩;simp only[den];rw[ezz,ezn,e0,em];refine⟨by simp [zv_l],by omega,vw,hvw,by simp [zv_l],?_⟩;unfold SlVal;rw[hbase];simp only[zv_l,Option.map_some];exact .inr ⟨by simp,⟨a',rfl⟩,λz' hz'=>by simp only[Option.some.injEq] at hz';omega⟩
 ·
  rename_i k sz' off ln he;split at h
  case isFalse=>exact h.elim
  rename_i hh;obtain⟨rfl,rfl⟩:=hh;split at h
  case h_2=>exact h.elim
  rename_i lit st sz'' F hF;split at h
  case isFalse=>exact h.elim
  rename_i hs2;subst hs2;split at h
  ·rename_i ln'
   split at h
   case isFalse=>
    split at h
    case isFalse=>exact h.elim
    rename_i hpos;obtain⟨hbig,hK⟩:=qbl h;rw[zv_l,qpt] at hbig;rw[qhj] at hK;exact stale k (.l ln') F st he hF (by rw[zv_l];exact hpos) hbig hK
   rename_i hfull;rw[qdo] at hfull;obtain⟨hbig,hK⟩:=qbl h;rw[zv_l,qpt] at hbig;rw[qdo,qhj] at hK;exact row k (.l ln') F true true st (.l F.length) he hF (by rw[zv_l];exact hfull) (by rw[zv_l];simp) (λe=>by cases e) hbig hK
  ·split at h
   case isFalse=>exact h.elim
   rename_i hp;obtain⟨hc,h⟩:=h;obtain⟨hbig,hK⟩:=qbl h;rw[zv_l,qpt] at hbig;have hc':ln.v*(sz:Int)=(F.length:Int):=by
    have:decide (ln.v*(sz:Int)=(F.length:Int))=true:=hc
    simpa using this
   have hl0:0<=ln.v:=by
    rw[he] at hdx;simp only[den] at hdx;exact hdx.2.1
   have hfull:ln.v.toNat*sz=F.length:=by
    have e1:((ln.v.toNat:Nat):Int)=ln.v:=Int.toNat_of_nonneg hl0;have e2:((ln.v.toNat*sz:Nat):Int)=(F.length:Int):=by rw[Int.natCast_mul,e1];exact hc'
    exact Int.ofNat.inj e2
   have hpF:∀ x∈F,plainV x=true:=by
    cases lit with
    | true=>exact λx hx=>qet hp.1 x hx
    | false=>exact (hR.blk k _ (qas hF (by simp))).2.2.1 rfl
   have hpy2:∀ x∈ys,plainV x=true:=by
    cases ylit with
    | true=>exact λx hx=>qet hp.2 x hx
    | false=>exact hpy rfl
   exact row k ln F lit false st (.y F.length) he hF hfull (by rw[zv_y];simp) (λ_=>⟨hpF,hpy2⟩) hbig hK
 ·exact h.elim
theorem qzarc {ats:Array TypeId}{args:Array Value}{t u ty e:TypeId}{m sz:Nat}{k k2:IntKind}{i:TypeInfo}{z:Value}(ha0:ats[0]?=some t) (ha1:ats[1]?=some u) (hx0:args[0]?=some (.slice none 0 0)) (hx1:args[1]?=some (.int k2 m)) (ht:P.underlying t=some (.slice e))
  (hu:P.underlying u=some (.int k)) (hi:P.info? e=some i) (hz:i.zero=some z) (hn:szOf P e=some sz) (h0:0<m) (hm:m<=65536) (hs0:sz≠0) (hby:i.bytes<=1024):
  (Builtin.append_ ats ty args).run P W=.ok (.slice (some ⟨W.heap.size,0,none⟩) m (grownCap W m 0 e)) (W.drew.alloc (.cells (Builtin.zeroCells z.cells m++Builtin.zeroCells z.cells (grownCap W m 0 e-m)) e)):=by
 have hw:IntKind.i64.wrap (m:Int)=m:=by simp [IntKind.wrap,IntKind.bits,IntKind.signed];omega
 have hb:m*i.bytes<=65536*1024:=Nat.mul_le_mul hm hby;have h1:¬ (m<=0):=by omega
 have h2:¬ ((m:Int)<0):=by omega
 have h3:¬ (281474976710656<(m:Int)*(i.bytes:Int)):=by
  have:((m*i.bytes:Nat):Int)=(m:Int)*(i.bytes:Int):=by simp
  omega
 have h63:¬ (9223372036854775807<(m:Int)):=by omega
 have h48:¬ (281474976710656<Builtin.nextslicecap m 0*i.bytes):=by
  have h5:m*i.bytes<=140737488355328:=by omega
  have:=growslice_fits (need:=m) (old:=0) h0 h5
  omega
 have hm0:m≠0:=by omega
 have hms:¬ (m*sz=0):=Nat.mul_ne_zero hm0 hs0;simp [hms,Builtin.append_,ha0,ha1,hx0,hx1,qab ht,qab hu,qbb hn,asInt,asIntOf,hw,h2,h3,h1,hm0,hs0,typeInfo,hi,h63,h48,Question.forced,zeroValue,hz,newRow,grownCap,qmc]
theorem s_appZ {c:Call}{t u e:TypeId}{k:IntKind}{x y:Operand}{x' y':Opd}{sz:Nat}{zero:List SV}(ho:o.op=.call c) (hcal:c.callee=.builtin .append) (ht0:c.argTypes[0]?=some t) (ht1:c.argTypes[1]?=some u)
  (hx0:c.args[0]?=some x) (hx1:c.args[1]?=some y) (ht:P.underlying t=some (.slice e)) (hu:P.underlying u=some (.int k)) (hn:szOf P e=some sz) (hzr:zeroOf P e=some zero) (h0:sz≠0)
  (hzl:zero.length=sz) (hby:¬ P.bytesOf e > 1024) (hx:cOpd x=some x') (hy:cOpd y=some y'):Sound P o (.appZ sz zero x' y'):=by
 intro N W0 W ρ l vs a K h hR hE;have hdx:=qbe hE hx;have hdy:=qbe hE hy;obtain⟨i,z,hi,hz,hdz⟩:=qgq hzr;have hzs:z.cells.size=sz:=by have:=qan (hdz ρ);simp at this;omega
 have hby':i.bytes<=1024:=by simp only[Program.bytesOf,hi,Option.map_some,Option.getD_some] at hby;omega
 simp only[vop] at h;split at h
 ·rename_i zm he hi2
  rw[he] at hdx;simp only[den] at hdx;obtain⟨k2,e2⟩:=qdz hi2 hdy;obtain⟨hp0,h⟩:=qzakq h;obtain⟨_,hm0,hmb,hp,hK⟩:=h;simp only[qbs,qdm] at hK;rw[zv_l] at hp0;obtain⟨m,hm⟩:∃ m:Nat,zm.v=m:=⟨zm.v.toNat,by omega⟩;have hmt:zm.v.toNat=m:=by omega
  rw[hm] at e2;have hr:=qzarc (P:=P) (W:=W) (m:=m) (k2:=k2) (ty:=o.type) ht0 ht1 (args:=c.args.map a.eval) (by simp [hx0,hdx.1]) (by simp [hx1,e2]) ht hu hi hz hn (by omega) (by omega) h0 hby';have hge:=grownCap_ge W m 0 e;generalize grownCap W m 0 e=cap at hr hge;have hzc:∀ n,(Builtin.zeroCells z.cells n).size=n*sz:=λn=>by simp [Builtin.zeroCells,hzs]
  have hdz2:=qzaet (n:=m) (hdz ρ) hzl h0;have hlen:=qan hdz2;simp only[Array.length_toList,Array.size_map,Array.size_range] at hlen;rw[hmt] at hp hK;have hmc:m*sz+(cap-m)*sz=cap*sz:=by rw[<-Nat.add_mul];congr 1;omega
  have hex:(execOp a.eval o).run P W=.ok (.value (.slice (some ⟨W.heap.size,0,none⟩) m cap)) (W.drew.alloc (.cells (Builtin.zeroCells z.cells m++Builtin.zeroCells z.cells (cap-m)) e)):=by
   simp [execOp,ho,resolve,hcal,invoke,builtin,hr]
  refine .val (by simp [ho,isDefer]) hex ⟨_,_,_,hK,qox hR _,by simp,(qyt hR).newR (cap:=cap) e (by omega) ?_ ?_ (λ_ x hx=>qbw hp x hx) (λq x hq=>?_),?_⟩
  ·rw[hlen];exact Nat.mul_le_mul_right _ (by omega)
  ·simp only[Array.size_append,hzc];omega
  ·obtain⟨v,hv,d⟩:=qbk q x hdz2 hq
   have hql:=(List.getElem?_eq_some_iff.1 hv).1;simp only[Array.length_toList,Array.size_map,Array.size_range] at hql;refine⟨v,?_,d⟩;rw[Array.getElem?_append_left (by rw[hzc];exact hql)];rw[<-Array.getElem?_toList];simpa [Builtin.zeroCells,hzs] using hv
  ·simp only[den]
   refine⟨by simp [zv_l],by omega,_,by rw[qam];exact List.mem_singleton.2 rfl,by simp [zv_l,hm];omega,?_⟩;simp only[SlVal,zv_l,hm];exact .inl ⟨cap,by simp,by omega,by simp,by simp⟩
 ·exact h.elim
end
end Cz
namespace Cz
open Go Go.RowKit
section
variable {P:Program}{N:Nat->Prop}{W0 W:World}{ρ:Nms}{l:List Blk}{o:Oper}
theorem qoa:∀ es:List (SV×SV),lenM es=es.length
 | []=>rfl
 | _::es=>by simp only[lenM,qoa es,List.length_cons]
theorem qzaob {i:Nat}:∀ {s:List Nat},hasM s i=true↔i∈s
 | []=>by simp [hasM]
 | x::s=>by
  simp only[hasM,Bool.or_eq_true,qzaob,List.mem_cons,Nat.beq_eq];exact⟨λh=>h.imp Eq.symm id,λh=>h.imp Eq.symm id⟩
theorem qzapc {s:List Nat}:∀ {n:Nat},allM s n=true↔∀ i,i<n->i∈s
 | 0=>by simp [allM]
 | n+1=>by
  simp only[allM,Bool.and_eq_true,qzaob,qzapc];exact⟨λ⟨h1,h2⟩ i hi=>(Nat.lt_or_ge i n).elim (λhl=>h2 i hl) (λhg=>(show i=n by omega)▸h1),λh=>⟨h n (by omega),λi hi=>h i (by omega)⟩⟩
theorem addM_eq {i:Nat}:∀ {s:List Nat},addM s i=s++[i]
 | []=>rfl
 | x::s=>by simp only[addM,addM_eq,List.cons_append]
theorem lastM_eq:∀ {s:List Nat},lastM s=s.getLast?
 | []=>rfl
 | [x]=>rfl
 | _::y::s=>by simp only[lastM,lastM_eq (s:=y::s),List.getLast?_cons_cons]
theorem MapRel.at {es:List (SV×SV)}:∀ {es':List MapEntry}{i:Nat}{e:MapEntry},MapRel ρ es es'->es'[i]?=some e->∃ a b,es[i]?=some (a,b)/\den ρ a e.key/\den ρ b e.val:=by
 induction es with
 | nil=>intro es' i e h he;cases es' with
  | nil=>simp at he
  | cons _ _=>simp [MapRel] at h
 | cons p es ih=>
  intro es' i e h he;obtain⟨a,b⟩:=p;cases es' with
  | nil=>simp at he
  | cons e0 es'=>
   obtain⟨h1,h2,h3⟩:=h;cases i with
   | zero=>simp only[List.getElem?_cons_zero,Option.some.injEq] at he;subst he;exact⟨a,b,rfl,h1,h2⟩
   | succ i=>exact ih h3 (by simpa using he)
theorem MapRel.len {es:List (SV×SV)}:∀ {es':List MapEntry},MapRel ρ es es'->es.length=es'.length:=by
 induction es with
 | nil=>intro es' h;cases es' with
  | nil=>rfl
  | cons _ _=>simp [MapRel] at h
 | cons p es ih=>
  intro es' h;obtain⟨a,b⟩:=p;cases es' with
  | nil=>simp [MapRel] at h
  | cons e0 es'=>simp [ih h.2.2]
theorem vpos_at {seen:List Nat}{K:Nat->SV->SV->Prop}:∀ {es:List (SV×SV)}{j i:Nat}{a b:SV},vpos seen K j es->es[i]?=some (a,b)->(j+i)∉seen->K (j+i) a b
 | [],_,_,_,_,_,h,_=>by simp at h
 | (x,y)::es,j,0,a,b,hv,h,hs=>by
  simp only[List.getElem?_cons_zero,Option.some.injEq,Prod.mk.injEq] at h;obtain⟨rfl,rfl⟩:=h;simp only[vpos] at hv;rw[if_neg (by rw[qzaob];exact hs)] at hv;exact hv.1
 | (x,y)::es,j,i+1,a,b,hv,h,hs=>by
  simp only[vpos] at hv;have hr:vpos seen K (j+1) es:=by
   split at hv
   ·exact hv
   ·exact hv.2
  have:=vpos_at (i:=i) hr (by simpa using h) (by rw[show j+1+i=j+(i+1) by omega];exact hs)
  rwa[show j+1+i=j+(i+1) by omega] at this
theorem vent_at {K:SV->SV->Prop}:∀ {es:List (SV×SV)}{i:Nat},vent (some i) es K->∃ a b,es[i]?=some (a,b)/\K a b
 | [],i,h=>by cases i<;>exact h.elim
 | (a,b)::es,0,h=>⟨a,b,rfl,h⟩
 | (_,_)::es,i+1,h=>by
  obtain⟨a,b,h1,h2⟩:=vent_at (es:=es) (i:=i) h;exact⟨a,b,by simpa using h1,h2⟩
theorem qzaku (q:Question):∃ c d,(choose q).run P W=.ok c { W with drawn:=d }/\∀ n,q=.mapNext n->0<n->c<n:=by
 by_cases h:q.forced=true
 ·exact⟨0,W.drawn,by simp [choose,Sem.run,h],λn _ hn=>hn⟩
 ·refine⟨q.cut (W.tape W.drawn q),W.drawn+1,by simp [choose,Sem.run,h],λn e hn=>?_⟩
  subst e;exact Nat.mod_lt _ hn
theorem run_next {b mb n:Nat}{seen:List Nat}{es:Array MapEntry}{ty:TypeId}(hb:W.heap[b]?=some (.mapIter (some mb) n seen.toArray n)) (hm:W.heap[mb]?=some (.map es n)) (hbo:Born es n):
  ((∀ i,i<n->i∈seen)->∃ d,(Instr.next (.pointer (some ⟨b,0,none⟩)) false ty).run P W=.ok (.tuple #[.bool false]) { W with drawn:=d }) /\
  ((¬∀ i,i<n->i∈seen)->∃ d i e,es[i]?=some e/\i∉seen/\(Instr.next (.pointer (some ⟨b,0,none⟩)) false ty).run P W=.ok (.tuple #[.bool true,e.key,e.val]) (setO { W with drawn:=d } b (.mapIter (some mb) n (seen++[i]).toArray n))):=by
 obtain⟨hn,hbn⟩:=hbo;have g1:(getObj b).run P W=.ok (.mapIter (some mb) n seen.toArray n) W:=by simp [getObj,Sem.run,hb]
 have g2:(getObj mb).run P W=.ok (.map es n) W:=by simp [getObj,Sem.run,hm]
 have g3:(!seen.toArray.isEmpty&&!es.isEmpty&&es.all λx=>decide (x.born≥n))=false:=by
  cases he:es.isEmpty with
  | true=>simp
  | false=>
   have h0:0<es.size:=by
    rcases Nat.eq_zero_or_pos es.size with h|h
    ·simp [Array.isEmpty,h] at he
    ·exact h
   have h1:=hbn 0 es[0] (by simp [h0])
   have:(es.all λx=>decide (x.born≥n))=false:=by
    rw[Bool.eq_false_iff];intro h;rw[Array.all_eq_true] at h
    have:=h 0 h0
    simp [h1] at this;omega
   simp [this]
 obtain⟨L,hL⟩:∃ L,es.filter (λe=>!seen.toArray.contains e.born)=L:=⟨_,rfl⟩;have hLm:∀ e∈L,e.born<n/\e.born∉seen/\∃ i:Nat,es[i]?=some e:=by
  intro e he;rw[<-hL,Array.mem_filter] at he;obtain⟨h1,h2⟩:=he;obtain⟨i,hi⟩:=Array.getElem?_of_mem h1
  have:=hbn i e hi
  have hlt:=(Array.getElem?_eq_some_iff.1 hi).1;refine⟨by omega,?_,i,hi⟩;simpa using h2
 have hold:L.filter (λe=>decide (e.born<n))=L:=by
  rw[Array.filter_eq_self];intro e he;exact decide_eq_true (hLm e he).1
 have hnew:L.filter (λe=>decide (e.born≥n))=#[]:=by
  rw[Array.filter_eq_empty_iff];intro e he
  have:=(hLm e he).1
  simp;omega
 constructor
 ·intro hall
  have hLe:L=#[]:=by
   rw[<-hL,Array.filter_eq_empty_iff];intro e he;obtain⟨i,hi⟩:=Array.getElem?_of_mem he
   have:=hbn i e hi
   have hlt:=(Array.getElem?_eq_some_iff.1 hi).1
   have:=hall i (by omega)
   simp_all
  obtain⟨c,d,hc,hcl⟩:=qzaku (P:=P) (W:=W) (.mapNext 1);have hc0:c=0:=by have:=hcl 1 rfl (by decide);omega
  subst hc0;refine⟨d,?_⟩;simp only[Instr.next,Sem.run_bind,g1,g2,Result.andThen_ok,g3,hL,hold,hnew,Bool.false_eq_true,if_false];subst hLe;simp [hc]
 ·intro hnall
  have hLe:0<L.size:=by
   rcases Nat.eq_zero_or_pos L.size with h|h
   ·exfalso
    apply hnall;intro i hi;have hlt:i<es.size:=by omega
    have h1:=hbn i es[i] (by simp [hlt]);have h2:L=#[]:=Array.eq_empty_of_size_eq_zero h;rw[<-hL,Array.filter_eq_empty_iff] at h2
    have:=h2 es[i] (by simp)
    simpa [h1] using this
   ·exact h
  obtain⟨c,d,hc,hcl⟩:=qzaku (P:=P) (W:=W) (.mapNext L.size);have hc1:=hcl _ rfl hLe;obtain⟨k1,k2,i,k3⟩:=hLm L[c] (by simp);have hbi:=hbn i _ k3;refine⟨d,i,L[c],k3,hbi▸k2,?_⟩;have hne:L.isEmpty=false:=by rw[Bool.eq_false_iff];intro h;have h:=Array.isEmpty_iff.1 h;rw[h] at hLe;simp at hLe
  have hset:∀ ob,(setObj b ob).run P { W with drawn:=d }=.ok () (setO { W with drawn:=d } b ob):=λob=>by simp [setObj,Sem.run,hb,setO]
  simp only[Instr.next,Sem.run_bind,g1,g2,Result.andThen_ok,g3,hL,hold,hnew,hne,Bool.false_eq_true,if_false];simp [hc,hc1,hset,hbi]
theorem s_rng {t kt e:TypeId}{x:Operand}{x':Opd}(ho:o.op=.range t x) (ht:P.underlying t=some (.map kt e)) (hx:cOpd x=some x'):Sound P o (.rng x'):=by
 intro N W0 W ρ l vs a K h hR hE;have hdx:=qbe hE hx;simp only[vop,qbs,qdm] at h;split at h
 ·rename_i b he
  rw[he] at hdx;split at h
  ·rename_i es hes
   have hkB:=qas hes (by simp);obtain⟨b0,es',clock,⟨e1,hNb⟩,hheap,hmr,hbo⟩:=hR.blk b _ hkB;have hdx':=hdx;simp only[den] at hdx;obtain⟨vw,hvw,ad,hb,hve⟩:=hdx;obtain rfl:=qep e1 hvw;simp at hb;subst hb;have hget:(getObj b0).run P W=.ok (.map es' clock) W:=by simp [getObj,Sem.run,hheap]
   have hcl:clock=lenM es:=by rw[qoa,hmr.len];simpa using hbo.1
   rw[hve] at hdx';refine .val (v:=.pointer (some ⟨W.heap.size,0,none⟩)) (W':=W.alloc (.mapIter (some b0) clock #[] clock)) (by simp [ho,isDefer]) (by simp [execOp,ho,Instr.range,Sem.run_bind,qab ht,hve,hget])
    ⟨upd ρ l.length [⟨some ⟨W.heap.size,0,none⟩,0,0⟩],_,_,h,qox hR _,by simp,?_,?_⟩
   ·refine hR.push (Below.allocW hR _) (by simp) (λi hi=>qit hi) ?_ ⟨W.heap.size,b0,⟨qam,hR.hN _ (Nat.le_refl _)⟩,qfr (qox hR _) hR.out (.m b) _ hdx',by rw[<-hcl];exact qfj⟩
    intro vw hv ad ha;simp only[List.mem_singleton] at hv;subst hv;simp at ha;subst ha;simp
   ·simp only[den]
    exact⟨_,by rw[qam];exact List.mem_singleton.2 rfl,_,rfl,rfl⟩
  ·exact h.elim
 ·exact h.elim
theorem s_nxt {x:Operand}{x':Opd}(ho:o.op=.next x false) (hx:cOpd x=some x'):Sound P o (.nxt x'):=by
 intro N W0 W ρ l vs a K h hR hE;have hdx:=qbe hE hx;simp only[vop] at h;split at h
 ·rename_i k he
  rw[he] at hdx;split at h
  ·rename_i km n seen hk
   split at h
   ·rename_i es hes
    split at h
    ·rename_i hlen
     have hkB:=qas hk (by simp);have hmB:=qas hes (by simp);obtain⟨bi,mb,⟨e1,hNb⟩,hdm,hheap⟩:=hR.blk k _ hkB;obtain⟨b0,es',clock,⟨e2,hN2⟩,hheap2,hmr,hbo⟩:=hR.blk km _ hmB;simp only[den] at hdx;obtain⟨vw,hvw,ad,hb,hve⟩:=hdx;obtain rfl:=qep e1 hvw;simp at hb;subst hb;simp only[den] at hdm;obtain⟨vw2,hvw2,ad2,hb2,hve2⟩:=hdm;obtain rfl:=qep e2 hvw2;simp at hb2;subst hb2;simp only[Value.map.injEq,Option.some.injEq] at hve2;obtain rfl:mb=b0:=hve2;have hcl:clock=n:=by rw[<-hlen,qoa,hmr.len];simpa using hbo.1
     rw[hcl] at hheap2 hbo;have hnx:=run_next (P:=P) (ty:=o.type) hheap hheap2 hbo;have hRd:∀ d,Rel P N W0 ρ l { W with drawn:=d }:=λd=>hR.later ⟨rfl,rfl,rfl,Nat.le_refl _,λ_ _=>rfl⟩;split at h
     ·rename_i hall
      obtain⟨d,hrun⟩:=hnx.1 (qzapc.1 hall);exact .val (v:=.tuple #[.bool false]) (W':={ W with drawn:=d }) (by simp [ho,isDefer]) (by simp [execOp,ho,hve,hrun])
       ⟨ρ,_,_,h,Le.refl _ _,Nat.le_refl _,hRd d,by simp [den,denL]⟩
     ·rename_i hall
      obtain⟨d,i,en,hen,hns,hrun⟩:=hnx.2 (λhh=>hall (qzapc.2 hh));obtain⟨ka,kb,hab,hda,hdb⟩:=hmr.at (i:=i) (e:=en) (by simpa using hen);have hK:=vpos_at (i:=i) h hab (by simpa using hns);rw[Nat.zero_add,qbj,addM_eq] at hK;have hlt:=qbf hheap;have hup:upd ρ k (ρ k)=ρ:=qdf;refine .val (v:=.tuple #[.bool true,en.key,en.val]) (W':=setO { W with drawn:=d } bi (.mapIter (some mb) n (seen++[i]).toArray n)) (by simp [ho,isDefer]) (by simp [execOp,ho,hve,hrun])
       ⟨ρ,_,_,hK,Le.refl _ _,by simp,?_,by simp [den,denL,hda,hdb]⟩
      have hR2:=hRd d;rw[<-hup];refine hR2.turn hkB rfl ?_ (by rw[qar];exact Nat.le_refl _) ?_ (λ_ hv=>hv) ?_ ?_
      ·exact hR2.below.trans ⟨rfl,rfl,rfl,by rw[qar];exact Nat.le_refl _,λj hj=>qat (λe=>hj (by subst e;exact hNb))⟩
      ·intro j _ hj
       exact qat (λhib=>hj _ (by rw[e1];exact List.mem_singleton.2 rfl) _ rfl hib.symm)
      ·intro vw hvw' a' ha'
       exact⟨by rw[qar];exact hR2.ids k vw a' hvw' ha',.inr ⟨vw,hvw',a',ha',rfl⟩⟩
      ·rw[hup]
       exact⟨bi,mb,⟨e1,hNb⟩,by simp only[den];exact⟨_,by rw[e2];exact List.mem_singleton.2 rfl,_,rfl,rfl⟩,qbr hlt⟩
    ·exact h.elim
   ·exact h.elim
  ·exact h.elim
 ·exact h.elim
theorem s_ent {x:Operand}{x':Opd}(ho:o.op=.entry x) (hx:cOpd x=some x'):Sound P o (.ent x'):=by
 intro N W0 W ρ l vs a K h hR hE;have hdx:=qbe hE hx;simp only[vop] at h;split at h
 ·rename_i k he
  rw[he] at hdx;split at h
  ·rename_i km n seen hk
   split at h
   ·rename_i es hes
    split at h
    ·rename_i hlen
     have hkB:=qas hk (by simp);have hmB:=qas hes (by simp);obtain⟨bi,mb,⟨e1,hNb⟩,hdm,hheap⟩:=hR.blk k _ hkB;obtain⟨b0,es',clock,⟨e2,hN2⟩,hheap2,hmr,hbo⟩:=hR.blk km _ hmB;simp only[den] at hdx;obtain⟨vw,hvw,ad,hb,hve⟩:=hdx;obtain rfl:=qep e1 hvw;simp at hb;subst hb;simp only[den] at hdm;obtain⟨vw2,hvw2,ad2,hb2,hve2⟩:=hdm;obtain rfl:=qep e2 hvw2;simp at hb2;subst hb2;simp only[Value.map.injEq,Option.some.injEq] at hve2;obtain rfl:mb=b0:=hve2;have hcl:clock=n:=by rw[<-hlen,qoa,hmr.len];simpa using hbo.1
     rw[hcl] at hheap2 hbo;cases hls:lastM seen with
     | none=>rw[hls] at h;simp only[vent] at h
     | some i=>
      rw[hls] at h;obtain⟨ka,kb,hab,hK⟩:=vent_at h;have hil:i<es'.toList.length:=by rw[<-hmr.len];exact (List.getElem?_eq_some_iff.1 hab).1
      obtain⟨ka',kb',hab',hda,hdb⟩:=hmr.at (i:=i) (e:=es'.toList[i]) (by simp);rw[hab] at hab';simp only[Option.some.injEq,Prod.mk.injEq] at hab';obtain⟨rfl,rfl⟩:=hab';have g1:(getObj bi).run P W=.ok (.mapIter (some mb) n seen.toArray n) W:=by simp [getObj,Sem.run,hheap]
      have g2:(getObj mb).run P W=.ok (.map es' n) W:=by simp [getObj,Sem.run,hheap2]
      have g3:seen.toArray.back?=some i:=by rw[lastM_eq] at hls;simpa using hls
      have hi:i<es'.size:=by simpa using hil
      have g4:es'.find? (λe=>e.born==i)=some es'[i]:=by
       rw[Array.find?_eq_some_iff_getElem];refine⟨by have:=hbo.2 i es'[i] (by simp);simp [this],i,hi,rfl,λj hj=>?_⟩
       have:=hbo.2 j es'[j] (by simp)
       simp [this];omega
      exact .val (v:=.tuple #[es'[i].key,es'[i].val]) (W':=W) (by simp [ho,isDefer]) (by simp [execOp,ho,hve,Instr.entry,Sem.run_bind,g1,g2,g3,g4])
       ⟨ρ,_,_,hK,Le.refl _ _,Nat.le_refl _,hR,by simp only[den,denL];exact⟨_,rfl,by simpa using hda,by simpa using hdb,trivial⟩⟩
    ·exact h.elim
   ·exact h.elim
  ·exact h.elim
 ·exact h.elim
theorem eq_p {d:Nat}{t e:TypeId}{b:Option Addr}(ht:P.underlying t=some (.pointer e)):(Op.equalIn (d+1) t (.pointer b) (.pointer none)).run P W=.ok b.isNone W:=by
 cases b<;>simp [Op.equalIn,qab ht]
theorem s_nilP {op:BinOp}{neg:Bool}{t t':TypeId}{x y:Operand}{x':Opd}(ho:o.op=.binOp op t x y t') (hop:op=if neg then .neq else .eql) (ht:∃ e,P.underlying t=some (.pointer e))
  (hx:cOpd x=some x') (hy:cOpd y=some (.c (.re (.pointer none)))):Sound P o (.nilP neg x'):=by
 intro N W0 W ρ l vs a K h hR hE;obtain⟨e,ht⟩:=ht;have hdx:=qbe hE hx;have hdy:=qbe hE hy;simp only[ev,den] at hdy;have key:∀ b:Option Addr,a.eval x=.pointer b->K (ofB (if neg then !b.isNone else b.isNone)) l->OpRuns P o a W (OpPost P N W0 ρ l K):=by
  intro b e1 hK;have hg:(eqGuard op t x y (a.eval x) (a.eval y)).run P W=.ok () W:=by
   rw[e1,hdy.1];subst hop;cases neg<;>simp [eqGuard]
  have hq:(Op.equal t (.pointer b) (.pointer none)).run P W=.ok b.isNone W:=eq_p (d:=9999) ht;have hbin:(Go.binOp op t (a.eval x) (a.eval y)).run P W=.ok (.bool (if neg then !b.isNone else b.isNone)) W:=by
   rw[e1,hdy.1];subst hop;cases neg<;>simp [Go.binOp,hq]
  refine .val (v:=.bool (if neg then !b.isNone else b.isNone)) (W':=W) (by simp [ho,isDefer]) (by simp [execOp,ho,hg,hbin]) (qaf hR hK ?_);generalize (if neg then !b.isNone else b.isNone)=r;cases r<;>simp [den,ofB]
 simp only[vop] at h;split at h
 ·rename_i k q he
  rw[he] at hdx;simp only[den] at hdx;obtain⟨vw,_,ad,_,e1⟩:=hdx;exact key _ e1 (by cases neg<;>exact h)
 ·rename_i he
  rw[he] at hdx;simp only[den] at hdx;exact key none hdx.1 (by cases neg<;>exact h)
 ·exact h.elim
end
end Cz
namespace Cz
open Go Go.RowKit
section
variable {P:Program}{N:Nat->Prop}{W0 W:World}{ρ:Nms}{l:List Blk}{vs:List SV}{a:Act}{K:SV->List Blk->Prop}{o:Oper}
theorem qzafc:∀ (l:List (SV×SV)),lenM l=l.length
 | []=>rfl
 | _::l=>by simp [lenM,qzafc l]
theorem setM_rel {v:SV}{u:Value}(hv:den ρ v u):∀ {es:List (SV×SV)}{es':List MapEntry}(i:Nat),MapRel ρ es es'->MapRel ρ (setM es i v) (es'.modify i λe=>{ e with val:=u })
 | [],[],i,h=>by cases i<;>simpa [setM] using h
 | [],_::_,_,h=>by simp [MapRel] at h
 | (_,_)::_,[],_,h=>by simp [MapRel] at h
 | (k,w)::r,e::es',0,h=>by simpa [setM] using ⟨h.1,hv,h.2.2⟩
 | (k,w)::r,e::es',i+1,h=>by
  have:=setM_rel hv i h.2.2
  simpa [setM] using ⟨h.1,h.2.1,this⟩
theorem vment_ok {kt:TypeId}{sig:Sg}(hsg:sgOf P kt=some sig) {key zero:SV}{kv zv:Value}{K:SV->Nat->List (SV×SV)->Prop}(hk:den ρ key kv) (hz:den ρ zero zv):
  ∀ (acc es:List (SV×SV)) (acc' es':List MapEntry),MapRel ρ acc acc'->MapRel ρ es es'->vment (S0 P) sig key zero K acc es ->
  ∃ res,(Instr.findAsking kt kv es' acc'.length).run P W=.ok res W /\
   (match res with
    | none=>∀ born,∃ out,K zero (acc'++es').length out/\MapRel ρ out (acc'++es'++[{ key:=kv,val:=zv,born:=born }])
    | some (i,w)=>∃ e,(acc'++es')[i]?=some e/\(Instr.keyThatStays e.key kv).run P W=.ok kv W/\∃ u out,den ρ u w/\K u i out/\MapRel ρ out ((acc'++es').modify i λe=>{ e with key:=kv }))
 | acc,[],acc',[],ha,_,h=>⟨none,by simp [Instr.findAsking],λborn=>⟨_,by
   simp only[vment] at h;rw[qzafc,ha.length] at h;simpa using h,by simpa using MapRel.append ha (fs:=[(key,zero)]) (fs':=[{ key:=kv,val:=zv,born:=born }]) ⟨hk,hz,trivial⟩⟩⟩
 | _,[],_,_::_,_,h,_=>by simp [MapRel] at h
 | _,(_,_)::_,_,[],_,h,_=>by simp [MapRel] at h
 | acc,(k,u)::es,acc',e::es',ha,hm,h=>by
  simp only[vment] at h;obtain⟨r,hr,h1,h2,hp,mx,my,hreq⟩:=veq_ok (W:=W) hsg h hk hm.1;have hrun:(Op.equal kt kv e.key).run P W=.ok r W:=hr _ (by simp [Op.maxDepth]);cases r with
  | true=>
   have h1':=h1 rfl;rw[qzafc,ha.length] at h1';refine⟨some (acc'.length,e.val),by simp [Instr.findAsking,hrun],e,by simp,keyStays hp.symm my mx (qzahu hreq.symm),u,_,hm.2.1,h1',?_⟩
   have:(acc'++e::es').modify acc'.length (λe=>{ e with key:=kv })=acc'++{ e with key:=kv }::es':=by
    exact qzaad _ _ _ _
   rw[this];exact MapRel.append ha ⟨hk,hm.2.1,hm.2.2⟩
  | false=>
   have ih:=vment_ok hsg hk hz (acc++[(k,u)]) es (acc'++[e]) es' (MapRel.append ha ⟨hm.1,hm.2.1,trivial⟩) hm.2.2 (h2 rfl);obtain⟨res,hres,hK⟩:=ih;refine⟨res,?_,?_⟩
   ·simp at hres
    simpa [Instr.findAsking,hrun] using hres
   ·simpa [List.append_assoc] using hK
theorem born_key {es:Array MapEntry}{clock i:Nat}{k:Value}(h:Born es clock):Born (es.modify i λe=>{ e with key:=k }) clock:=by
 obtain⟨h1,h2⟩:=h;refine⟨by simp [h1],λj e he=>?_⟩;rw[Array.getElem?_modify] at he;split at he
 ·cases hj:es[j]? with
  | none=>rw[hj] at he;cases he
  | some e0=>
   rw[hj] at he;simp only[Option.map_some,Option.some.injEq] at he;subst he;exact h2 j e0 hj
 ·exact h2 j e he
theorem born_val {es:Array MapEntry}{clock i:Nat}{k:Value}(h:Born es clock):Born (es.modify i λe=>{ e with val:=k }) clock:=by
 obtain⟨h1,h2⟩:=h;refine⟨by simp [h1],λj e he=>?_⟩;rw[Array.getElem?_modify] at he;split at he
 ·cases hj:es[j]? with
  | none=>rw[hj] at he;cases he
  | some e0=>
   rw[hj] at he;simp only[Option.map_some,Option.some.injEq] at he;subst he;exact h2 j e0 hj
 ·exact h2 j e he
theorem Rel.turnM (hR:Rel P N W0 ρ l W) {b b0 clock:Nat}{es:List (SV×SV)}{es':Array MapEntry}(hkB:l[b]?=some (.m es)) (e1:ρ b=[⟨some ⟨b0,0,none⟩,0,0⟩]) (hNb:N b0)
  (hheap:W.heap[b0]?=some (.map es' clock)) {out:List (SV×SV)}{es2:Array MapEntry}{clock2:Nat}(hm2:MapRel ρ out es2.toList) (hb2:Born es2 clock2):
  Rel P N W0 ρ (l.set b (.m out)) (setO W b0 (.map es2 clock2)):=by
 have hlt:=qbf hheap;have hup:upd ρ b (ρ b)=ρ:=qdf;rw[<-hup];refine hR.turn hkB rfl ?_ (by rw[qar];exact Nat.le_refl _) ?_ (λ_ hv=>hv) ?_ ?_
 ·exact hR.below.trans ⟨rfl,rfl,rfl,by rw[qar];exact Nat.le_refl _,λj hj=>qat (λe=>hj (by subst e;exact hNb))⟩
 ·intro i _ hi
  exact qat (λhib=>hi _ (by rw[e1];exact List.mem_singleton.2 rfl) _ rfl hib.symm)
 ·intro vw hvw' a' ha'
  exact⟨by rw[qar];exact hR.ids b vw a' hvw' ha',.inr ⟨vw,hvw',a',ha',rfl⟩⟩
 ·rw[hup]
  exact⟨b0,es2,clock2,⟨e1,hNb⟩,qbr hlt,hm2,hb2⟩
theorem s_ment {t kt e:TypeId}{m k:Operand}{m' k':Opd}{sig:Sg}{zero:SV}(ho:o.op=.mapEntry t m k) (ht:P.underlying t=some (.map kt e)) (hz:zeroV P e=some zero)
  (hsg:sgOf P kt=some sig) (hm:cOpd m=some m') (hk:cOpd k=some k'):Sound P o (.ment sig zero m' k'):=by
 intro N W0 W ρ l vs a K h hR hE;have hdm:=qbe hE hm;have hdk:=qbe hE hk;have hsg':=hsg;simp only[sgOf,Option.bind_eq_bind,Option.bind_eq_some_iff,Option.pure_def,Option.some.injEq] at hsg;obtain⟨s,hs,ag,ha,rfl⟩:=hsg;have hkt:∃ D,P.underlying kt=some D:=by
  cases hu:P.underlying kt with
  | none=>simp [aggOf,hu] at ha
  | some D=>exact⟨D,rfl⟩
 obtain⟨D,hD⟩:=hkt;simp only[vop] at h;split at h
 ·rename_i hvk
  have hck:=λem=>qzauh (W:=W) hsg' hvk hdk em;split at h
  ·rename_i b he
   rw[he] at hdm;simp only[den] at hdm;obtain⟨vw,hvw,ad,hb,hve⟩:=hdm;split at h
   ·rename_i es hes
    have hkB:=qas hes (by simp);obtain⟨b0,es',clock,⟨e1,hNb⟩,hheap,hmr,hbo⟩:=hR.blk b _ hkB;obtain rfl:=qep e1 hvw;simp at hb;subst hb;have hget:(getObj b0).run P W=.ok (.map es' clock) W:=by simp [getObj,Sem.run,hheap]
    have hset:∀ ob,(setObj b0 ob).run P W=.ok () (setO W b0 ob):=λob=>by simp [setObj,Sem.run,hheap,setO]
    obtain⟨z,hzr,hzd⟩:=zeroV_ok (W:=W) hz;obtain⟨res,hres,hK⟩:=vment_ok (W:=W) hsg' hdk (hzd ρ) [] es [] es'.toList trivial hmr h;have hfind:=qsc hD hres;have hsz:clock=es'.size:=hbo.1;cases res with
    | none=>
     obtain⟨out,hKo,hmo⟩:=hK clock;simp only[List.nil_append] at hmo hKo;rw[qbj] at hKo;refine .val (by simp [ho,isDefer]) (W':=setO W b0 (.map (es'.push { key:=a.eval k,val:=z,born:=clock }) (clock+1))) (v:=.tuple #[z,.int .i64 clock]) ?_
      ⟨ρ,_,_,hKo,Le.refl _ _,by simp,hR.turnM hkB e1 hNb hheap (by simpa using hmo) (qzatj hbo),?_⟩
     ·simp only[execOp,ho,Instr.mapEntry,Sem.run_bind,qab ht,Result.andThen_ok,hve,hget,hck,hfind,hset,hzr]
      rfl
     ·simp only[den]
      refine⟨_,rfl,?_⟩;simp only[denL,den,Z.v];exact⟨hzd ρ,by rw[hsz];simp,trivial⟩
    | some r=>
     obtain⟨i,w⟩:=r;obtain⟨en,hen,hst,u,out,hdu,hKo,hmo⟩:=hK;simp only[List.nil_append] at hmo hen;rw[qbj] at hKo;have hen':es'[i]?=some en:=by simpa using hen
     have hbi:en.born=i:=hbo.2 i en hen';refine .val (by simp [ho,isDefer]) (W':=setO W b0 (.map (es'.modify i λe=>{ e with key:=a.eval k }) clock)) (v:=.tuple #[w,.int .i64 i]) ?_
      ⟨ρ,_,_,hKo,Le.refl _ _,by simp,hR.turnM hkB e1 hNb hheap (by simpa using hmo) (born_key hbo),?_⟩
     ·simp only[execOp,ho,Instr.mapEntry,Sem.run_bind,qab ht,Result.andThen_ok,hve,hget,hck,hfind,hen',Option.map_some,Option.getD_some,hst,hset,hbi]
      rfl
     ·simp only[den]
      refine⟨_,rfl,?_⟩;simp only[denL,den,Z.v];exact⟨hdu,by simp,trivial⟩
   ·exact h.elim
  ·exact h.elim
 ·exact h.elim
theorem s_mest {t:TypeId}{m s x:Operand}{m' s' x':Opd}(ho:o.op=.entryStore t m s x) (hm:cOpd m=some m') (hs:cOpd s=some s') (hx:cOpd x=some x'):Sound P o (.mest m' s' x'):=by
 intro N W0 W ρ l vs a K h hR hE;have hdm:=qbe hE hm;have hds:=qbe hE hs;have hdx:=qbe hE hx;simp only[vop] at h;split at h
 ·rename_i b ki i he hi
  rw[he] at hdm;rw[hi] at hds;simp only[den,Z.v] at hdm hds;obtain⟨vw,hvw,ad,hb,hve⟩:=hdm;split at h
  ·rename_i es hes
   unfold vmest at h;split at h
   ·rename_i hc
    have hkB:=qas hes (by simp);obtain⟨b0,es',clock,⟨e1,hNb⟩,hheap,hmr,hbo⟩:=hR.blk b _ hkB;obtain rfl:=qep e1 hvw;simp at hb;subst hb;have hget:(getObj b0).run P W=.ok (.map es' clock) W:=by simp [getObj,Sem.run,hheap]
    have hset:∀ ob,(setObj b0 ob).run P W=.ok () (setO W b0 ob):=λob=>by simp [setObj,Sem.run,hheap,setO]
    have hlen:es.length=es'.size:=by simpa using hmr.length
    have hlt:i.toNat<es'.size:=by have:=hc.2;rw[qzafc] at this;omega
    have hfi:es'.findIdx? (λe=>(e.born:Int)==i)=some i.toNat:=by
     rw[Array.findIdx?_eq_some_iff_getElem];refine⟨hlt,?_,λj hj=>?_⟩
     ·have:=hbo.2 i.toNat _ (Array.getElem?_eq_getElem hlt)
      rw[this];simp;omega
     ·have:=hbo.2 j _ (Array.getElem?_eq_getElem (by omega:j<es'.size))
      rw[this];simp;omega
    rw[qbj] at h;have hmo:=setM_rel hdx i.toNat hmr;refine .unit (by simp [ho,isDefer]) (W':=setO W b0 (.map (es'.modify i.toNat λe=>{ e with val:=a.eval x }) clock)) ?_
     ⟨ρ,.un,_,h,Le.refl _ _,by simp,hR.turnM hkB e1 hNb hheap (by simpa using hmo) (born_val hbo),by simp [den]⟩
    simp only[execOp,ho,Instr.entryStore,Sem.run_bind,hve,hget,Result.andThen_ok,hds,asInt,asIntOf,Sem.run_pure,hfi,hset]
   ·exact h.elim
  ·exact h.elim
 ·exact h.elim
theorem qzamk {op:BK}(hop:op=.min∨op=.max) {K:SV->Prop}{f:Value->Value->Sem Value}(hf:∀ k m n,f (.int k m) (.int k n)=pure (.int k (arS op k m n))):
  ∀ (ys:List SV) (us:List Value) (x:SV) (u:Value),vbins (S0 P) op ys x K->denL ρ ys us->den ρ x u->ys≠[] ->
   ∃ v sv,(us.foldlM f u).run P W=.ok v W/\K sv/\den ρ sv v
 | [],_,_,_,_,_,_,hne=>absurd rfl hne
 | y::ys,[],x,u,h,hd,hx,_=>by simp [denL] at hd
 | y::ys,w::us,x,u,h,hd,hx,_=>by
  simp only[vbins] at h;simp only[denL] at hd;have step:∃ k m n sv,u=.int k m/\w=.int k n/\vbins (S0 P) op ys sv K/\den ρ sv (.int k (arS op k m n)):=by
   unfold vbin at h;cases x<;>cases y<;>try (exact h.elim)
   ·rename_i k za k' zb
    have hdx:=hx;have hdy:=hd.1;simp only[den] at hdx hdy;rcases hop with rfl|rfl
    all_goals
     simp only[BK.isCmp,Bool.false_eq_true,if_false] at h;split at h
     ·rename_i hk
      subst hk;split at h
      ·simp only[BK.lit,Z.v] at h hdx hdy
       exact⟨_,_,_,_,hdx,hdy,h,by simp [den,Z.v,arS]⟩
      ·exact⟨_,_,_,_,hdx,hdy,h,by simp [den,Z.v]⟩
     ·exact h.elim
   ·rcases hop with rfl|rfl<;>simp [BK.isCmp] at h
  obtain⟨k,m,n,sv,rfl,rfl,hv,hdv⟩:=step;cases ys with
  | nil=>
   match us,hd.2 with
   | [],_=>exact⟨_,sv,by simp [hf],hv,hdv⟩
  | cons y2 ys2=>
   obtain⟨v,sv2,h1,h2,h3⟩:=qzamk hop hf (y2::ys2) us sv _ hv hd.2 hdv (by simp);exact⟨v,sv2,by simpa [hf] using h1,h2,h3⟩
theorem s_bins {c:Call}{bk:BK}{xs:List Opd}(ho:o.op=.call c) (hb:(c.callee=.builtin .min/\bk=.min)∨(c.callee=.builtin .max/\bk=.max)) (hx:cOpds c.args.toList=some xs):Sound P o (.bins bk xs):=by
 intro N W0 W ρ l vs a K h hR hE;have hd:=qzatb hE hx;simp only[vop] at h;split at h
 ·exact h.elim
 ·rename_i x r hev
  rw[hev] at hd;obtain⟨cal,args,tys⟩:=c;simp only at hb hd
  match hm:args.toList.map a.eval,hd with
  | u::us,hd=>
   simp only[denL] at hd;have hargs:(args.map a.eval).toList=u::us:=by simpa using hm
   cases r with
   | nil=>
    match us,hd.2 with
    | [],_=>
     simp only[vbins] at h;refine .val (v:=u) (W':=W) (by simp [ho,isDefer]) ?_ (qaf hR h hd.1);rcases hb with ⟨rfl,rfl⟩|⟨rfl,rfl⟩
     ·simp [execOp,ho,resolve,invoke,builtin,Builtin.min_,hm]
     ·simp [execOp,ho,resolve,invoke,builtin,Builtin.max_,hm]
   | cons y ys=>
    rcases hb with ⟨rfl,rfl⟩|⟨rfl,rfl⟩
    ·obtain⟨v,sv,h1,h2,h3⟩:=qzamk (P:=P) (W:=W) (.inl rfl) (f:=Builtin.min2) (λk m n=>by simp [Builtin.min2,arS]) (y::ys) us x u h hd.2 hd.1 (by simp)
     refine .val (v:=v) (W':=W) (by simp [ho,isDefer]) ?_ (qaf hR h2 h3);simp [execOp,ho,resolve,invoke,builtin,Builtin.min_,hm,h1]
    ·obtain⟨v,sv,h1,h2,h3⟩:=qzamk (P:=P) (W:=W) (.inr rfl) (f:=Builtin.max2) (λk m n=>by simp [Builtin.max2,arS]) (y::ys) us x u h hd.2 hd.1 (by simp)
     refine .val (v:=v) (W':=W) (by simp [ho,isDefer]) ?_ (qaf hR h2 h3);simp [execOp,ho,resolve,invoke,builtin,Builtin.max_,hm,h1]
theorem qzarf {zero:List SV}:∀ n,(repS n zero).length=n*zero.length
 | 0=>by simp [repS]
 | n+1=>by simp [repS,qhj,qzarf n,Nat.add_mul,Nat.add_comm]
theorem qul:∀ {xs:List SV},scalars xs=true↔∀ x∈xs,scalar x=true
 | []=>by simp [scalars]
 | x::xs=>by simp [scalars,qul (xs:=xs)]
theorem qzane {zero:List SV}{x:SV}:∀ {n:Nat},x∈repS n zero->x∈zero
 | 0,h=>by simp [repS] at h
 | n+1,h=>by
  simp only[repS,qhj,List.mem_append] at h;exact h.elim id qzane
theorem pz_len:∀ zs:List SV,(pz zs).length=zs.length
 | []=>rfl
 | x::r=>by
  unfold pz;split
  ·rename_i e
   cases e
  ·rename_i r' e
   cases e;simp only[List.length_cons,pz_len]
  ·rename_i x' r' _ e
   cases e;simp only[List.length_cons,pz_len]
theorem pz_den {ρ:Nms}:∀ {zs:List SV}{us:List Value},denL ρ zs us->denL ρ (pz zs) us
 | [],_,h=>h
 | x::r,[],h=>by simp [denL] at h
 | x::r,u::us,h=>by
  obtain⟨h1,h2⟩:=h;unfold pz;split
  ·rename_i e
   cases e
  ·rename_i r' e
   cases e;refine⟨?_,pz_den h2⟩;simp only[den] at h1 ⊢;refine⟨by simp [Z.v],by decide,by simp [Z.v],rfl,.inr ⟨rfl,none,h1.1⟩⟩
  ·rename_i x' r' _ e
   cases e;exact⟨h1,pz_den h2⟩
theorem s_clr {c:Call}{t e:TypeId}{x:Operand}{x':Opd}{sz:Nat}{zero:List SV}(ho:o.op=.call c) (hcal:c.callee=.builtin .clear) (ht0:c.argTypes[0]?=some t) (hx0:c.args[0]?=some x)
  (ht:P.underlying t=some (.slice e)) (hz:zeroOf P e=some zero) (h0:sz≠0) (hzl:zero.length=sz) (hx:cOpd x=some x'):Sound P o (.clr sz zero x'):=by
 intro N W0 W ρ l vs a K h hR hE;have hd:=qbe hE hx;obtain⟨i,z,hi,hzz,hdz⟩:=qgq hz;have hzs:z.cells.size=sz:=by have:=qan (hdz ρ);simp at this;omega
 have hrun:∀ W',(Builtin.clear_ c.argTypes o.type (c.args.map a.eval)).run P W=.ok (.tuple #[]) W'->(execOp a.eval o).run P W=.ok (.value (.tuple #[])) W':=by
  intro W' hr;simp [execOp,ho,resolve,hcal,invoke,builtin,hr]
 have harg:(c.args.map a.eval)[0]?=some (a.eval x):=by simp [hx0]
 have hnone:∀ b cp,a.eval x=.slice b 0 cp->(Builtin.clear_ c.argTypes o.type (c.args.map a.eval)).run P W=.ok (.tuple #[]) W:=by
  intro b cp hb;simp only[Builtin.clear_,ht0,harg,hb,Sem.run_bind,qab ht,Result.andThen_ok];cases b<;>rfl
 have hdt:∀ ρ',den ρ' (.tp []) (.tuple #[]):=λρ'=>by simp [den,denL]
 simp only[vop] at h;unfold vclr at h;split at h
 ·rename_i hev
  rw[hev] at hd;simp only[den] at hd;exact .val (by simp [ho,isDefer]) (hrun W (hnone none 0 hd.1)) (qaf hR h (hdt ρ))
 ·rename_i k sz' off ln cap hev
  split at h
  case isFalse=>exact h.elim
  rename_i hsz';subst hsz';split at h
  ·rename_i h0l
   have hl0:ln=.l 0:=by
    unfold isL0 at h0l;split at h0l
    ·rfl
    ·cases h0l
   subst hl0;rw[hev] at hd;simp only[den,Z.v,Int.toNat_zero] at hd;obtain⟨_,_,vw,_,_,hs⟩:=hd
   have:∃ b cp,a.eval x=.slice b 0 cp:=by
    unfold SlVal at hs;split at hs
    ·obtain⟨_,_,a',e⟩:=hs;exact⟨_,_,e⟩
    ·rcases hs with ⟨c2,e,_⟩|⟨_,⟨a',e⟩,_⟩
     ·exact⟨_,_,e⟩
     ·exact⟨_,_,e⟩
   obtain⟨b,cp,hb⟩:=this;exact .val (by simp [ho,isDefer]) (hrun W (hnone b cp hb)) (qaf hR h (hdt ρ))
  ·rw[hev] at hd
   simp only[den] at hd;obtain⟨g0,g1,vw,hvw,hle,hs⟩:=hd;unfold vclr1 at h;split at h
   ·rename_i lit st sz'' F hl
    have hkF:=qas hl (by simp);split at h
    ·rename_i hsz2
     obtain⟨hsz2,hsc⟩:=hsz2;subst hsz2;have main:∀ (zero':List SV) (hdz':denL ρ zero' z.cells.toList) (hzl:zero'.length=sz) (hsc:scalars zero'=true) (lit':Bool) (l2:List Blk),l2=l.set k (.r false lit' st sz (repl F (off.v.toNat*sz) (repS ln.v.toNat zero')))->0<ln.v->st.v<=off.v*sz ->
       (lit'=false->(∀ x∈repS ln.v.toNat zero',plainV x=true)/\∀ x∈F,plainV x=true)->K (.tp []) l2->OpRuns P o a W (OpPost P N W0 ρ l K):=by
      intro zero' hdz' hzl hsc lit' l2 hl2 hpos hst hpl hK;have hn0:ln.v.toNat≠0:=by omega
      have hval:∃ (ad:Addr) (cp:Nat),vw.base=some ad/\a.eval x=.slice (some ⟨ad.block,ad.off+off.v.toNat*sz,none⟩) ln.v.toNat cp:=by
       unfold SlVal at hs;split at hs
       ·exact absurd hs.2.1 hn0
       ·rename_i ad hb
        rcases hs with ⟨c2,e,_⟩|⟨e,_,_⟩
        ·exact⟨ad,c2,hb,e⟩
        ·exact absurd e hn0
      obtain⟨ad,cp,hb,hve⟩:=hval;have hdz2:=qzaet (n:=ln.v.toNat) hdz' hzl h0;have hlen2:(repS ln.v.toNat zero').length=ln.v.toNat*sz:=by rw[qzarf,hzl]
      have hst':st.v.toNat<=off.v.toNat*sz:=by
       have h6:(off.v.toNat:Int)=off.v:=Int.toNat_of_nonneg g0;have h7:st.v<=((off.v.toNat*sz:Nat):Int):=by rw[Int.natCast_mul,h6];exact hst
       omega
      have hmul:(off.v.toNat+ln.v.toNat)*sz=off.v.toNat*sz+ln.v.toNat*sz:=Nat.add_mul ..;have hpos2:0<ln.v.toNat*sz:=Nat.mul_pos (by omega) (by omega);have hscz:scalars (repS ln.v.toNat zero')=true:=qul.2 λx hx=>qul.1 hsc x (qzane hx);obtain⟨W',hr,hR'⟩:=hR.storeR (lit':=lit') (q0:=off.v.toNat*sz) hkF hvw hb (by rw[hlen2];omega) hst' (by rw[hlen2];exact hpos2) hscz hpl hdz2;refine .val (by simp [ho,isDefer]) (hrun W' ?_) ⟨ρ,.tp [],l2,hK,Le.refl _ _,by rw[hl2];simp,by rw[hl2];exact hR',hdt ρ⟩;have hzc:(Builtin.zeroCells z.cells ln.v.toNat).toList=((Array.range (ln.v.toNat*sz)).map (z.cells[·%z.cells.size]!)).toList:=by
       simp only[Builtin.zeroCells,hzs]
      obtain⟨q,hq⟩:∃ q,ln.v.toNat=q+1:=⟨ln.v.toNat-1,by omega⟩;simp only[Builtin.clear_,ht0,harg,hve,Sem.run_bind,qab ht,Result.andThen_ok];rw[hq] at hr hzc ⊢;simp only[Sem.run_bind,qct hi hzz,Result.andThen_ok,hzc,hr,Sem.run_pure]
     split at h
     ·rename_i o n s h0q
      split at h
      ·rename_i hc2
       have hc3:s<=o*(sz:Int):=by
        have:(o.toNat:Int)=o:=Int.toNat_of_nonneg (by simpa [Z.v] using g0)
        rw[<-this,<-Int.natCast_mul];exact_mod_cast hc2.1
       rw[qbj,qrt] at h;exact main zero (hdz ρ) hzl hsc true _ rfl (by simpa [Z.v] using hc2.2) (by simpa [Z.v] using hc3) (λe=>by cases e) h
      ·exact h.elim
     ·split at h
      ·rename_i hc2
       obtain⟨e1,h⟩:=h;obtain⟨e2,h⟩:=h;rw[qbj] at h;refine main (pz zero) (pz_den (hdz ρ)) (by rw[pz_len,hzl]) (qgj hc2.2) false _ rfl (by simpa [S0,BK.cmpLit] using e2) (by simpa [S0,BK.cmpLit] using e1) (λ_=>⟨λx hx=>qbw hc2.2 x (qzane hx),?_⟩) h;obtain⟨_,_,hplF,_⟩:=hR.blk k _ hkF;cases lit with
       | true=>exact qbw hc2.1
       | false=>exact hplF rfl
      ·exact h.elim
    ·exact h.elim
   ·exact h.elim
 ·exact h.elim
theorem op_sound1 {ao:AOp}(hc:convOp1 P o=some ao):Sound P o ao:=by
 unfold convOp1 at hc;split at hc
 ·rename_i t m k ho
  split at hc
  ·rename_i kt e ht
   simp only[Option.bind_eq_bind,Option.bind_eq_some_iff,Option.pure_def,Option.some.injEq] at hc;obtain⟨sig,hsg,zero,hz,m',hm,k',hk,rfl⟩:=hc;exact s_ment ho ht hz hsg hm hk
  ·cases hc
 ·rename_i t m s x ho
  simp only[Option.bind_eq_bind,Option.bind_eq_some_iff,Option.pure_def,Option.some.injEq] at hc;obtain⟨m',hm,s',hs,x',hx,rfl⟩:=hc;exact s_mest ho hm hs hx
 ·rename_i c ho
  split at hc
  ·rename_i hcal
   simp only[Option.bind_eq_bind,Option.bind_eq_some_iff] at hc;obtain⟨t,ht0,x,hx0,hc⟩:=hc;split at hc
   ·rename_i e ht
    simp only[Option.bind_eq_some_iff] at hc;obtain⟨n,hn,zero,hz,hc⟩:=hc;split at hc
    ·cases hc
    ·rename_i hh
     simp only[not_or] at hh;simp only[Option.bind_eq_some_iff,Option.pure_def,Option.some.injEq] at hc;obtain⟨x',hx,rfl⟩:=hc;exact s_clr ho hcal ht0 hx0 ht hz hh.1 (Decidable.not_not.1 hh.2) hx
   ·cases hc
  ·rename_i hcal
   simp only[Option.bind_eq_bind,Option.bind_eq_some_iff,Option.pure_def,Option.some.injEq] at hc;obtain⟨xs,hx,rfl⟩:=hc;exact s_bins ho (.inl ⟨hcal,rfl⟩) hx
  ·rename_i hcal
   simp only[Option.bind_eq_bind,Option.bind_eq_some_iff,Option.pure_def,Option.some.injEq] at hc;obtain⟨xs,hx,rfl⟩:=hc;exact s_bins ho (.inr ⟨hcal,rfl⟩) hx
  ·cases hc
 ·cases hc
end
end Cz
namespace Cz
open Go Go.RowKit
section
variable {P:Program}{N:Nat->Prop}{W0 W:World}{ρ:Nms}{l:List Blk}{vs:List SV}{a:Act}{K:SV->List Blk->Prop}{o:Oper}
theorem op_sound0 {ao:AOp}(hc:convOp0 P o=some ao):Sound P o ao:=by
 unfold convOp0 at hc;split at hc
 case h_1 x ho=>
  obtain⟨x',hx,rfl⟩:=Option.map_eq_some_iff.1 hc;exact s_move (.inl ho) hx
 case h_2 x ho=>
  obtain⟨x',hx,rfl⟩:=Option.map_eq_some_iff.1 hc;exact s_move (.inr ho) hx
 case h_3 c x y ho=>
  simp only[Option.bind_eq_bind,Option.bind_eq_some_iff,Option.pure_def,Option.some.injEq] at hc;obtain⟨c',hc',x',hx',y',hy',rfl⟩:=hc;exact s_pick ho hc' hx' hy'
 case h_4 t ho=>
  obtain⟨cs,hz,rfl⟩:=Option.map_eq_some_iff.1 hc;exact s_alloc ho hz
 case h_5 t x ho=>
  obtain⟨x',hx,rfl⟩:=Option.map_eq_some_iff.1 hc;exact s_box ho hx
 case h_6 t parts ho=>
  simp only[Option.bind_eq_bind,Option.bind_eq_some_iff] at hc;obtain⟨zero,hz,hc⟩:=hc;split at hc
  ·rename_i fs ht
   split at hc
   ·cases hc
   ·rename_i hall
    simp only[Option.bind_eq_some_iff,Option.pure_def,Option.some.injEq] at hc;obtain⟨ps,hps,rfl⟩:=hc;refine qzaje ho ht hz ?_ hps;cases hh:fs.all (λf=>(szOf P f.type).isSome) with
    | true=>rfl
    | false=>rw[hh] at hall;simp at hall
  ·rename_i len e ht
   simp only[Option.bind_eq_some_iff,Option.pure_def,Option.some.injEq] at hc;obtain⟨n,hn,ps,hps,rfl⟩:=hc;exact qzamz ho ht hz hn hps
  ·cases hc
 case h_7 t len parts ho=>
  split at hc
  ·rename_i e ht
   simp only[Option.bind_eq_bind,Option.bind_eq_some_iff] at hc;obtain⟨n,hn,zero,hz,hc⟩:=hc;split at hc
   ·cases hc
   ·rename_i hh
    simp only[Option.bind_eq_some_iff,Option.pure_def,Option.some.injEq] at hc;obtain⟨ps,hps,rfl⟩:=hc;simp only[not_or] at hh;exact s_buildS ho ht hz hn hh.1 (Decidable.not_not.1 hh.2.1) hh.2.2 hps
  ·cases hc
 case h_8 t x ho=>
  simp only[Option.bind_eq_bind,Option.bind_eq_some_iff] at hc;obtain⟨g,hg',n,hn,hc⟩:=hc;split at hc
  ·cases hc
  ·simp only[Option.bind_eq_some_iff,Option.pure_def,Option.some.injEq] at hc
   obtain⟨x',hx,rfl⟩:=hc;exact s_load ho hx hg' hn
 case h_9 t x y ho=>
  simp only[Option.bind_eq_bind,Option.bind_eq_some_iff,Option.pure_def,Option.some.injEq] at hc;obtain⟨n,hn,x',hx,y',hy,rfl⟩:=hc;exact s_store ho hx hy hn
 case h_10 x ho=>
  obtain⟨x',hx,rfl⟩:=Option.map_eq_some_iff.1 hc;exact s_nilc ho hx
 case h_11 op t x y t' ho=>
  simp only[Option.bind_eq_bind,Option.bind_eq_some_iff] at hc;obtain⟨x',hx,y',hy,hc⟩:=hc;have bin:∀ bk,bkOf op=some bk->ao=.bin bk x' y'->Sound P o ao:=by
   intro bk hb e;subst e;exact s_bin ho hb hx hy
  have eqa:(P.underlying t≠some .string)->(∀ k,P.underlying t≠some (.int k))->(if P.eqGuardType P.depth t then none else do
    let sig <-sgOf P t
    match op with
    | .eql=>some (AOp.eqA sig false x' y')
    | .neq=>some (AOp.eqA sig true x' y')
    | _=>none)=some ao->Sound P o ao:=by
   intro hns hnk hc;split at hc
   ·cases hc
   ·rename_i hgd
    simp only[Option.bind_eq_bind,Option.bind_eq_some_iff] at hc;obtain⟨sig,hsg,hc⟩:=hc;split at hc
    ·simp only[Option.some.injEq] at hc;subst hc
     exact s_eqA ho rfl hsg (by simpa using hgd) hnk hns hx hy
    ·simp only[Option.some.injEq] at hc;subst hc
     exact s_eqA ho rfl hsg (by simpa using hgd) hnk hns hx hy
    ·cases hc
  cases ht:P.underlying t with
  | none=>simp [ht] at hc
  | some D=>
   rw[ht] at hc;cases D<;>simp only[reduceCtorEq] at hc
   case int k=>
    simp only[Option.bind_eq_some_iff,Option.pure_def,Option.some.injEq] at hc;obtain⟨bk,hb,rfl⟩:=hc;exact bin bk hb rfl
   case string=>
    simp only[Option.bind_eq_some_iff,Option.pure_def,Option.some.injEq] at hc;obtain⟨bk,hb,rfl⟩:=hc;exact bin bk hb rfl
   case bool=>exact eqa (by simp [ht]) (by simp [ht]) hc
   case struct fs=>exact eqa (by simp [ht]) (by simp [ht]) hc
   case array n e=>exact eqa (by simp [ht]) (by simp [ht]) hc
   case func p r b=>
    split at hc
    ·simp only[Option.some.injEq] at hc;subst hc
     exact s_eqN ho rfl (by simp only[Bool.false_eq_true,if_false];exact⟨p,r,b,ht⟩) hx hy
    ·simp only[Option.some.injEq] at hc;subst hc
     exact s_eqN ho rfl (by simp only[Bool.false_eq_true,if_false];exact⟨p,r,b,ht⟩) hx hy
    ·cases hc
   case slice p=>
    split at hc
    ·simp only[Option.some.injEq] at hc;subst hc
     exact s_nilS ho rfl ⟨p,ht⟩ hx hy
    ·simp only[Option.some.injEq] at hc;subst hc
     exact s_nilS ho rfl ⟨p,ht⟩ hx hy
    ·cases hc
   case pointer p=>
    split at hc
    ·simp only[Option.some.injEq] at hc;subst hc
     exact s_nilP ho rfl ⟨p,ht⟩ hx hy
    ·simp only[Option.some.injEq] at hc;subst hc
     exact s_nilP ho rfl ⟨p,ht⟩ hx hy
    ·cases hc
   case map p r=>
    split at hc
    ·simp only[Option.some.injEq] at hc;subst hc
     exact s_eqN ho rfl (by simpa using ⟨p,r,ht⟩) hx hy
    ·simp only[Option.some.injEq] at hc;subst hc
     exact s_eqN ho rfl (by simpa using ⟨p,r,ht⟩) hx hy
    ·cases hc
 case h_12 t x ho=>
  obtain⟨x',hx,rfl⟩:=Option.map_eq_some_iff.1 hc;exact s_not ho hx
 case h_13 t x ho=>
  split at hc
  ·obtain⟨x',hx,rfl⟩:=Option.map_eq_some_iff.1 hc
   exact s_neg ho hx
  ·cases hc
 case h_14 t u x ho=>
  simp only[Option.bind_eq_bind,Option.bind_eq_some_iff] at hc;obtain⟨x',hx,hc⟩:=hc;split at hc
  ·rename_i k0 k ht hu
   simp only[Option.some.injEq] at hc;subst hc;exact s_cv ho ht hu hx
  ·rename_i ht hu
   simp only[Option.some.injEq] at hc;subst hc;exact s_cvSS ho ht hu hx
  ·rename_i e ht hu
   split at hc
   ·rename_i he
    simp only[Option.some.injEq] at hc;subst hc;exact s_cvBS ho ht he hu hx
   ·cases hc
  ·rename_i e ht hu
   split at hc
   ·rename_i he
    simp only[Option.some.injEq] at hc;subst hc;exact s_cvSB ho ht hu he hx
   ·cases hc
  ·rename_i e e' ht hu
   split at hc
   ·rename_i he
    obtain⟨he,rfl⟩:=he;simp only[Option.some.injEq] at hc;subst hc;exact s_cvLL ho ht he hx
   ·cases hc
  ·cases hc
 case h_15 f fi c ho=>
  simp only[Option.bind_eq_bind,Option.bind_eq_some_iff,Option.pure_def,Option.some.injEq] at hc;obtain⟨fi',hf,c',hc',rfl⟩:=hc;exact s_mkF ho hf hc'
 case h_16 t ho=>
  simp only[Option.some.injEq] at hc;subst hc;exact s_mkM ho
 case h_17 t k n ho=>
  split at hc
  ·rename_i kt e ht
   simp only[Option.some.injEq] at hc;subst hc;exact s_mkMh ho ht
  ·cases hc
 case h_18 t n c ho=>
  split at hc
  ·rename_i e ht
   simp only[Option.bind_eq_bind,Option.bind_eq_some_iff] at hc;obtain⟨sz,hn,zero,hz,hc⟩:=hc;split at hc
   ·cases hc
   ·rename_i hh
    simp only[not_or] at hh;simp only[Option.bind_eq_some_iff,Option.pure_def,Option.some.injEq] at hc;obtain⟨n',hn',c',hc',rfl⟩:=hc;exact s_mkS ho ht hn hz hh.1 (Decidable.not_not.1 hh.2.1) hh.2.2 hn' hc'
  ·cases hc
 case h_19 t x lo hi mx ho=>
  split at hc
  ·rename_i ht
   split at hc
   ·cases hc
   ·rename_i hm
    simp only[Option.bind_eq_bind,Option.bind_eq_some_iff,Option.pure_def,Option.some.injEq] at hc;obtain⟨x',hx,lo',hlo,hi',hhi,rfl⟩:=hc;exact s_slcS ho (by cases mx with|none=>rfl|some _=>simp at hm) ht hx hlo hhi
  ·rename_i e ht
   simp only[Option.bind_eq_bind,Option.bind_eq_some_iff] at hc;obtain⟨sz,hn,hc⟩:=hc;split at hc
   ·cases hc
   ·rename_i hh
    simp only[not_or,Bool.and_eq_true,not_and] at hh;simp only[Option.bind_eq_some_iff,Option.pure_def,Option.some.injEq] at hc;obtain⟨x',hx,lo',hlo,hi',hhi,mx',hmx,rfl⟩:=hc;refine s_slc ho ht hn hx hlo hhi hmx (λhne e=>?_);cases mx with
    | none=>simp [cOpt] at hmx;exact hne hmx.symm
    | some y=>rw[e] at hh;simp at hh
  ·cases hc
 case h_20 t x f ho=>
  split at hc
  ·rename_i fs ht
   simp only[Option.bind_eq_bind,Option.bind_eq_some_iff] at hc;obtain⟨g,hg',n,hn,hc⟩:=hc;split at hc
   ·cases hc
   ·rename_i h0
    simp only[Option.bind_eq_some_iff,Option.pure_def,Option.some.injEq] at hc;obtain⟨x',hx,rfl⟩:=hc;exact s_fad ho hx ht hg' hn h0
  ·cases hc
 case h_21 t x f ho=>
  split at hc
  ·rename_i fs ht
   simp only[Option.bind_eq_bind,Option.bind_eq_some_iff] at hc;obtain⟨g,hg',n,hn,ag,ha,hc⟩:=hc;split at hc
   ·cases hc
   ·simp only[Option.bind_eq_some_iff,Option.pure_def,Option.some.injEq] at hc
    obtain⟨x',hx,rfl⟩:=hc;exact s_fld ho hx ht hg' hn ha
  ·cases hc
 case h_22 t x i ho=>
  split at hc
  ·rename_i len e ht
   simp only[Option.bind_eq_bind,Option.bind_eq_some_iff] at hc;obtain⟨n,hn,hc⟩:=hc;split at hc
   ·cases hc
   ·simp only[Option.bind_eq_some_iff,Option.pure_def,Option.some.injEq] at hc
    obtain⟨x',hx,i',hi,rfl⟩:=hc;exact s_iadA ho ht hn hx hi
  ·rename_i e ht
   simp only[Option.bind_eq_bind,Option.bind_eq_some_iff] at hc;obtain⟨n,hn,hc⟩:=hc;split at hc
   ·cases hc
   ·simp only[Option.bind_eq_some_iff,Option.pure_def,Option.some.injEq] at hc
    obtain⟨x',hx,i',hi,rfl⟩:=hc;exact s_iadS ho ht hn hx hi
  ·cases hc
 case h_23 t x i ho=>
  split at hc
  ·rename_i len e ht
   simp only[Option.bind_eq_bind,Option.bind_eq_some_iff] at hc;obtain⟨n,hn,ag,ha,hc⟩:=hc;split at hc
   ·cases hc
   ·rename_i hh
    simp only[not_or] at hh;simp only[Option.bind_eq_some_iff,Option.pure_def,Option.some.injEq] at hc;obtain⟨x',hx,i',hi,rfl⟩:=hc;exact s_ixA ho ht hn ha hh.1 hx hi
  ·rename_i ht
   simp only[Option.bind_eq_bind,Option.bind_eq_some_iff,Option.pure_def,Option.some.injEq] at hc;obtain⟨x',hx,i',hi,rfl⟩:=hc;exact s_ixS ho ht hx hi
  ·cases hc
 case h_24 t m k ok ho=>
  split at hc
  ·rename_i kt e ht
   simp only[Option.bind_eq_bind,Option.bind_eq_some_iff,Option.pure_def,Option.some.injEq] at hc;obtain⟨zero,hz,sig,hsg,m',hm,k',hk,rfl⟩:=hc;exact s_look ho ht hz hsg hm hk
  ·cases hc
 case h_25 t m k x ho=>
  split at hc
  ·rename_i kt e ht
   simp only[Option.bind_eq_bind,Option.bind_eq_some_iff,Option.pure_def,Option.some.injEq] at hc;obtain⟨sig,hsg,m',hm,k',hk,x',hx,rfl⟩:=hc;exact s_mupd (.inl ho) ht hsg hm hk hx
  ·cases hc
 case h_26 t m k x ho=>
  split at hc
  ·rename_i kt e ht
   simp only[Option.bind_eq_bind,Option.bind_eq_some_iff,Option.pure_def,Option.some.injEq] at hc;obtain⟨sig,hsg,m',hm,k',hk,x',hx,rfl⟩:=hc;exact s_mupd (.inr ho) ht hsg hm hk hx
  ·cases hc
 case h_27 x n ho=>
  simp only[Option.bind_eq_bind,Option.bind_eq_some_iff,Option.pure_def,Option.some.injEq] at hc;obtain⟨x',hx,rfl⟩:=hc;exact s_ext ho hx
 case h_28 c ho=>
  split at hc
  ·rename_i f hcal
   simp only[Option.bind_eq_bind,Option.bind_eq_some_iff,Option.pure_def,Option.some.injEq] at hc;obtain⟨f',hf,args',ha,rfl⟩:=hc;exact s_call ho hcal hf ha
  ·rename_i hcal
   simp only[Option.bind_eq_bind,Option.bind_eq_some_iff] at hc;obtain⟨t,ht0,x,hx0,hc⟩:=hc;split at hc
   ·rename_i ht
    simp only[Option.bind_eq_some_iff,Option.pure_def,Option.some.injEq] at hc;obtain⟨x',hx,rfl⟩:=hc;exact s_len ho hcal ht0 hx0 (by simpa using ht) hx
   ·rename_i e ht
    simp only[Option.bind_eq_some_iff,Option.pure_def,Option.some.injEq] at hc;obtain⟨x',hx,rfl⟩:=hc;exact s_len ho hcal ht0 hx0 (by simpa using ⟨e,ht⟩) hx
   ·cases hc
  ·rename_i hcal
   simp only[Option.bind_eq_bind,Option.bind_eq_some_iff] at hc;obtain⟨t,ht0,x,hx0,hc⟩:=hc;split at hc
   ·rename_i e ht
    simp only[Option.bind_eq_some_iff,Option.pure_def,Option.some.injEq] at hc;obtain⟨x',hx,rfl⟩:=hc;exact s_cap ho hcal ht0 hx0 ht hx
   ·cases hc
  ·rename_i hcal
   split at hc
   ·rename_i x y hn
    simp only[Option.bind_eq_bind,Option.bind_eq_some_iff,Option.pure_def,Option.some.injEq] at hc;obtain⟨x',hx,y',hy,rfl⟩:=hc;exact s_minmax ho (.inl ⟨hcal,rfl⟩) hn hx hy
   ·cases hc
  ·rename_i hcal
   split at hc
   ·rename_i x y hn
    simp only[Option.bind_eq_bind,Option.bind_eq_some_iff,Option.pure_def,Option.some.injEq] at hc;obtain⟨x',hx,y',hy,rfl⟩:=hc;exact s_minmax ho (.inr ⟨hcal,rfl⟩) hn hx hy
   ·cases hc
  ·rename_i hcal
   simp only[Option.bind_eq_bind,Option.bind_eq_some_iff] at hc;obtain⟨t,ht0,u,ht1,x,hx0,y,hx1,hc⟩:=hc;split at hc
   ·rename_i e e2 ht hu
    simp only[Option.bind_eq_some_iff] at hc;obtain⟨n,hn,zero,hz,hc⟩:=hc;split at hc
    ·cases hc
    ·rename_i hh
     simp only[not_or] at hh;simp only[Option.bind_eq_some_iff,Option.pure_def,Option.some.injEq] at hc;obtain⟨x',hx,y',hy,rfl⟩:=hc;exact s_app ho hcal ht0 ht1 hx0 hx1 ht hu (by simp) hn hz hh.1 (Decidable.not_not.1 hh.2.1) hh.2.2 hx hy
   ·rename_i e ht hu
    simp only[Option.bind_eq_some_iff] at hc;obtain⟨n,hn,zero,hz,hc⟩:=hc;split at hc
    ·cases hc
    ·rename_i hh
     simp only[not_or] at hh;simp only[Option.bind_eq_some_iff,Option.pure_def,Option.some.injEq] at hc;obtain⟨x',hx,y',hy,rfl⟩:=hc;exact s_app ho hcal ht0 ht1 hx0 hx1 ht hu (by simp) hn hz hh.1 (Decidable.not_not.1 hh.2.1) hh.2.2 hx hy
   ·rename_i e k2 ht hu
    simp only[Option.bind_eq_some_iff] at hc;obtain⟨n,hn,zero,hz,hc⟩:=hc;split at hc
    ·cases hc
    ·rename_i hh
     simp only[not_or] at hh;simp only[Option.bind_eq_some_iff,Option.pure_def,Option.some.injEq] at hc;obtain⟨x',hx,y',hy,rfl⟩:=hc;exact s_appZ ho hcal ht0 ht1 hx0 hx1 ht hu hn hz hh.1 (Decidable.not_not.1 hh.2.1) hh.2.2 hx hy
   ·cases hc
  ·cases hc
 case h_29 t x ho=>
  split at hc
  ·rename_i kt e ht
   simp only[Option.map_eq_some_iff] at hc;obtain⟨x',hx,rfl⟩:=hc;exact s_rng ho ht hx
  ·cases hc
 case h_30 x ho=>
  simp only[Option.map_eq_some_iff] at hc;obtain⟨x',hx,rfl⟩:=hc;exact s_nxt ho hx
 case h_31 x ho=>
  simp only[Option.map_eq_some_iff] at hc;obtain⟨x',hx,rfl⟩:=hc;exact s_ent ho hx
 case h_32=>cases hc
theorem op_sound {ao:AOp}(hc:convOp P o=some ao):Sound P o ao:=by
 unfold convOp at hc;cases h0:convOp0 P o with
 | some a0=>rw[h0] at hc;cases hc;exact op_sound0 h0
 | none=>
  rw[h0] at hc;dsimp only at hc;cases h1:convOp1 P o with
  | some a1=>rw[h1] at hc;cases hc;exact op_sound1 h1
  | none=>rw[h1] at hc;cases hc;exact s_die
theorem EnvOk.put {vs:List SV}{t:Array Value}(h:EnvOk ρ vs t) (q:Nat) {x:SV}{v:Value}(hd:den ρ x v):EnvOk ρ (Cz.put vs q x) (t.setIfInBounds q v):=by
 intro i y hy;rw[qes] at hy;by_cases hi:i=q
 ·subst hi
  have hlt:i<vs.length:=by
   have:=(List.getElem?_eq_some_iff.1 hy).1
   simpa using this
  rw[List.getElem?_set_self hlt] at hy;simp at hy;subst hy;obtain⟨u,hu,_⟩:=h i vs[i] (List.getElem?_eq_getElem hlt)
  have:i<t.size:=(Array.getElem?_eq_some_iff.1 hu).1
  exact⟨v,by simp [this],hd⟩
 ·rw[List.getElem?_set_ne (Ne.symm hi)] at hy
  obtain⟨u,hu,d⟩:=h i y hy;exact⟨u,by simp [Ne.symm hi,hu],d⟩
theorem EnvOk.putO {vs:List SV}{a:Act}(h:EnvOk ρ vs a.tmps) (d:Option Nat) {x:SV}{v:Value}(hd:den ρ x v):EnvOk ρ (Cz.putO vs d x) (a.put d v).tmps:=by
 cases d with
 | none=>exact h
 | some q=>exact h.put q hd
theorem EnvOk.say {vs:List SV}{t:Array Value}(h:EnvOk ρ vs t) (q:Nat) {x:SV}(hd:∀ v,t[q]?=some v->den ρ x v):EnvOk ρ (Cz.put vs q x) t:=by
 intro i y hy;rw[qes] at hy;by_cases hi:i=q
 ·subst hi
  have hlt:i<vs.length:=by
   have:=(List.getElem?_eq_some_iff.1 hy).1
   simpa using this
  rw[List.getElem?_set_self hlt] at hy;simp at hy;subst hy;obtain⟨u,hu,_⟩:=h i vs[i] (List.getElem?_eq_getElem hlt);exact⟨u,hu,hd u hu⟩
 ·rw[List.getElem?_set_ne (Ne.symm hi)] at hy
  exact h i y hy
theorem EnvOk.kill {vs:List SV}{t:Array Value}(h:EnvOk ρ vs t):∀ (ds:List Nat),EnvOk ρ (Cz.puts vs ds .any) t
 | []=>h
 | d::ds=>by
  have:=h.say d (x:=.any) (λ_ _=>by simp [den])
  exact EnvOk.kill this ds
theorem qru (a:Act) (d:Option Nat) (v:Value):(a.put d v).defers=a.defers:=by cases d<;>rfl
theorem NextR.mono {R R':Value->World->Prop}(h:∀ v w,R v w->R' v w):∀ {r:Result Next},NextR P R r->NextR P R' r:=by
 intro r hr;unfold NextR at hr ⊢;split at hr
 ·exact h _ _ hr
 ·exact h _ _ hr
 ·exact Calls.mono hr λe w' ⟨v,e1,hv⟩=>⟨v,e1,h _ _ hv⟩
 ·exact λc cs=>let ⟨v,w',h1,h2⟩:=hr c cs;⟨v,w',h _ _ h1,h2⟩
 ·exact hr.elim
theorem Rg.mono {ops:Array Oper}{Q Q':Act->World->Prop}(h:∀ a w,Q a w->Q' a w):∀ (is:List Nat) (a:Act) (w:World),Rg P ops Q is a w->Rg P ops Q' is a w
 | [],a,w,hr=>h a w hr
 | i::is,a,w,hr=>by
  simp only[Rg] at hr ⊢;split at hr
  ·exact Rg.mono h is a w hr
  ·split at hr
   ·rename_i hw
    rw[if_pos hw];exact⟨hr.1,NextR.mono (λv w' hh=>Rg.mono h is _ w' hh) hr.2⟩
   ·rename_i hw
    rw[if_neg hw];exact Rg.mono h is _ w hr
def RgPost (P:Program) (N:Nat->Prop) (W0:World) (m:Nat) (ρ:Nms) (mk:List Nat) (R:List SV->List Blk->Prop):Act->World->Prop:=λa' W'=>
 ∃ ρ' vs' l',R vs' l'/\Le m ρ ρ'/\m<=l'.length/\Rel P N W0 ρ' l' W'/\EnvOk ρ' vs' a'.tmps/\MkOk ρ' mk a'.defers
def boolOf:Value->Option Bool
 | .bool b=>some b
 | _=>none
theorem qzakr {ops:Array Oper}{tmps:Array Value}{j:Nat}{x:Oper}{d:Nat}{v:Value}(hx:ops[j]?=some x) (hd:x.dst=some d) (hv:tmps[d]?=some v):
  yielded ops tmps j=boolOf v:=by
 unfold yielded;simp only[hx,Option.bind_some,hd,hv];cases v<;>rfl
theorem qzafs {ops:Array Oper}{R:List SV->List Blk->Prop}(m:Nat):
  ∀ (aos:List AO) (j:Nat),(ops.toList.drop j).mapM (convAO P ops)=some aos->∀ (N:Nat->Prop) (W0 W:World) (ρ:Nms) (l:List Blk) (vs:List SV) (a:Act) (mk:List Nat),
   vrg (S0 P) aos vs l R->Rel P N W0 ρ l W->EnvOk ρ vs a.tmps->MkOk ρ mk a.defers->m<=l.length ->
   Rg P ops (RgPost P N W0 m ρ mk R) (List.range' j aos.length) a W
 | [],j,hc,N,W0,W,ρ,l,vs,a,mk,h,hR,hE,hM,hm=>by
  simp only[List.length_nil,List.range'_zero,Rg];exact⟨ρ,vs,l,h,Le.refl _ _,hm,hR,hE,hM⟩
 | ao::aos,j,hc,N,W0,W,ρ,l,vs,a,mk,h,hR,hE,hM,hm=>by
  have hj:j<ops.toList.length:=by
   rcases Nat.lt_or_ge j ops.toList.length with h1|h1
   ·exact h1
   ·rw[List.drop_eq_nil_of_le h1] at hc;simp at hc
  rw[List.drop_eq_getElem_cons hj] at hc;simp only[List.mapM_cons,Option.bind_eq_bind,Option.bind_eq_some_iff,Option.pure_def,Option.some.injEq,List.cons.injEq] at hc;obtain⟨ao',hao,aos',hrest,rfl,rfl⟩:=hc;have hgo:ops[j]?=some (ops.toList[j]):=by simp at hj;simp [hj]
  generalize ops.toList[j]=o at *;simp only[List.length_cons,List.range'_succ,Rg,hgo];simp only[convAO,Option.bind_eq_bind,Option.bind_eq_some_iff] at hao;obtain⟨op,hop,hao⟩:=hao;have skip:∀ (vs:List SV),EnvOk ρ vs a.tmps->vrg (S0 P) aos' (putO vs o.dst .un) l R->Rg P ops (RgPost P N W0 m ρ mk R) (List.range' (j+1) aos'.length) (a.put o.dst undef) W:=by
   intro vs hE h;exact qzafs m aos' (j+1) hrest N W0 W ρ l _ (a.put o.dst undef) mk h hR (hE.putO o.dst (by simp [den])) (by rw[qru];exact hM) hm
  have step:∀ (vs:List SV),EnvOk ρ vs a.tmps->vop (S0 P) op vs l (λv l'=>vrg (S0 P) aos' (putO vs o.dst v) l' R) ->
    OpRuns P o a W (λv W'=>Rg P ops (RgPost P N W0 m ρ mk R) (List.range' (j+1) aos'.length) (a.put o.dst v) W'):=by
   intro vs hE h;obtain⟨hd,hn⟩:=op_sound hop N W0 W ρ l vs a _ h hR hE;refine⟨hd,NextR.mono ?_ hn⟩;rintro v W' ⟨ρ',sv,l',hK,hle,hll,hR',hdv⟩;have hE':EnvOk ρ' vs a.tmps:=hE.le hle hR.out;have hM':MkOk ρ' mk (a.put o.dst v).defers:=by rw[qru];exact MkOk.le hle hR.out _ _ hM
   refine Rg.mono ?_ _ _ _ (qzafs m aos' (j+1) hrest N W0 W' ρ' l' _ (a.put o.dst v) mk hK hR' (hE'.putO o.dst hdv) hM' (by omega));rintro a2 W2 ⟨ρ2,vs2,l2,r1,r2,r3⟩;exact⟨ρ2,vs2,l2,r1,(hle.mono hm).trans r2,r3⟩
  split at hao
  ·rename_i hgd
   simp only[Option.pure_def,Option.some.injEq] at hao;subst hao;have hw:Region.wanted o (yielded ops a.tmps)=true:=by simp [Region.wanted,hgd]
   rw[if_pos hw];simp only[vrg] at h;exact step vs hE h
  ·rename_i jj want hgd
   simp only[Option.bind_eq_some_iff,Option.pure_def,Option.some.injEq] at hao;obtain⟨x,hx,d,hd,rfl⟩:=hao;simp only[vrg] at h;have hwd:Region.wanted o (yielded ops a.tmps)=(yielded ops a.tmps jj==some want):=by simp [Region.wanted,hgd]
   by_cases hun:∃ v,a.tmps[d]?=some v/\den ρ (nth vs d) v
   ·obtain⟨v,hv,hdn⟩:=hun
    have hy:=qzakr hx hd hv;have say:∀ b,v=.bool b->EnvOk ρ (put vs d (ofB b)) a.tmps:=by
     intro b hb;refine hE.say d λu hu=>?_;rw[hv] at hu;simp at hu;subst hu;rw[hb];cases b<;>simp [den,ofB]
    have fin:∀ b,v=.bool b ->
      (b=true->if want then vop (S0 P) op (put vs d .tt) l (λv l'=>vrg (S0 P) aos' (putO (put vs d .tt) o.dst v) l' R) else vrg (S0 P) aos' (putO (put vs d .tt) o.dst .un) l R) ->
      (b=false->if want then vrg (S0 P) aos' (putO (put vs d .ff) o.dst .un) l R else vop (S0 P) op (put vs d .ff) l (λv l'=>vrg (S0 P) aos' (putO (put vs d .ff) o.dst v) l' R)) ->
      (if Region.wanted o (yielded ops a.tmps) then OpRuns P o a W (λv W'=>Rg P ops (RgPost P N W0 m ρ mk R) (List.range' (j+1) aos'.length) (a.put o.dst v) W')
       else Rg P ops (RgPost P N W0 m ρ mk R) (List.range' (j+1) aos'.length) (a.put o.dst undef) W):=by
     intro b hb h1 h2;rw[hwd,hy,hb,boolOf];cases b<;>cases want
     ·rw[if_pos (by simp)];exact step _ (say _ hb) (by simpa [ofB] using h2 rfl)
     ·rw[if_neg (by simp)];exact skip _ (say _ hb) (by simpa [ofB] using h2 rfl)
     ·rw[if_neg (by simp)];exact skip _ (say _ hb) (by simpa [ofB] using h1 rfl)
     ·rw[if_pos (by simp)];exact step _ (say _ hb) (by simpa [ofB] using h1 rfl)
    split at h
    ·rename_i hnu
     rw[hnu] at hdn;simp only[den] at hdn;rw[hwd,hy,hdn,if_neg (by simp [undef,boolOf])];exact skip vs hE h
    ·obtain⟨b,hb,h1,h2⟩:=brv_ok h hdn
     exact fin b hb h1 h2
   ·have hnone:nth vs d=.any:=by
     rw[qfy,List.getD_eq_getElem?_getD];cases hq:vs[d]? with
     | none=>rfl
     | some y=>
      obtain⟨v,hv,hdv⟩:=hE d y hq;exact absurd ⟨v,hv,by rw[qfy,List.getD_eq_getElem?_getD,hq];exact hdv⟩ hun
    rw[hnone] at h;simp only[brv] at h
theorem RoOk.le {cx:Cx}{ρ ρ':Nms}{rr:Option Nat}(h:RoOk ρ cx rr) (hl:Le cx.m ρ ρ'):RoOk ρ' cx rr:=by
 unfold RoOk at h ⊢;split
 ·rename_i hr;rw[hr] at h;exact h
 ·rename_i k hr
  rw[hr] at h;obtain⟨hk,vw,hv,r⟩:=h;exact⟨hk,vw,hl.nm k hk vw hv,r⟩
theorem KPost.le {cx:Cx}{ρ ρ':Nms}{K:VK}{ex:Ex}{a:Act}{w:World}(hl:Le cx.m ρ ρ') (h:KPost P N W0 cx ρ' K ex a w):KPost P N W0 cx ρ K ex a w:=by
 obtain⟨ρ2,e2,l2,h1,h2,h3⟩:=h;exact⟨ρ2,e2,l2,h1,hl.trans h2,h3⟩
theorem here {cx:Cx}{ρ:Nms}{K:VK}{ex:Ex}{e:Env}{l:List Blk}{a:Act}{w:World}(hs:St P N W0 ρ e l a w) (hm:cx.m<=l.length) (hK:K ex e l):KPost P N W0 cx ρ K ex a w:=
 ⟨ρ,e,l,hK,Le.refl _ _,hm,hs⟩
theorem qyr {kl:Nat->List Nat}{g:Nat}:∀ {c:Code}{ir:IR},conv P kl c=some ir->(findLabel c g).isSome=(findL ir g).isSome
 | .seq x y,ir,h=>by
  simp only[conv,Option.bind_eq_bind,Option.bind_eq_some_iff,Option.pure_def,Option.some.injEq] at h;obtain⟨i1,h1,i2,h2,rfl⟩:=h;have e1:=qyr (g:=g) h1;have e2:=qyr (g:=g) h2;simp only[findLabel,findL];cases hf:findLabel x g<;>cases hg:findL i1 g<;>rw[hf,hg] at e1<;>simp at e1
  ·exact e2
  ·rfl
 | .label l',ir,h=>by
  simp only[conv,Option.some.injEq] at h;subst h;simp only[findLabel,findL];split<;>rfl
 | .skip,ir,h=>by simp only[conv,Option.some.injEq] at h;subst h;rfl
 | .region id ops false,ir,h=>by
  simp only[conv,Option.bind_eq_bind,Option.bind_eq_some_iff,Option.pure_def,Option.some.injEq] at h;obtain⟨_,_,rfl⟩:=h;rfl
 | .region id ops true,ir,h=>by
  simp only[conv,Option.bind_eq_bind,Option.bind_eq_some_iff,Option.pure_def,Option.some.injEq] at h;obtain⟨_,_,rfl⟩:=h;rfl
 | .cond c x y,ir,h=>by
  simp only[conv,Option.bind_eq_bind,Option.bind_eq_some_iff,Option.pure_def,Option.some.injEq] at h;obtain⟨_,_,_,_,_,_,rfl⟩:=h;rfl
 | .block id b,ir,h=>by simp only[conv,Option.map_eq_some_iff] at h;obtain⟨_,_,rfl⟩:=h;rfl
 | .loop b,ir,h=>by simp only[conv,Option.map_eq_some_iff] at h;obtain⟨_,_,rfl⟩:=h;rfl
 | .rangeFunc f ps x y,ir,h=>by
  simp only[conv,Option.bind_eq_bind,Option.bind_eq_some_iff,Option.pure_def,Option.some.injEq] at h;obtain⟨_,_,_,_,_,_,rfl⟩:=h;rfl
 | .exit id,ir,h=>by simp only[conv,Option.some.injEq] at h;subst h;rfl
 | .scope b,ir,h=>by simp only[conv,Option.map_eq_some_iff] at h;obtain⟨_,_,rfl⟩:=h;rfl
 | .goto l,ir,h=>by simp only[conv,Option.some.injEq] at h;subst h;rfl
 | .ret,ir,h=>by simp only[conv,Option.some.injEq] at h;subst h;rfl
 | .refuse w,ir,h=>by simp [conv] at h
theorem qur {α β:Type}{f:α->Option β}:∀ {l:List α}{m:List β},l.mapM f=some m->m.length=l.length
 | [],m,h=>by simp at h;subst h;rfl
 | x::l,m,h=>by
  simp only[List.mapM_cons,Option.bind_eq_bind,Option.bind_eq_some_iff,Option.pure_def,Option.some.injEq] at h;obtain⟨y,_,ys,hys,rfl⟩:=h;simp [qur hys]
theorem rf_end {cx:Cx}{ρ ρ':Nms}{K:VK}{vs:List SV}{mk:List Nat}{a:Act}{l2:List Blk}{W2:World}{k b:Nat}
  (hR:Rel P N W0 ρ' l2 W2) (hk1:⟨some ⟨b,0,none⟩,0,0⟩∈ρ' k) (hle:Le cx.m ρ ρ') (hm:cx.m<=l2.length)
  (hE:EnvOk ρ' vs a.tmps) (hM:MkOk ρ' mk a.defers)
  (hK:match lget l2 k with
   | .lp _ _ _ _ .ready=>K .normal ⟨vs,mk⟩ (lset l2 k .dead)
   | .lp _ _ _ _ (.done ex)=>K ex ⟨vs,mk⟩ (lset l2 k .dead)
   | _=>False):EndLoop (KPost P N W0 cx ρ K) a b W2:=by
 have main:∀ vs' ps asg body ph (ex:Ex),lget l2 k=.lp vs' ps asg body ph->(∀ L,PhOk ph L->L.state≠.busy/\ex.jump=L.pending)->K ex ⟨vs,mk⟩ (lset l2 k .dead)->EndLoop (KPost P N W0 cx ρ K) a b W2:=by
  intro vs' ps asg body ph ex hl hph hKe;have hkB:=qas hl (by simp);obtain⟨b',L,⟨e1,hN⟩,hh,_,_,_,_,hPh⟩:=hR.blk k _ hkB;rw[e1,List.mem_singleton] at hk1;simp at hk1;subst hk1;obtain⟨h1,h2⟩:=hph L hPh;have hlt:=qbf hh;have hup:upd ρ' k (ρ' k)=ρ':=qdf;refine⟨L,hh,h1,ex,h2,ρ',⟨vs,mk⟩,_,hKe,hle,by rw[qbj];simpa using hm,?_,hE,hM⟩;rw[qbj,<-hup];refine hR.turn hkB rfl ?_ (by rw[qar];exact Nat.le_refl _) ?_ (λ_ hv=>hv) ?_ trivial
  ·exact hR.below.trans ⟨rfl,rfl,rfl,by rw[qar];exact Nat.le_refl _,λj hj=>qat (λe=>hj (by subst e;first|exact hNb|exact hN|assumption))⟩
  ·intro i _ hi
   exact qat (λhib=>hi _ (by rw[e1];exact List.mem_singleton.2 rfl) _ rfl hib.symm)
  ·intro vw hvw' a' ha'
   exact⟨by rw[qar];exact hR.ids k vw a' hvw' ha',.inr ⟨vw,hvw',a',ha',rfl⟩⟩
 split at hK
 ·rename_i hl
  exact main _ _ _ _ _ .normal hl (λL hL=>⟨by rw[hL.1];simp,by rw[hL.2];rfl⟩) hK
 ·rename_i ex hl
  exact main _ _ _ _ _ ex hl (λL hL=>⟨by rw[hL.1];simp,hL.2.symm⟩) hK
 ·exact hK.elim
end
end Cz
