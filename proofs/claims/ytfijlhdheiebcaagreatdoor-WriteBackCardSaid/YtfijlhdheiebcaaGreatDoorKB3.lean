/- What the claims of this group lean on: E3. No condition. -/
import Derived.Test.YtfijlhdheiebcaaGreatDoorKB2
import Derived.Orders
set_option linter.unusedSimpArgs false
set_option linter.unusedVariables false
namespace Cz
open Go Go.RowKit
section
variable {P:Program}{N:Nat->Prop}{W0 W:World}{ρ:Nms}{l:List Blk}
theorem push_get {x:Obj}{h:Array Obj}:(h.push x)[h.size]?=some x:=by simp
theorem qzagt {ρ:Nms}{k:Nat}{vw:View}{vws:List View}(h:vw∈vws):vw∈upd ρ k vws k:=by rw[qam];exact h
theorem Rel.push1 (h:Rel P N W0 ρ l W) {B:Blk}{x:Obj}
  (hB:BlkOk P N { W with heap:=W.heap.push x } (upd ρ l.length [⟨some ⟨W.heap.size,0,none⟩,0,0⟩]) l.length B):
  Rel P N W0 (upd ρ l.length [⟨some ⟨W.heap.size,0,none⟩,0,0⟩]) (l++[B]) { W with heap:=W.heap.push x }:=by
 refine h.push ?_ (by simp) ?_ ?_ hB
 ·refine h.below.trans ⟨rfl,rfl,rfl,by simp,λj hj=>?_⟩
  have:j≠W.heap.size:=λe=>hj (e▸h.hN _ (Nat.le_refl _))
  simp [Array.getElem?_push,this]
 ·intro i hi
  simp [Array.getElem?_push,show i≠W.heap.size by omega]
 ·intro vw hv a ha
  rw[List.mem_singleton] at hv;subst hv;simp at ha;subst ha
  simp
theorem qej {cx:Cx}{kl:Nat->List Nat}:∀ (c:Code) {ir:IR}{K:VK}{e:Env}{l:List Blk},conv P kl c=some ir->vc (S0 P) cx ir K e l->WP P cx c K e l
 | .skip,ir,K,e,l,hc,h=>λN W0 ρ rr a W hs hr hm=>by
  simp only[conv,Option.some.injEq] at hc;subst hc;exact wp_skip (here hs hm h)
 | .label _,ir,K,e,l,hc,h=>λN W0 ρ rr a W hs hr hm=>by
  simp only[conv,Option.some.injEq] at hc;subst hc;exact wp_label (here hs hm h)
 | .exit id,ir,K,e,l,hc,h=>λN W0 ρ rr a W hs hr hm=>by
  simp only[conv,Option.some.injEq] at hc;subst hc;exact wp_exit (here hs hm h)
 | .goto g,ir,K,e,l,hc,h=>λN W0 ρ rr a W hs hr hm=>by
  simp only[conv,Option.some.injEq] at hc;subst hc;exact wp_goto (here hs hm h)
 | .ret,ir,K,e,l,hc,h=>λN W0 ρ rr a W hs hr hm=>by
  simp only[conv,Option.some.injEq] at hc;subst hc;exact wp_ret (here hs hm h)
 | .refuse _,ir,K,e,l,hc,h=>by simp [conv] at hc
 | .region id ops false,ir,K,e,l,hc,h=>λN W0 ρ rr a W hs hr hm=>by
  simp only[conv,Option.bind_eq_bind,Option.bind_eq_some_iff,Option.pure_def,Option.some.injEq] at hc;obtain⟨aos,ha,rfl⟩:=hc;have hlen:=qur ha;have hsnd:=qzafs cx.m aos 0 (by simpa using ha) N W0 W ρ l e.vs a e.mks h hs.rel hs.env hs.mks hm;refine wp_region ?_;have e1:List.range ops.size=List.range' 0 aos.length:=by rw[hlen,List.range_eq_range'];simp
  rw[e1];refine Rg.mono ?_ _ _ _ hsnd;rintro a' w' ⟨ρ',vs',l',hK,hle,hm',hR,hE,hM⟩;exact⟨ρ',_,l',hK,hle,hm',hR,hE.kill _,hM⟩
 | .region id ops true,ir,K,e,l,hc,h=>λN W0 ρ rr a W hs hr hm=>by
  simp only[conv,Option.bind_eq_bind,Option.bind_eq_some_iff,Option.pure_def,Option.some.injEq] at hc;obtain⟨aos,ha,rfl⟩:=hc;have hd:=h ops ha rfl id N W0 ρ rr a W hs hr hm;refine Wp.mono hd ?_;rintro ex a' w' ⟨ρ',e',l',hK,hle,hm',hR,hE,hM⟩;cases ex with
  | normal=>exact⟨ρ',_,l',hK,hle,hm',hR,hE.kill _,hM⟩
  | exit id=>exact hK.elim
  | goto g=>exact hK.elim
  | ret=>exact hK.elim
 | .seq x y,ir,K,e,l,hc,h=>λN W0 ρ rr a W hs hr hm=>by
  simp only[conv,Option.bind_eq_bind,Option.bind_eq_some_iff,Option.pure_def,Option.some.injEq] at hc;obtain⟨i1,h1,i2,h2,rfl⟩:=hc;simp only[vc] at h;refine wp_seq (Wp.mono (qej x h1 h N W0 ρ rr a W hs hr hm) ?_);rintro ex a' w' ⟨ρ',e',l',hK,hle,hm',hs'⟩;cases ex with
  | normal=>exact Wp.mono (qej y h2 hK N W0 ρ' rr a' w' hs' (hr.le hle) hm') λ_ _ _ q=>q.le hle
  | exit id=>exact⟨ρ',e',l',hK,hle,hm',hs'⟩
  | goto g=>exact⟨ρ',e',l',hK,hle,hm',hs'⟩
  | ret=>exact⟨ρ',e',l',hK,hle,hm',hs'⟩
 | .cond c x y,ir,K,e,l,hc,h=>λN W0 ρ rr a W hs hr hm=>by
  simp only[conv,Option.bind_eq_bind,Option.bind_eq_some_iff,Option.pure_def,Option.some.injEq] at hc;obtain⟨c',hc',i1,h1,i2,h2,rfl⟩:=hc;simp only[vc] at h;obtain⟨b,hb,k1,k2⟩:=brv_ok h (qbe hs.env hc');refine wp_cond hb ?_;cases b
  ·exact qej y h2 (k2 rfl) N W0 ρ rr a W hs hr hm
  ·exact qej x h1 (k1 rfl) N W0 ρ rr a W hs hr hm
 | .block id b,ir,K,e,l,hc,h=>λN W0 ρ rr a W hs hr hm=>by
  simp only[conv,Option.map_eq_some_iff] at hc;obtain⟨i1,h1,rfl⟩:=hc;simp only[vc] at h;refine wp_block (Wp.mono (qej b h1 h N W0 ρ rr a W hs hr hm) ?_);rintro ex a' w' ⟨ρ',e',l',hK,hle,hm',hs'⟩;cases ex with
  | normal=>exact⟨ρ',e',l',hK,hle,hm',hs'⟩
  | exit id'=>
   simp only[Ex.inBlock];split
   ·rename_i hid;simp only[blkK,hid,if_true] at hK;exact⟨ρ',e',l',hK,hle,hm',hs'⟩
   ·rename_i hid;simp only[blkK,hid,if_false] at hK;exact⟨ρ',e',l',hK,hle,hm',hs'⟩
  | goto g=>exact⟨ρ',e',l',hK,hle,hm',hs'⟩
  | ret=>exact⟨ρ',e',l',hK,hle,hm',hs'⟩
 | .loop b,ir,K,e,l,hc,h=>by
  simp only[conv,Option.map_eq_some_iff] at hc;obtain⟨i1,h1,rfl⟩:=hc;exact h b kl h1
 | .scope b,ir,K,e,l,hc,h=>λN W0 ρ rr a W hs hr hm=>by
  simp only[conv,Option.map_eq_some_iff] at hc;obtain⟨i1,h1,rfl⟩:=hc;simp only[vc] at h;refine wp_scope (qzalf (Wp.mono (qej b h1 h N W0 ρ rr a W hs hr hm) ?_));rintro ex a' w' ⟨ρ',e',l',hK,hle,hm',hs'⟩;cases ex with
  | normal=>exact⟨ρ',e',l',hK,hle,hm',hs'⟩
  | exit id=>exact⟨ρ',e',l',hK,hle,hm',hs'⟩
  | ret=>exact⟨ρ',e',l',hK,hle,hm',hs'⟩
  | goto g=>
   have hf:=qyr (g:=g) h1;simp only[Ex.inScope];cases hq:findLabel b g with
   | none=>
    rw[hq] at hf;simp only[Option.isSome_none] at hf;cases hi:findL i1 g with
    | none=>simp only[scpK,hi] at hK;exact⟨ρ',e',l',hK,hle,hm',hs'⟩
    | some r=>rw[hi] at hf;simp at hf
   | some rest=>
    rw[hq] at hf;cases hi:findL i1 g with
    | none=>rw[hi] at hf;simp at hf
    | some r=>
     simp only[scpK,hi] at hK;exact From.mono (hK b kl h1 rest hq N W0 ρ' rr a' w' hs' (hr.le hle) hm') λ_ _ _ q=>q.le hle
 | .rangeFunc f ps x y,ir,K,e,l,hc,h=>λN W0 ρ rr a W hs hr hm=>by
  simp only[conv,Option.bind_eq_bind,Option.bind_eq_some_iff,Option.pure_def,Option.some.injEq] at hc;obtain⟨f',hf,i1,h1,i2,h2,rfl⟩:=hc;simp only[vc] at h;split at h
  case h_2=>exact h.elim
  rename_i g a0 c0 hev;have hd:=qbe hs.env hf;rw[hev] at hd;simp only[den] at hd;obtain⟨as,cs,hval,das,dcs⟩:=hd;have hR:=hs.rel;split at h
  ·
   rename_i hro;have hrr:rr=none:=by simpa [RoOk,hro] using hr
   subst hrr;obtain⟨hg,hcall⟩:=h;simp only[qdm,qbs] at hcall;refine qzapu hval hg λfid=>?_;have hR1:=hR.push1 (B:=.df) (x:=.deferred (some [])) ⟨W.heap.size,⟨qam,hR.hN _ (Nat.le_refl _)⟩,by simp⟩;have hR2:=hR1.push1 (B:=.lp e.vs ps.toList i1 i2 .ready) (x:=.loop (loopOf a fid ps x y W.heap.size)) ?_;rotate_left
   ·refine⟨_,loopOf a fid ps x y W.heap.size,⟨qam,?_⟩,push_get,rfl,⟨kl,h1⟩,⟨kl,h2⟩,?_,⟨rfl,rfl⟩⟩
    ·exact hR.hN _ (by simp)
    ·refine EnvOk.le (m:=l.length+1) (ρ:=upd ρ l.length [⟨some ⟨W.heap.size,0,none⟩,0,0⟩]) ?_ ?_ ?_
     ·exact hs.env.le (m:=l.length) (qhk (by rw[hR.out _ (Nat.le_refl _)];simp)) hR.out
     ·simp only[List.length_append,List.length_singleton]
      exact qhk (by rw[qap (by omega),hR.out _ (by omega)];simp)
     ·intro k hk;rw[qap (by omega)];exact hR.out k (by omega)
   have hle2:Le l.length ρ (upd (upd ρ l.length [⟨some ⟨W.heap.size,0,none⟩,0,0⟩]) (l.length+1) [⟨some ⟨W.heap.size+1,0,none⟩,0,0⟩]):=by
    refine .of ?_ rfl rfl;intro k hk vw hv;rw[qap (by omega),qap (by omega)];exact hv
   simp only[List.length_append,List.length_singleton,Array.size_push] at hR2;have hfin:=hcall N W0 _ _ (as++#[.func (.yield (W.heap.size+1)) #[] #[]]++cs) hR2 ?_;rotate_left
   ·rw[qhj]
    simp only[Array.toList_append,List.append_assoc];refine qcy (qmd hle2 hR.out _ _ das) ?_;simp only[List.cons_append,List.nil_append,denL];refine⟨?_,qmd hle2 hR.out _ _ dcs⟩;simp only[den];exact⟨_,qzagt (List.mem_singleton.2 rfl),_,rfl,rfl⟩
   refine Calls.mono hfin ?_;rintro en W2 ⟨v,rfl,ρ',sv,l',hK,hle,hll,hR',hdv⟩;refine⟨⟨v,rfl⟩,?_⟩;simp only[List.length_append,List.length_singleton] at hle hll;have hle':Le l.length ρ ρ':=hle2.trans (hle.mono (by omega));refine rf_end (k:=l.length+1) (vs:=e.vs) (mk:=l.length::e.mks) hR' ?_ (hle'.mono hm) (by omega) ?_ ?_ hK
   ·exact hle.nm _ (by omega) _ (qzagt (List.mem_singleton.2 rfl))
   ·exact hs.env.le hle' hR.out
   ·refine⟨⟨_,hle.nm l.length (by omega) _ (by rw[qap (by omega)];exact qzagt (List.mem_singleton.2 rfl)),W.heap.size,rfl,rfl⟩,?_⟩
    exact MkOk.le hle' hR.out _ _ hs.mks
  ·
   rename_i k0 hro;split at h
   case h_2=>exact h.elim
   rename_i hl0;have hr':=hr;simp only[RoOk,hro] at hr';obtain⟨hk0,vw0,hvw0,b0,hb0,rfl⟩:=hr';have hkB:=qas hl0 (by simp);obtain⟨b',L,⟨e1,hN'⟩,hh,_⟩:=hR.blk k0 _ hkB;rw[e1,List.mem_singleton] at hvw0;subst hvw0;simp at hb0;subst hb0;obtain⟨hg,hcall⟩:=h;simp only[qdm,qbs] at hcall;refine qzafo hh hval hg λfid=>?_;have hle2:Le l.length ρ (upd ρ l.length [⟨some ⟨W.heap.size,0,none⟩,0,0⟩]):=qhk (by rw[hR.out _ (Nat.le_refl _)];simp);have hR2:=hR.push1 (B:=.lp e.vs ps.toList i1 i2 .ready) (x:=.loop (loopOf a fid ps x y L.defers)) ?_;rotate_left
   ·refine⟨_,loopOf a fid ps x y L.defers,⟨qam,hR.hN _ (Nat.le_refl _)⟩,by simp,rfl,⟨kl,h1⟩,⟨kl,h2⟩,?_,⟨rfl,rfl⟩⟩
    exact hs.env.le hle2 hR.out
   have hfin:=hcall N W0 _ _ (as++#[.func (.yield W.heap.size) #[] #[]]++cs) hR2 ?_;rotate_left
   ·rw[qhj]
    simp only[Array.toList_append,List.append_assoc];refine qcy (qmd hle2 hR.out _ _ das) ?_;simp only[List.cons_append,List.nil_append,denL];refine⟨?_,qmd hle2 hR.out _ _ dcs⟩;simp only[den];exact⟨_,qzagt (List.mem_singleton.2 rfl),_,rfl,rfl⟩
   refine Calls.mono hfin ?_;rintro en W2 ⟨v,rfl,ρ',sv,l',hK,hle,hll,hR',hdv⟩;refine⟨⟨v,rfl⟩,?_⟩;simp only[List.length_append,List.length_singleton] at hle hll;have hle':Le l.length ρ ρ':=hle2.trans (hle.mono (by omega));refine rf_end (k:=l.length) (vs:=e.vs) (mk:=e.mks) hR' ?_ (hle'.mono hm) (by omega) ?_ ?_ hK
   ·exact hle.nm _ (by omega) _ (qzagt (List.mem_singleton.2 rfl))
   ·exact hs.env.le hle' hR.out
   ·exact MkOk.le hle' hR.out _ _ hs.mks
end
end Cz
namespace Cz
open Go Go.RowKit
inductive RV where
 | t (n:Nat)
 | c (n:Nat) (agg:Bool) (sz:Nat)
def cRV (P:Program):ResultVar->Option RV
 | .tmp t=>some (.t t)
 | .cell a t=>do
  let g <-aggOf P t
  let n <-szOf P t
  pure (.c a g n)
def vres (S:Sy) (vs:List SV) (l:List Blk):List RV->(List SV->Prop)->Prop
 | [],K=>K []
 | .t n::r,K=>vres S vs l r λxs=>K (nth vs n::xs)
 | .c n agg sz::r,K=>vload S l agg sz (nth vs n) λv=>vres S vs l r λxs=>K (v::xs)
def oneV:List SV->SV
 | [x]=>x
 | xs=>.tp xs
def vtake:List Nat->List Blk->(List Blk->Prop)->Prop
 | [],l,K=>K l
 | k::ms,l,K=>match lget l k with
  | .df=>vtake ms (lset l k .dead) K
  | _=>False
def vret (S:Sy) (rs:List RV) (K:SV->List Blk->Prop):VK:=λex e l=>
 match ex with
 | .normal | .ret=>vtake e.mks l λl'=>vres S e.vs l' rs λxs=>K (oneV xs) l'
 | _=>False
def repU:Nat->List SV
 | 0=>[]
 | n+1=>.any::repU n
def FnIs (P:Program) (g:FuncId) (n:Nat) (rs:List RV) (ir:IR):Prop:=
 ∃ fn c kl,P.funcs[g]?=some fn/\fn.body=some c/\fn.ntmps=n/\conv P kl c=some ir/\fn.results.toList.mapM (cRV P)=some rs /\
  ∀ args w,(callFunc g args).run P w=.ok (.enter g args) w
section
variable {P:Program}{N:Nat->Prop}{W0 W:World}{ρ:Nms}{l:List Blk}{vs:List SV}
def resSem (t : Array Value) (r : ResultVar) : Sem Value :=
  match r with
  | .tmp q => pure (t.getD q undef)
  | .cell a ty => do loadVar ty (← asAddr (t.getD a undef))
theorem result_ok {rv:ResultVar}{r:RV}{t:Array Value}{K:SV->Prop}(hc:cRV P rv=some r) (hR:Rel P N W0 ρ l W) (hE:EnvOk ρ vs t)
  (h:match r with | .t n=>K (nth vs n) | .c n agg sz=>vload (S0 P) l agg sz (nth vs n) K):
  ∃ v sv,(resSem t rv).run P W=.ok v W/\K sv/\den ρ sv v:=by
 have hev:∀ n,den ρ (nth vs n) (t.getD n undef):=λn=>by
  have:=qbe (a:={ tmps:=t,defers:=[] }) (x:=.tmp n) (x':=.t n) hE rfl
  simpa [ev,Act.eval] using this
 cases rv with
 | tmp q=>
  simp only[cRV,Option.some.injEq] at hc;subst hc;exact⟨_,_,rfl,h,hev q⟩
 | cell a ty=>
  simp only[cRV,Option.bind_eq_bind,Option.bind_eq_some_iff,Option.pure_def,Option.some.injEq] at hc;obtain⟨g,hg,n,hn,rfl⟩:=hc;obtain⟨u,sv,hu,hK,hd⟩:=load_ok hg hn hR h (hev a);refine⟨u,sv,?_,hK,hd⟩;have hp:=hev a
  have:∃ ad:Addr,t.getD a undef=.pointer (some ad):=by
   simp only at h;unfold vload at h;split at h
   ·rename_i hx;rw[hx] at hp;simp only[den] at hp;obtain⟨_,_,_,_,e⟩:=hp;exact⟨_,e⟩
   ·rename_i hx;rw[hx] at hp;simp only[den] at hp;obtain⟨_,_,_,_,_,_,e⟩:=hp;exact⟨_,e⟩
   ·rename_i hx;rw[hx] at hp;simp only[den] at hp;obtain⟨_,_,_,_,_,e,_⟩:=hp;exact⟨_,e⟩
   ·exact h.elim
  obtain⟨ad,had⟩:=this;rw[had] at hu;simp only[resSem,had];simpa [Instr.loadAt,Instr.sureAddr,asAddr] using hu
theorem qzakv {t:Array Value}(hR:Rel P N W0 ρ l W) (hE:EnvOk ρ vs t):∀ (rvs:List ResultVar) (rs:List RV) (K:List SV->Prop),
  rvs.mapM (cRV P)=some rs->vres (S0 P) vs l rs K ->
  ∃ us xs,(rvs.mapM (resSem t)).run P W=.ok us W/\K xs/\denL ρ xs us
 | [],rs,K,hc,h=>by
  simp at hc;subst hc;exact⟨[],[],rfl,h,by simp [denL]⟩
 | rv::rvs,rs,K,hc,h=>by
  simp only[List.mapM_cons,Option.bind_eq_bind,Option.bind_eq_some_iff,Option.pure_def,Option.some.injEq] at hc;obtain⟨r,hr,rs',hrs,rfl⟩:=hc;obtain⟨v,sv,hv,hK,hd⟩:=result_ok (K:=λv=>vres (S0 P) vs l rs' λxs=>K (v::xs)) hr hR hE (by cases r<;>exact h);obtain⟨us,xs,hus,hK2,hd2⟩:=qzakv hR hE rvs rs' _ hrs hK;refine⟨v::us,sv::xs,?_,hK2,by simp only[denL];exact⟨hd,hd2⟩⟩;simp only[List.mapM_cons,Sem.run_bind,hv,Result.andThen_ok,hus];rfl
theorem ret_ok {fn : Func} {rs : List RV} {t : Array Value} {K : SV → Prop} (hc : fn.results.toList.mapM (cRV P) = some rs) (hR : Rel P N W0 ρ l W) (hE : EnvOk ρ vs t)
    (h : vres (S0 P) vs l rs fun xs => K (oneV xs)) : ∃ v sv, (results fn t).run P W = .ok v W ∧ K sv ∧ den ρ sv v := by
  obtain ⟨us, xs, hus, hK, hd⟩ := qzakv hR hE _ _ _ hc h
  have hl := qan hd
  have e : (results fn t).run P W = .ok (if h : us.toArray.size = 1 then us.toArray[0] else .tuple us.toArray) W := by
    have e0 : results fn t = (do let vs ← fn.results.mapM (resSem t); pure (if h : vs.size = 1 then vs[0] else .tuple vs)) := rfl
    rw [e0, Array.mapM_eq_mapM_toList]
    simp only [Sem.run_bind, map_eq_pure_bind, hus]
    rfl
  refine ⟨_, _, e, hK, ?_⟩
  match us, xs, hl, hd with
  | [u], [x], _, hd => simpa [oneV, denL] using hd
  | [], [], _, hd => simp [oneV, den, denL]
  | u :: u' :: us, x :: x' :: xs, _, hd =>
    simp only [oneV, den]
    exact ⟨(u :: u' :: us).toArray, by simp, by simpa using hd⟩
theorem take_ok:∀ (mks:List Nat) (ds:List Deferred) (l:List Blk) (W:World) (K:List Blk->Prop),vtake mks l K->MkOk ρ mks ds->Rel P N W0 ρ l W ->
  ∃ ms W' l',ds=ms.map mark/\Taken ms W W'/\Rel P N W0 ρ l' W'/\K l'/\l'.length=l.length
 | [],[],l,W,K,h,_,hR=>⟨[],W,l,rfl,rfl,hR,h,rfl⟩
 | [],_::_,_,_,_,_,hM,_=>hM.elim
 | _::_,[],_,_,_,_,hM,_=>hM.elim
 | k::mks,d::ds,l,W,K,h,⟨⟨vw,hvw,b,hb,hd⟩,hM⟩,hR=>by
  simp only[vtake] at h;split at h
  ·rename_i hl
   have hkB:=qas hl (by simp);obtain⟨b',⟨e1,hN⟩,hh⟩:=hR.blk k _ hkB;rw[e1,List.mem_singleton] at hvw;subst hvw;simp at hb;subst hb;have hup:upd ρ k (ρ k)=ρ:=qdf;have hlt:=qbf hh;have hR':Rel P N W0 ρ (lset l k .dead) (setO W b' (.deferred none)):=by
    rw[qbj,<-hup];refine hR.turn hkB rfl ?_ (by rw[qar];exact Nat.le_refl _) ?_ (λ_ hv=>hv) ?_ trivial
    ·exact hR.below.trans ⟨rfl,rfl,rfl,by rw[qar];exact Nat.le_refl _,λj hj=>qat (λe=>hj (by subst e;first|exact hNb|exact hN|assumption))⟩
    ·intro i _ hi
     exact qat (λhib=>hi _ (by rw[e1];exact List.mem_singleton.2 rfl) _ rfl hib.symm)
    ·intro vw hvw' a' ha'
     exact⟨by rw[qar];exact hR.ids k vw a' hvw' ha',.inr ⟨vw,hvw',a',ha',rfl⟩⟩
   obtain⟨ms,W',l',e2,ht,hR2,hK,hlen⟩:=take_ok mks ds _ _ K h hM hR';exact⟨b'::ms,W',l',by rw[hd,e2];rfl,⟨hh,ht⟩,hR2,hK,by rw[hlen,qbj];simp⟩
  ·exact h.elim
theorem repU_eq:∀ n,repU n=List.replicate n .any
 | 0=>rfl
 | n+1=>by simp [repU,repU_eq n,List.replicate_succ]
theorem env_enter {args:List SV}{vals:Array Value}(n:Nat) (hd:denL ρ args vals.toList):
  EnvOk ρ (catS args (repU (n-lenS args))) (vals++Array.replicate (n-vals.size) undef):=by
 have hl:args.length=vals.size:=by simpa using qan hd
 rw[qhj,repU_eq,qdo];intro q x hx;rcases Nat.lt_or_ge q args.length with h1|h1
 ·rw[List.getElem?_append_left h1] at hx
  obtain⟨v,hv,d⟩:=qbk q x hd hx;refine⟨v,?_,d⟩;rw[Array.getElem?_append_left (by omega),<-Array.getElem?_toList];exact hv
 ·rw[List.getElem?_append_right h1] at hx
  have hx':=hx;rw[List.getElem?_replicate] at hx;split at hx
  ·simp at hx;subst hx
   refine⟨undef,?_,by simp [den]⟩;rw[Array.getElem?_append_right (by omega),Array.getElem?_replicate,if_pos (by omega)]
  ·cases hx
theorem body_ok {g n:Nat}{rs:List RV}{ir:IR}{args:List SV}{K:SV->List Blk->Prop}(hF:FnIs P g n rs ir)
  (h:vc (S0 P) ⟨none,len l⟩ ir (vret (S0 P) rs K) ⟨catS args (repU (n-lenS args)),[]⟩ l):
  ∀ N W0 ρ W (vals:Array Value),Rel P N W0 ρ l W->denL ρ args vals.toList->Calls P g vals W λe W'=>∃ v,e=.returned v/\OpPost P N W0 ρ l K v W':=by
 intro N W0 ρ W vals hR hd;obtain⟨fn,c,kl,hf,hb,rfl,hc,hr,hg⟩:=hF;refine qzawl hf hb (Wp.mono (qej c hc h N W0 ρ none _ W ⟨hR,env_enter _ hd,trivial⟩ rfl (by rw[qbs];exact Nat.le_refl _)) ?_);rintro ex a w ⟨ρ',e',l',hK,hle,hm,hs⟩;simp only[qbs] at hle hm;have fin:vtake e'.mks l' (λl'=>vres (S0 P) e'.vs l' rs λxs=>K (oneV xs) l')->(ex=.normal∨ex=.ret)->RetOk P fn (λe W'=>∃ v,e=.returned v/\OpPost P N W0 ρ l K v W') ex a w:=by
  intro h he;obtain⟨ms,W',l'',e2,ht,hR2,hK2,hlen⟩:=take_ok _ _ _ _ _ h hs.mks hs.rel;obtain⟨v,sv,hv,hK3,hdv⟩:=ret_ok (K:=λsv=>K sv l'') hr hR2 hs.env hK2;exact⟨he,ms,W',v,e2,ht,hv,v,rfl,ρ',sv,l'',hK3,hle,by omega,hR2,hdv⟩
 cases ex with
 | normal=>exact fin hK (.inl rfl)
 | ret=>exact fin hK (.inr rfl)
 | exit id=>exact hK.elim
 | goto g=>exact hK.elim
theorem call_in {g n:Nat}{rs:List RV}{ir:IR}{args:List SV}{K:SV->List Blk->Prop}(hF:FnIs P g n rs ir)
  (h:vc (S0 P) ⟨none,len l⟩ ir (vret (S0 P) rs K) ⟨catS args (repU (n-lenS args)),[]⟩ l):(S0 P).call g args l K:=by
 intro N W0 ρ W vals hR hd;have hb:=body_ok hF h N W0 ρ W vals hR hd;obtain⟨fn,c,kl,hf,_,_,hc,hr,hg⟩:=hF;rw[hg];exact hb
theorem rfc_in {g n:Nat}{rs:List RV}{ir:IR}{args:List SV}{K:SV->List Blk->Prop}(hF:FnIs P g n rs ir)
  (h:vc (S0 P) ⟨none,len l⟩ ir (vret (S0 P) rs K) ⟨catS args (repU (n-lenS args)),[]⟩ l):(S0 P).rfc g args l K:=
 ⟨let ⟨_,_,_,_,_,_,_,_,hg⟩:=hF;hg,body_ok hF h⟩
end
end Cz
namespace Cz
open Go Go.RowKit
mutual
def ren (f:Nat->Nat):SV->SV
 | .p k o=>.p (f k) o
 | .pe k i sz j=>.pe (f k) i sz j
 | .sl k sz off len cap=>.sl (f k) sz off len cap
 | .ag cs=>.ag (renL f cs)
 | .tp cs=>.tp (renL f cs)
 | .fn g a c=>.fn g (renL f a) (renL f c)
 | .yl k=>.yl (f k)
 | .m k=>.m (f k)
 | x=>x
def renL (f:Nat->Nat):List SV->List SV
 | []=>[]
 | x::xs=>ren f x::renL f xs
end
mutual
def refsB (ok:Nat->Bool):SV->Bool
 | .p k _ | .pe k _ _ _ | .sl k _ _ _ _ | .yl k | .m k=>ok k
 | .ag cs | .tp cs=>refsBL ok cs
 | .fn _ a c=>refsBL ok a&&refsBL ok c
 | _=>true
def refsBL (ok:Nat->Bool):List SV->Bool
 | []=>true
 | x::xs=>refsB ok x&&refsBL ok xs
end
section
variable {ok:Nat->Bool}{ρ ρ':Nms}{f:Nat->Nat}
mutual
theorem qzaov (hz:FzLe ρ ρ') (h:∀ k,ok k=true->∀ vw∈ρ k,vw∈ρ' (f k)):∀ (x:SV) (v:Value),refsB ok x=true->den ρ x v->den ρ' (ren f x) v
 | .tt,_,_,d=>d
 | .ff,_,_,d=>d
 | .b _,_,_,d=>d
 | .i _ _,_,_,d=>d
 | .s _,_,_,d=>d
 | .p k o,v,r,d=>by
  simp only[den,ren,refsB] at d r ⊢;obtain⟨vw,hv,q⟩:=d;exact⟨vw,h k r vw hv,q⟩
 | .pe k i sz j,v,r,d=>by
  simp only[den,ren,refsB] at d r ⊢;obtain⟨h0,vw,hv,q⟩:=d;exact⟨h0,vw,h k r vw hv,q⟩
 | .pv _ _ _ _ _,_,_,d=>den_pv hz d
 | .v _ _ _ _,_,_,d=>den_v hz d
 | .sl k sz off len cap,v,r,d=>by
  simp only[den,ren,refsB] at d r ⊢;obtain⟨h0,h1,vw,hv,q⟩:=d;exact⟨h0,h1,vw,h k r vw hv,q⟩
 | .ag cs,v,r,d=>by
  simp only[den,ren,refsB] at d r ⊢;obtain⟨vs,e,q⟩:=d;exact⟨vs,e,qlj hz h cs _ r q⟩
 | .tp cs,v,r,d=>by
  simp only[den,ren,refsB] at d r ⊢;obtain⟨vs,e,q⟩:=d;exact⟨vs,e,qlj hz h cs _ r q⟩
 | .fn g a c,v,r,d=>by
  simp only[den,ren,refsB,Bool.and_eq_true] at d r ⊢;obtain⟨as,cs,e,r1,r2⟩:=d;exact⟨as,cs,e,qlj hz h a _ r.1 r1,qlj hz h c _ r.2 r2⟩
 | .yl k,v,r,d=>by
  simp only[den,ren,refsB] at d r ⊢;obtain⟨vw,hv,q⟩:=d;exact⟨vw,h k r vw hv,q⟩
 | .m k,v,r,d=>by
  simp only[den,ren,refsB] at d r ⊢;obtain⟨vw,hv,q⟩:=d;exact⟨vw,h k r vw hv,q⟩
 | .re _,_,_,d=>d
 | .un,_,_,d=>d
 | .any,_,_,d=>d
theorem qlj (hz:FzLe ρ ρ') (h:∀ k,ok k=true->∀ vw∈ρ k,vw∈ρ' (f k)):∀ (xs:List SV) (vs:List Value),refsBL ok xs=true->denL ρ xs vs->denL ρ' (renL f xs) vs
 | [],[],_,d=>d
 | [],_::_,_,d=>by simp [denL] at d
 | _::_,[],_,d=>by simp [denL] at d
 | x::xs,v::vs,r,d=>by
  simp only[denL,renL,refsBL,Bool.and_eq_true] at d r ⊢;exact⟨qzaov hz h x v r.1 d.1,qlj hz h xs vs r.2 d.2⟩
end
mutual
theorem den_unren (hz:FzLe ρ ρ') (h:∀ k,ok k=true->∀ vw∈ρ (f k),vw∈ρ' k):∀ (x:SV) (v:Value),refsB ok x=true->den ρ (ren f x) v->den ρ' x v
 | .tt,_,_,d=>d
 | .ff,_,_,d=>d
 | .b _,_,_,d=>d
 | .i _ _,_,_,d=>d
 | .s _,_,_,d=>d
 | .p k o,v,r,d=>by
  simp only[den,ren,refsB] at d r ⊢;obtain⟨vw,hv,q⟩:=d;exact⟨vw,h k r vw hv,q⟩
 | .pe k i sz j,v,r,d=>by
  simp only[den,ren,refsB] at d r ⊢;obtain⟨h0,vw,hv,q⟩:=d;exact⟨h0,vw,h k r vw hv,q⟩
 | .pv _ _ _ _ _,_,_,d=>den_pv hz d
 | .v _ _ _ _,_,_,d=>den_v hz d
 | .sl k sz off len cap,v,r,d=>by
  simp only[den,ren,refsB] at d r ⊢;obtain⟨h0,h1,vw,hv,q⟩:=d;exact⟨h0,h1,vw,h k r vw hv,q⟩
 | .ag cs,v,r,d=>by
  simp only[den,ren,refsB] at d r ⊢;obtain⟨vs,e,q⟩:=d;exact⟨vs,e,qgh hz h cs _ r q⟩
 | .tp cs,v,r,d=>by
  simp only[den,ren,refsB] at d r ⊢;obtain⟨vs,e,q⟩:=d;exact⟨vs,e,qgh hz h cs _ r q⟩
 | .fn g a c,v,r,d=>by
  simp only[den,ren,refsB,Bool.and_eq_true] at d r ⊢;obtain⟨as,cs,e,r1,r2⟩:=d;exact⟨as,cs,e,qgh hz h a _ r.1 r1,qgh hz h c _ r.2 r2⟩
 | .yl k,v,r,d=>by
  simp only[den,ren,refsB] at d r ⊢;obtain⟨vw,hv,q⟩:=d;exact⟨vw,h k r vw hv,q⟩
 | .m k,v,r,d=>by
  simp only[den,ren,refsB] at d r ⊢;obtain⟨vw,hv,q⟩:=d;exact⟨vw,h k r vw hv,q⟩
 | .re _,_,_,d=>d
 | .un,_,_,d=>d
 | .any,_,_,d=>d
theorem qgh (hz:FzLe ρ ρ') (h:∀ k,ok k=true->∀ vw∈ρ (f k),vw∈ρ' k):∀ (xs:List SV) (vs:List Value),refsBL ok xs=true->denL ρ (renL f xs) vs->denL ρ' xs vs
 | [],[],_,d=>d
 | [],_::_,_,d=>by simp [denL,renL] at d
 | _::_,[],_,d=>by simp [denL,renL] at d
 | x::xs,v::vs,r,d=>by
  simp only[denL,renL,refsBL,Bool.and_eq_true] at d r ⊢;exact⟨den_unren hz h x v r.1 d.1,qgh hz h xs vs r.2 d.2⟩
end
end
theorem qnu:∀ {ws:List SV},plains ws=true->∀ x∈ws,plainV x=true
 | [],_,_,h=>by cases h
 | w::ws,h,x,hx=>by
  simp only[plains,Bool.and_eq_true] at h;rcases List.mem_cons.1 hx with rfl|hx
  ·exact h.1
  ·exact qnu h.2 x hx
theorem ViewOk.plain {W:World}{ρ:Nms}(ρ':Nms) (hz:FzLe ρ ρ') {F:List SV}{vw:View}(hp:plains F=true) (h:ViewOk W ρ F vw):ViewOk W ρ' F vw:=by
 refine⟨h.1,h.2.1,λq x hq hx=>?_⟩;obtain⟨a,v,e,c,d⟩:=h.2.2 q x hq hx;exact⟨a,v,e,c,qrh hz _ _ (qnu hp x (List.mem_of_getElem? hx)) d⟩
mutual
theorem qzagh (f:Nat->Nat):∀ (x:SV),refsB (λ_=>false) x=true->ren f x=x
 | .tt,_=>rfl
 | .ff,_=>rfl
 | .b _,_=>rfl
 | .i _ _,_=>rfl
 | .s _,_=>rfl
 | .p _ _,h=>by simp [refsB] at h
 | .pe _ _ _ _,h=>by simp [refsB] at h
 | .pv _ _ _ _ _,_=>rfl
 | .v _ _ _ _,_=>rfl
 | .sl _ _ _ _ _,h=>by simp [refsB] at h
 | .ag cs,h=>by simp only[refsB] at h;simp only[ren,qiz f cs h]
 | .tp cs,h=>by simp only[refsB] at h;simp only[ren,qiz f cs h]
 | .fn _ a c,h=>by simp only[refsB,Bool.and_eq_true] at h;simp only[ren,qiz f a h.1,qiz f c h.2]
 | .yl _,h=>by simp [refsB] at h
 | .m _,h=>by simp [refsB] at h
 | .re _,_=>rfl
 | .un,_=>rfl
 | .any,_=>rfl
theorem qiz (f:Nat->Nat):∀ (xs:List SV),refsBL (λ_=>false) xs=true->renL f xs=xs
 | [],_=>rfl
 | x::xs,h=>by simp only[refsBL,Bool.and_eq_true] at h;simp only[renL,qzagh f x h.1,qiz f xs h.2]
end
def norefM:List (SV×SV)->Bool
 | []=>true
 | (k,v)::r=>refsB (λ_=>false) k&&refsB (λ_=>false) v&&norefM r
def plainB:Blk->Bool
 | .r _ _ _ _ F=>plains F
 | .c cs=>plains cs
 | .m es=>norefM es
 | _=>false
theorem qzahy {ρ:Nms}(ρ':Nms) (hz:FzLe ρ ρ') {x:SV}{v:Value}(hr:refsB (λ_=>false) x=true) (hd:den ρ x v):den ρ' x v:=by
 have:=qzaov (ok:=λ_=>false) (f:=id) (ρ:=ρ) (ρ':=ρ') hz (λ_ h=>by cases h) x v hr hd
 rwa[qzagh _ _ hr] at this
theorem MapRel.noref {ρ:Nms}(ρ':Nms) (hz:FzLe ρ ρ'):∀ {es:List (SV×SV)}{es':List MapEntry},norefM es=true->MapRel ρ es es'->MapRel ρ' es es'
 | [],[],_,h=>h
 | [],_::_,_,h=>h
 | (_,_)::_,[],_,h=>h
 | (k,v)::r,e::es,hg,h=>by
  simp only[norefM,Bool.and_eq_true] at hg;exact⟨qzahy ρ' hz hg.1.1 h.1,qzahy ρ' hz hg.1.2 h.2.1,MapRel.noref ρ' hz hg.2 h.2.2⟩
theorem OwnOk.lower {N M:Nat->Prop}{W:World}{vw:View}{n:Nat}(hM:∀ b,N b->M b) (h:OwnOk N W vw n):OwnOk M W vw n:=
 λa ha=>let ⟨h1,r⟩:=h a ha;⟨hM _ h1,r⟩
theorem BlkOk.move {P:Program}{N M:Nat->Prop}{W:World}{ρ ρ':Nms}{k j:Nat}{B:Blk}(h:BlkOk P N W ρ k B) (hp:plainB B=true) (hz:FzLe ρ ρ') (hM:∀ b,N b->M b) (he:ρ' j=ρ k):BlkOk P M W ρ' j B:=by
 cases B<;>simp only[plainB,Bool.false_eq_true] at hp
 case c cs=>
  obtain⟨b,e,hv,ho⟩:=h;exact⟨b,he.trans e,hv.plain ρ' hz hp,ho.lower hM⟩
 case r ro lit st sz F=>
  obtain⟨h0,hv,hl,ho⟩:=h;refine⟨h0,?_,hl,?_⟩
  ·rw[he];exact λvw hm=>(hv vw hm).plain ρ' hz hp
  ·intro hr
   obtain⟨cur,hc,hn,h1,h2,h3⟩:=ho hr;rw[he];exact⟨cur,hc,hn,λvw hv=>(h1 vw hv).lower hM,h2,h3⟩
 case m es=>
  obtain⟨b,es',clock,⟨e1,hN⟩,hh,hm,hbo⟩:=h;exact⟨b,es',clock,⟨he.trans e1,hM _ hN⟩,hh,hm.noref ρ' hz hp,hbo⟩
section
variable {P:Program}
def FSub (F' F:List SV):Prop:=F'.length=F.length/\∀ (q:Nat) (x:SV),F[q]?=some x->∃ x',F'[q]?=some x'/\∀ ρ v,den ρ x' v->den ρ x v
theorem FSub.rfl {F:List SV}:FSub F F:=⟨_root_.rfl,λ_ x h=>⟨x,h,λ_ _ d=>d⟩⟩
theorem FSub.view {W:World}{ρ:Nms}{F' F:List SV}{vw:View}(hs:FSub F' F) (h:ViewOk W ρ F' vw):ViewOk W ρ F vw:=by
 refine⟨by rw[<-hs.1];exact h.1,h.2.1,λq x hq hx=>?_⟩;obtain⟨x',hx',hd⟩:=hs.2 q x hx;obtain⟨a,v,e,c,d⟩:=h.2.2 q x' hq hx';exact⟨a,v,e,c,hd _ _ d⟩
theorem call_frame {g:FuncId}{args0:List SV}{l0:List Blk}{R:SV->List Blk->Prop}(hF:(S0 P).call g args0 l0 R) (f:Nat->Nat) {l:List Blk}{args:List SV}{K:SV->List Blk->Prop}
  (hargs:args=renL f args0) (hrefs:refsBL (λk=>decide (k<l0.length)) args0=true)
  (hread:∀ j B,l0[j]?=some B->∃ lit st sz F ro' lit' st' F',B=.r true lit st sz F/\plains F=true/\l[f j]?=some (.r ro' lit' st' sz F')/\FSub F' F)
  (hK:∀ sv l',R sv l'->∃ (js:List Nat) (h:Nat->Nat),js.Nodup/\(∀ j∈js,l0.length<=j/\∃ B,l'[j]?=some B/\B.wr=true/\plainB B=true) /\
   refsB (λj=>decide (js[h j]?=some j)) sv=true/\K (ren (λj=>l.length+h j) sv) (l++js.map (lget l'))):(S0 P).call g args l K:=by
 subst hargs;intro N W0 ρ W vals hR hd
 let ρ0:Nms:=⟨λj=>if j<l0.length then ρ (f j) else [],ρ.fz,λb=>W.heap.size<=b⟩
 have hz0:FzLe ρ ρ0:=λ_ _ _ h=>h;have hρ0:∀ j,j<l0.length->ρ0 j=ρ (f j):=λj hj=>by simp [ρ0,hj]
 have hR0:Rel P (λb=>W.heap.size<=b) W ρ0 l0 W:=by
  refine⟨⟨rfl,rfl,rfl,Nat.le_refl _,λ_ _=>rfl⟩,λ_ h=>h,λk hk=>by simp [ρ0];omega,?_,?_,?_,?_,rfl,hR.fin,?_⟩
  ·intro k vw a hv ha
   by_cases hk:k<l0.length
   ·rw[hρ0 k hk] at hv;exact hR.ids _ vw a hv ha
   ·simp [ρ0,hk] at hv
  ·intro k B hB
   have hk:k<l0.length:=(List.getElem?_eq_some_iff.1 hB).1;obtain⟨lit,st,sz,F,ro',lit',st',F',rfl,hp,hl,hsub⟩:=hread k B hB;obtain⟨h0,hv,_,_⟩:=hR.blk _ _ hl;refine⟨h0,?_,λ_ x hx=>qnu hp x hx,λh=>by cases h⟩;rw[hρ0 k hk];exact λvw hm=>(hsub.view (hv vw hm)).plain ρ0 hz0 hp
  ·intro k k' B vw vw' a a' hB hwr
   obtain⟨lit,st,sz,F,ro',lit',st',F',rfl,hp,hl,hsub⟩:=hread k B hB;simp [Blk.wr] at hwr
  ·intro k B vw a hB hwr
   obtain⟨lit,st,sz,F,ro',lit',st',F',rfl,hp,hl,hsub⟩:=hread k B hB;simp [Blk.wr] at hwr
  ·intro k B vw a hB hwr
   obtain⟨lit,st,sz,F,ro',lit',st',F',rfl,hp,hl,hsub⟩:=hread k B hB;simp [Blk.wr] at hwr
 have hd0:denL ρ0 args0 vals.toList:=by
  refine qgh (ok:=λk=>decide (k<l0.length)) (ρ:=ρ) (f:=f) hz0 ?_ args0 _ hrefs hd;intro k hk vw hv;rw[hρ0 k (by simpa using hk)];exact hv
 refine NextR.mono ?_ (hF _ _ _ _ _ hR0 hd0);rintro v W' ⟨ρ',sv,l',hRsv,hle,hll,hR',hdv⟩;obtain⟨js,h,hnd,hjs,hrf,hKK⟩:=hK sv l' hRsv
 let ρ2:Nms:=⟨λk=>if k<l.length then ρ k else match js[k-l.length]? with
  | some j=>ρ' j
  | none=>[],ρ'.fz,ρ.q⟩
 have hz2:FzLe ρ' ρ2:=λ_ _ _ h=>h;have hold:∀ k,k<l.length->ρ2 k=ρ k:=λk hk=>by simp [ρ2,hk]
 have hnew:∀ i j,js[i]?=some j->ρ2 (l.length+i)=ρ' j:=λi j hij=>by simp only[ρ2];rw[if_neg (by omega)];simp [hij]
 have hcase:∀ k,k<l.length∨(∃ i j,k=l.length+i/\js[i]?=some j)∨ρ2 k=[]:=by
  intro k;by_cases hk:k<l.length
  ·exact .inl hk
  ·cases hq:js[k-l.length]? with
   | none=>exact .inr (.inr (by simp [ρ2,hk,hq]))
   | some j=>exact .inr (.inl ⟨k-l.length,j,by omega,hq⟩)
 have hleρ:Le l.length ρ ρ2:=⟨λk hk vw hv=>by rw[hold k hk];exact hv,hle.fz,λb o u e=>(hle.fq b o u e).imp id λh=>by rw[hR.qN];exact hR.hN b h,rfl⟩;have hmem:∀ i j,js[i]?=some j->j∈js:=λi j h=>List.mem_of_getElem? h;have hblk:∀ i j B,js[i]?=some j->(l++js.map (lget l'))[l.length+i]?=some B->l'[j]?=some B/\B.wr=true/\plainB B=true:=by
  intro i j B hij hB;obtain⟨_,B',hB',hw,hp⟩:=hjs j (hmem i j hij);rw[List.getElem?_append_right (by omega),List.getElem?_map] at hB;simp only[Nat.add_sub_cancel_left,hij,Option.map_some,Option.some.injEq] at hB
  have:lget l' j=B':=by rw[qzano,List.getD_eq_getElem?_getD,hB'];rfl
  rw[this] at hB;subst hB;exact⟨hB',hw,hp⟩
 have hfresh:∀ (i j:Nat) (vw:View) (a:Addr),js[i]?=some j->vw∈ρ' j->vw.base=some a->W.heap.size<=a.block:=by
  intro i j vw a hij hv ha;obtain⟨_,B',hB',hw,hp⟩:=hjs j (hmem i j hij);exact hR'.own j B' vw a hB' hw hv ha
 refine⟨ρ2,_,_,hKK,hleρ,by simp,⟨?_,hR.le,?_,?_,?_,?_,?_,hR.qN,hR'.fin,?_⟩,?_⟩
 ·exact hR.below.trans (hR'.below.mono hR.hN)
 ·intro k hk
  simp only[List.length_append,List.length_map] at hk
  have:js[k-l.length]?=none:=List.getElem?_eq_none (by omega)
  simp [ρ2,show ¬ k<l.length by omega,this]
 ·intro k vw a hv ha
  rcases hcase k with hk|⟨i,j,rfl,hij⟩|hk
  ·rw[hold k hk] at hv
   exact Nat.lt_of_lt_of_le (hR.ids k vw a hv ha) hR'.below.size
  ·rw[hnew i j hij] at hv
   exact hR'.ids j vw a hv ha
  ·rw[hk] at hv;cases hv
 ·intro k B hB
  by_cases hk:k<l.length
  ·rw[List.getElem?_append_left hk] at hB
   exact (hR.blk k B hB).keep hleρ hR.out (hold k hk) λvw hv a ha=>hR'.below.block _ (Nat.not_le.2 (hR.ids k vw a hv ha))
  ·have hlt:=(List.getElem?_eq_some_iff.1 hB).1
   simp only[List.length_append,List.length_map] at hlt;obtain⟨i,rfl⟩:∃ i,k=l.length+i:=⟨k-l.length,by omega⟩;have hij:js[i]?=some js[i]:=List.getElem?_eq_getElem (by omega);obtain⟨hB',hw,hp⟩:=hblk i _ B hij hB;exact (hR'.blk _ B hB').move hp hz2 hR.hN (hnew i _ hij)
 ·intro k k' B vw vw' a a' hB hwr hne hv hv' ha ha'
  rcases hcase k with hk|⟨i,j,rfl,hij⟩|hk
  ·rw[hold k hk] at hv
   rcases hcase k' with hk'|⟨i',j',rfl,hij'⟩|hk'
   ·rw[hold k' hk'] at hv'
    rw[List.getElem?_append_left hk] at hB;exact hR.sep k k' B vw vw' a a' hB hwr hne hv hv' ha ha'
   ·rw[hnew i' j' hij'] at hv'
    have h1:=hfresh i' j' vw' a' hij' hv' ha';have h2:=hR.ids k vw a hv ha;omega
   ·rw[hk'] at hv';cases hv'
  ·rw[hnew i j hij] at hv
   obtain⟨hB',hw,hp⟩:=hblk i j B hij hB;rcases hcase k' with hk'|⟨i',j',rfl,hij'⟩|hk'
   ·rw[hold k' hk'] at hv'
    have h1:=hfresh i j vw a hij hv ha;have h2:=hR.ids k' vw' a' hv' ha';omega
   ·rw[hnew i' j' hij'] at hv'
    have hjj:j≠j':=by
     intro e;subst e;have hi:=(List.getElem?_eq_some_iff.1 hij).1;exact hne (congrArg _ ((List.getElem?_inj hi hnd).1 (hij.trans hij'.symm)))
    exact hR'.sep j j' B vw vw' a a' hB' hw hjj hv hv' ha ha'
   ·rw[hk'] at hv';cases hv'
  ·rw[hk] at hv;cases hv
 ·intro k B vw a hB hwr hv ha
  rcases hcase k with hk|⟨i,j,rfl,hij⟩|hk
  ·rw[hold k hk] at hv
   rw[List.getElem?_append_left hk] at hB;exact hR.own k B vw a hB hwr hv ha
  ·rw[hnew i j hij] at hv
   exact hR.hN _ (hfresh i j vw a hij hv ha)
  ·rw[hk] at hv;cases hv
 ·intro k B vw a hB hwr hv ha o
  rcases hcase k with hk|⟨i,j,rfl,hij⟩|hk
  ·rw[hold k hk] at hv
   rw[List.getElem?_append_left hk] at hB;have h1:=hR.fsep k B vw a hB hwr hv ha o;cases he:ρ'.fz a.block o with
   | none=>rfl
   | some u=>
    rcases hle.fq _ _ _ he with h2|h2
    ·have:ρ.fz a.block o=some u:=h2
     rw[h1] at this;cases this
    ·have:=hR.ids k vw a hv ha
     have:W.heap.size<=a.block:=h2
     omega
  ·rw[hnew i j hij] at hv
   obtain⟨hB',hw,hp⟩:=hblk i j B hij hB;exact hR'.fsep j B vw a hB' hw hv ha o
  ·rw[hk] at hv;cases hv
 ·refine qzaov (ok:=λj=>decide (js[h j]?=some j)) (ρ:=ρ') hz2 ?_ sv v hrf hdv
  intro j hj vw hv;simp only[decide_eq_true_eq] at hj;rw[hnew _ _ hj];exact hv
end
end Cz
namespace Cz
open Go Go.RowKit
section
variable {P:Program}{N:Nat->Prop}{W0 W:World}{ρ:Nms}{l:List Blk}
theorem qzaat {kl:Nat->List Nat}{g:Nat}:∀ {c:Code}{ir:IR}{r:Code}{i:IR},conv P kl c=some ir->findLabel c g=some r->findL ir g=some i->conv P kl r=some i
 | .seq x y,ir,r,i,h,hr,hi=>by
  simp only[conv,Option.bind_eq_bind,Option.bind_eq_some_iff,Option.pure_def,Option.some.injEq] at h;obtain⟨i1,h1,i2,h2,rfl⟩:=h;have e1:=qyr (g:=g) h1;simp only[findLabel,findL] at hr hi;cases hx:findLabel x g with
  | some r1=>
   rw[hx] at e1;cases hq:findL i1 g with
   | some j1=>
    simp only[hx,hq,Option.some.injEq] at hr hi;subst hr;subst hi;simp only[conv,qzaat h1 hx hq,h2,Option.bind_eq_bind,Option.bind_some,Option.pure_def]
   | none=>rw[hq] at e1;simp at e1
  | none=>
   rw[hx] at e1;cases hq:findL i1 g with
   | some j1=>rw[hq] at e1;simp at e1
   | none=>
    simp only[hx,hq] at hr hi;exact qzaat h2 hr hi
 | .label l',ir,r,i,h,hr,hi=>by
  simp only[conv,Option.some.injEq] at h;subst h;simp only[findLabel,findL] at hr hi;split at hr
  ·rename_i hl
   rw[if_pos hl] at hi;simp only[Option.some.injEq] at hr hi;subst hr;subst hi;rfl
  ·cases hr
 | .skip,_,_,_,_,hr,_=>by simp [findLabel] at hr
 | .region _ _ _,_,_,_,_,hr,_=>by simp [findLabel] at hr
 | .cond _ _ _,_,_,_,_,hr,_=>by simp [findLabel] at hr
 | .block _ _,_,_,_,_,hr,_=>by simp [findLabel] at hr
 | .loop _,_,_,_,_,hr,_=>by simp [findLabel] at hr
 | .rangeFunc _ _ _ _,_,_,_,_,hr,_=>by simp [findLabel] at hr
 | .exit _,_,_,_,_,hr,_=>by simp [findLabel] at hr
 | .scope _,_,_,_,_,hr,_=>by simp [findLabel] at hr
 | .goto _,_,_,_,_,hr,_=>by simp [findLabel] at hr
 | .ret,_,_,_,_,hr,_=>by simp [findLabel] at hr
 | .refuse _,_,_,_,_,hr,_=>by simp [findLabel] at hr
theorem jump_in {cx:Cx}{b i:IR}{g:Nat}{e:Env}{K:VK}(hi:findL b g=some i)
  (h:vc (S0 P) cx i (scpK (S0 P) cx b K) e l):(S0 P).jump cx b g e l K:=by
 intro c kl hc rest hr N W0 ρ rr a W hs hro hm;have hcr:=qzaat hc hr hi;refine qzalf (Wp.mono (qej rest hcr h N W0 ρ rr a W hs hro hm) ?_);rintro ex a' w' ⟨ρ',e',l',hK,hle,hm',hs'⟩;cases ex with
 | normal=>exact⟨ρ',e',l',hK,hle,hm',hs'⟩
 | exit id=>exact⟨ρ',e',l',hK,hle,hm',hs'⟩
 | ret=>exact⟨ρ',e',l',hK,hle,hm',hs'⟩
 | goto g'=>
  have hf:=qyr (g:=g') hc;simp only[Ex.inScope];cases hq:findLabel c g' with
  | none=>
   rw[hq] at hf;cases hj:findL b g' with
   | none=>simp only[scpK,hj] at hK;exact⟨ρ',e',l',hK,hle,hm',hs'⟩
   | some r=>rw[hj] at hf;simp at hf
  | some rest'=>
   rw[hq] at hf;cases hj:findL b g' with
   | none=>rw[hj] at hf;simp at hf
   | some r=>
    simp only[scpK,hj] at hK;exact From.mono (hK c kl hc rest' hq N W0 ρ' rr a' w' hs' (hro.le hle) hm') λ_ _ _ q=>q.le hle
def putps:List SV->List Nat->List SV->List SV
 | vs,p::ps,x::xs=>putps (put vs p x) ps xs
 | vs,_,_=>vs
theorem putps_ok:∀ (ps:List Nat) (xs:List SV) (us:List Value) (vs:List SV) (t:Array Value),denL ρ xs us->EnvOk ρ vs t->ps.length=xs.length ->
  EnvOk ρ (putps vs ps xs) ((ps.zip us).foldl (λt p=>t.setIfInBounds p.1 p.2) t)
 | [],[],[],vs,t,_,hE,_=>by simpa [putps] using hE
 | [],[],_::_,_,_,hd,_,_=>by simp [denL] at hd
 | [],_::_,_,_,_,_,_,hl=>by simp at hl
 | _::_,[],_,_,_,_,_,hl=>by simp at hl
 | _::_,_::_,[],_,_,hd,_,_=>by simp [denL] at hd
 | p::ps,x::xs,u::us,vs,t,hd,hE,hl=>by
  simp only[denL] at hd;simp only[putps,List.zip_cons_cons,List.foldl_cons];exact putps_ok ps xs us _ _ hd.2 (hE.put p hd.1) (by simpa using hl)
theorem upd_id {ρ:Nms}{k:Nat}:upd ρ k (ρ k)=ρ:=qdf
theorem Rel.setLp (hR:Rel P N W0 ρ l W) {k b:Nat}{L:Loop}{vs:List SV}{ps:List Nat}{asg body:IR}{ph ph':Ph}(hk:l[k]?=some (.lp vs ps asg body ph))
  (hb:One ρ k N b) (hh:W.heap[b]?=some (.loop L)) (s:LoopState) (p:Option Code) (hph:PhOk ph' { L with state:=s,pending:=p }):
  Rel P N W0 ρ (lset l k (.lp vs ps asg body ph')) (setO W b (.loop { L with state:=s,pending:=p })):=by
 obtain⟨b',L',⟨e1,hN⟩,hh',h1,h2,h3,h4,h5⟩:=hR.blk k _ hk
 have:b'=b:=by
  have:=e1.symm.trans hb.1
  simpa using this
 subst this;rw[hh] at hh';simp only[Option.some.injEq,Obj.loop.injEq] at hh';subst hh';have hlt:=qbf hh;rw[qbj,<-upd_id (ρ:=ρ) (k:=k)];refine hR.turn hk rfl ?_ (by rw[qar];exact Nat.le_refl _) ?_ (λ_ hv=>hv) ?_ ?_
 ·exact hR.below.trans ⟨rfl,rfl,rfl,by rw[qar];exact Nat.le_refl _,λj hj=>qat (λe=>hj (by subst e;first|exact hNb|exact hN|assumption))⟩
 ·intro i _ hi
  exact qat (λhib=>hi _ (by rw[e1];exact List.mem_singleton.2 rfl) _ rfl hib.symm)
 ·intro vw hvw' a' ha'
  exact⟨by rw[qar];exact hR.ids k vw a' hvw' ha',.inr ⟨vw,hvw',a',ha',rfl⟩⟩
 ·rw[upd_id]
  exact⟨b',_,⟨e1,hN⟩,qbr hlt,h1,h2,h3,h4,hph⟩
def phEnd:Ex->Ph
 | .normal=>.ready
 | e=>.done e
def Ex.goes:Ex->Bool
 | .normal=>true
 | _=>false
theorem yld_in {k:Nat}{args vs:List SV}{ps:List Nat}{asg body:IR}{K:SV->List Blk->Prop}(hk:lget l k=.lp vs ps asg body .ready) (hn:ps.length=args.length)
  (h:vc (S0 P) ⟨some k,len l⟩ asg (λex e1 l1=>match ex with
   | .normal=>match lget l1 k with
    | .lp vs1 ps1 asg1 body1 .ready=>vc (S0 P) ⟨some k,len l⟩ body (λex _ l2=>match lget l2 k with
      | .lp vs2 ps2 asg2 body2 _=>K (ofB ex.goes) (lset l2 k (.lp vs2 ps2 asg2 body2 (phEnd ex)))
      | _=>False) e1 (lset l1 k (.lp vs1 ps1 asg1 body1 .busy))
    | _=>False
   | _=>False) ⟨putps vs ps args,[]⟩ l):(S0 P).yld k args l K:=by
 intro N W0 ρ W vals b hR hd hb;have hkB:=qas hk (by simp);have hklt:k<l.length:=(List.getElem?_eq_some_iff.1 hkB).1;obtain⟨b',L,hOne,hh,hps,⟨kl1,hasg⟩,⟨kl2,hbody⟩,hE,hPh⟩:=hR.blk k _ hkB;obtain⟨vw,hvw,a0,ha0,hb0⟩:=hb;have e1:=hOne.1;rw[e1,List.mem_singleton] at hvw;subst hvw;simp at ha0;subst ha0;simp at hb0;subst hb0;have hl:=qan hd;have hlen:vals.size=L.params.size:=by
  rw[<-Array.length_toList,<-Array.length_toList,hps,<-hl,hn]
 have hrun:(Instr.yield b' vals).run P W=.ok (.round b' L.fn ((L.params.zip vals).foldl (λtmps (t,a)=>tmps.setIfInBounds t a) L.tmps) L.assign L.body) W:=by
  simp [Instr.yield,Instr.getLoop,getObj,bind,Sem.bind,Sem.run,hh,pure,hlen]
 rw[hrun];have hfold:(L.params.zip vals).foldl (λtmps (t,a)=>tmps.setIfInBounds t a) L.tmps=(ps.zip vals.toList).foldl (λt p=>t.setIfInBounds p.1 p.2) L.tmps:=by
  rw[<-Array.foldl_toList,Array.toList_zip,hps]
 have hview:∀ ρ':Nms,Le l.length ρ ρ'->(⟨some ⟨b',0,none⟩,0,0⟩:View)∈ρ' k:=λρ' hle=>hle.nm k hklt _ (by rw[e1];exact List.mem_singleton.2 rfl);have find:∀ (ρ':Nms) (l1:List Blk) (w:World) vs1 ps1 asg1 body1 ph1,Le l.length ρ ρ'->Rel P N W0 ρ' l1 w->lget l1 k=.lp vs1 ps1 asg1 body1 ph1 ->
   ∃ L1,One ρ' k N b'/\w.heap[b']?=some (.loop L1)/\PhOk ph1 L1:=by
  intro ρ' l1 w vs1 ps1 asg1 body1 ph1 hle hR1 hl1;obtain⟨b2,L1,hO,hh1,_,_,_,_,hP⟩:=hR1.blk k _ (qas hl1 (by simp));have hv:=hview ρ' hle;rw[hO.1,List.mem_singleton] at hv;simp at hv;subst hv;exact⟨L1,hO,hh1,hP⟩
 show RoundR P b' L.fn _ L.assign L.body W _;refine round_of ?_;have hcx:RoOk ρ ⟨some k,len l⟩ (some b'):=⟨by rw[qbs];exact hklt,_,hview ρ (Le.refl _ _),b',rfl,rfl⟩;have hst:St P N W0 ρ ⟨putps vs ps args,[]⟩ l { tmps:=(L.params.zip vals).foldl (λtmps (t,a)=>tmps.setIfInBounds t a) L.tmps,defers:=[] } W:=
  ⟨hR,by rw[hfold];exact putps_ok ps args _ _ _ hd hE hn,trivial⟩
 refine Wp.mono (qej L.assign hasg h N W0 ρ (some b') _ W hst hcx (by rw[qbs];exact Nat.le_refl _)) ?_;rintro ex a1 w1 ⟨ρ1,ee1,l1,hK1,hle1,hm1,hs1⟩;simp only[qbs] at hle1 hm1;cases ex with
 | exit id=>exact hK1.elim
 | goto g=>exact hK1.elim
 | ret=>exact hK1.elim
 | normal=>
  simp only at hK1;split at hK1
  case h_2=>exact hK1.elim
  rename_i vs1 ps1 asg1 body1 hl1;obtain⟨L1,hO1,hh1,hP1⟩:=find ρ1 l1 w1 _ _ _ _ _ hle1 hs1.rel hl1;refine⟨rfl,L1,hh1,hP1.1,?_⟩;have hR1:=hs1.rel.setLp (qas hl1 (by simp)) hO1 hh1 .busy L1.pending (ph':=.busy) ⟨rfl,hP1.2⟩;have hcx1:RoOk ρ1 ⟨some k,len l⟩ (some b'):=⟨by rw[qbs];exact hklt,_,hview ρ1 hle1,b',rfl,rfl⟩;refine Wp.mono (qej L.body hbody hK1 N W0 ρ1 (some b') _ _ ⟨hR1,hs1.env,hs1.mks⟩ hcx1 (by rw[qbs,qbj];simpa using hm1)) ?_;rintro ex2 a2 w2 ⟨ρ2,ee2,l2,hK2,hle2,hm2,hs2⟩;simp only[qbs] at hle2 hm2;split at hK2
  case h_2=>exact hK2.elim
  rename_i vs2 ps2 asg2 body2 ph2 hl2;have hle12:Le l.length ρ ρ2:=hle1.trans hle2;obtain⟨L2,hO2,hh2,hP2⟩:=find ρ2 l2 w2 _ _ _ _ _ hle12 hs2.rel hl2;refine⟨L2,hh2,ρ2,ofB ex2.goes,_,hK2,hle12,by rw[qbj];simpa using hm2,?_,?_⟩
  ·refine hs2.rel.setLp (qas hl2 (by simp)) hO2 hh2 _ _ ?_
   cases ex2<;>exact⟨rfl,rfl⟩
  ·cases ex2<;>simp [Ex.goes,Ex.jump,ofB,den]
end
end Cz
namespace Cz
open Go Go.RowKit
section
variable {P:Program}{l:List Blk}
theorem s_br {S:Sy}{b:Bool}{k1 k2:Unit->Prop}(hS:S0 P=S) (h1:b=true->k1 ()) (h2:b=false->k2 ()):S.br b k1 k2:=by subst hS;exact⟨h1,h2⟩
theorem s_chk {S:Sy}{b:Bool}{k:Unit->Prop}(hS:S0 P=S) (h1:b=true) (h2:k ()):S.chk b k:=by subst hS;exact⟨h1,h2⟩
theorem qzaqz {S:Sy}{sig:Sg}{x y:SV}{k1 k2:Unit->Prop}(hS:S0 P=S) (h:veq S sig x y k1 k2):S.eqv sig x y k1 k2:=by subst hS;rw[qzatd];exact h
theorem s_mk {S:Sy}{zero:List SV}{n c:Int}{K:List SV->Prop}(hS:S0 P=S) (hc:n=c) (h0:0<=n) (h1:n<=65536) (hp:plains (repS n.toNat zero)=true) (h:K (repS n.toNat zero)):S.mkr zero n c K:=by subst hS;exact⟨hc,h0,h1,hp,h⟩
theorem s_lk {S:Sy}{sig:Sg}{key zero:SV}{K:SV->Bool->Prop}{es:List (SV×SV)}(hS:S0 P=S) (h:vlook S sig key K zero es):S.lk sig key K zero es:=by subst hS;rw[lk_eq];exact h
theorem s_mu {S:Sy}{sig:Sg}{key v:SV}{K:List (SV×SV)->Prop}{es acc:List (SV×SV)}(hS:S0 P=S) (h:vmupd S sig key v K acc es):S.mu sig key v K acc es:=by subst hS;rw[mu_eq];exact h
theorem veq1_same {s:Kd}{x:SV}{k1 k2:Unit->Prop}(hk:kinds [s] [x] [x]=true) (h:k1 ()):veq1 (S0 P) s x x k1 k2:=by
 cases s<;>cases x<;>simp [kinds] at hk<;>simp only[veq1]
 case kb.tt=>exact h
 case kb.ff=>exact h
 case kb.b x=>exact⟨λ_=>h,λe=>by simp [S0] at e⟩
 case ki.i k z=>
  simp only[if_true];cases z
  ·simp only[if_true];exact h
  ·exact⟨λ_=>h,λe=>by simp [S0,BK.cmpLit] at e⟩
 case ks.s x=>exact⟨λ_=>h,λe=>by simp [S0,scmpS] at e⟩
theorem qzaqe:∀ {ss:List Kd}{xs:List SV}{k1 k2:Unit->Prop},kinds ss xs xs=true->k1 ()->veqL (S0 P) ss xs xs k1 k2
 | [],[],_,_,_,h=>by simpa only[veqL] using h
 | [],_::_,_,_,hk,_=>by simp [kinds] at hk
 | s::ss,[],_,_,hk,_=>by cases s<;>simp [kinds] at hk
 | s::ss,x::xs,k1,k2,hk,h=>by
  have hb:kinds [s] [x] [x]=true/\kinds ss xs xs=true:=by
   cases s<;>cases x<;>simp [kinds] at hk ⊢<;>first|exact hk|(split at hk<;>simp_all)
  simp only[veqL];exact veq1_same hb.1 (qzaqe hb.2 h)
theorem qwn {S:Sy}{sig:Sg}{x:SV}{k1 k2:Unit->Prop}(hS:S0 P=S) (hk:vkey sig x=true) (h:k1 ()):S.eqv sig x x k1 k2:=by
 subst hS;rw[qzatd];unfold vkey at hk;unfold veq;cases hx:cellsOf x with
 | none=>rw[hx] at hk;cases hk
 | some xs=>
  rw[hx] at hk;simp only[Bool.and_eq_true] at hk;have ha:isAg x=sig.agg:=by
   have:=hk.1
   cases h1:isAg x<;>cases h2:sig.agg<;>simp [h1,h2] at this<;>rfl
  simp only[ha,hk.2,and_self,if_true];exact qzaqe hk.2 h
theorem qtk {S:Sy}{cx:Cx}{b i:IR}{g:Nat}{e:Env}{K:VK}(hS:S0 P=S) (hi:findL b g=some i)
  (h:vc S cx i (scpK S cx b K) e l):S.jump cx b g e l K:=by subst hS;exact jump_in hi h
theorem qaa {S:Sy}{g n:Nat}{rs:List RV}{ir:IR}{args:List SV}{K:SV->List Blk->Prop}(hS:S0 P=S) (hF:FnIs P g n rs ir)
  (h:vc S ⟨none,len l⟩ ir (vret S rs K) ⟨catS args (repU (n-lenS args)),[]⟩ l):S.call g args l K:=by subst hS;exact call_in hF h
theorem qbq {S:Sy}{g n:Nat}{rs:List RV}{ir:IR}{args:List SV}{K:SV->List Blk->Prop}(hS:S0 P=S) (hF:FnIs P g n rs ir)
  (h:vc S ⟨none,len l⟩ ir (vret S rs K) ⟨catS args (repU (n-lenS args)),[]⟩ l):S.rfc g args l K:=by subst hS;exact rfc_in hF h
theorem s_rd {S:Sy}{F:List SV}{i:Int}{sz j n:Nat}{agg:Bool}{K:SV->Prop}(hS:S0 P=S) (h0:0<=i) (h1:(i.toNat+1)*sz<=F.length) (h2:j+n<=sz) {v:SV}
  (h3:mkv agg ((F.drop (i.toNat*sz+j)).take n)=some v) (h4:K v):S.rd F i sz j n agg K:=by subst hS;exact⟨h0,h1,h2,v,h3,h4⟩
theorem s_wr {S:Sy}{F:List SV}{i:Int}{sz j:Nat}{ws:List SV}{K:List SV->Prop}(hS:S0 P=S) (h0:0<=i) (h1:(i.toNat+1)*sz<=F.length) (h2:j+ws.length<=sz) (h3:plains ws=true)
  (h4:K (repl F (i.toNat*sz+j) ws)):S.wr F i sz j ws K:=by subst hS;exact⟨h0,h1,h2,h3,h4⟩
theorem cmp_gt {a b:Int}:(S0 P).cmp .gt a b=decide (b<a):=rfl
theorem cmp_eq {a b:Int}:(S0 P).cmp .eq a b=decide (a=b):=rfl
theorem qcg {S:Sy}{op:BK}{k:IntKind}{a b:Int}{K:Int->Prop}(hS:S0 P=S) (r:Int) (hr:arS op k a b=r) (h:K r):S.ar op k a b K:=by subst hS;subst hr;exact h
theorem s_cve {S:Sy}{k:IntKind}{a:Int}{K:Int->Prop}(hS:S0 P=S) (r:Int) (hr:k.wrap a=r) (h:K r):S.cv k a K:=by subst hS;subst hr;exact h
def lo:IntKind->Int
 | .i8=>-128
 | .i16=>-32768
 | .i32=>-2147483648
 | .i64=>-9223372036854775808
 | .u8=>0
 | .u16=>0
 | .u32=>0
 | .u64=>0
def hi:IntKind->Int
 | .i8=>127
 | .i16=>32767
 | .i32=>2147483647
 | .i64=>9223372036854775807
 | .u8=>255
 | .u16=>65535
 | .u32=>4294967295
 | .u64=>18446744073709551615
theorem qgy {k:IntKind}{n:Int}(h:lo k<=n) (h':n<=hi k):k.wrap n=n:=by
 cases k<;>simp only[lo,hi] at h h'<;>simp [IntKind.wrap,IntKind.bits,IntKind.signed]<;>omega
theorem s_cvi {S:Sy}{k:IntKind}{a:Int}{K:Int->Prop}(hS:S0 P=S) (h:K a) (h1:lo k<=a) (h2:a<=hi k):S.cv k a K:=s_cve hS a (qgy h1 h2) h
theorem s_add {S:Sy}{k:IntKind}{a b:Int}{K:Int->Prop}(hS:S0 P=S) (h:∀ r,r=a+b->K r) (h1:lo k<=a+b) (h2:a+b<=hi k):S.ar .add k a b K:=qcg hS _ (qgy h1 h2) (h _ rfl)
theorem s_sub {S:Sy}{k:IntKind}{a b:Int}{K:Int->Prop}(hS:S0 P=S) (h:∀ r,r=a-b->K r) (h1:lo k<=a-b) (h2:a-b<=hi k):S.ar .sub k a b K:=qcg hS _ (qgy h1 h2) (h _ rfl)
theorem qzr {S:Sy}{k:IntKind}{a b:Int}{K:Int->Prop}(hS:S0 P=S) (h:∀ r,r=a*b->K r) (h1:lo k<=a*b) (h2:a*b<=hi k):S.ar .mul k a b K:=qcg hS _ (qgy h1 h2) (h _ rfl)
theorem qfv {x y:List SV}:(S0 P).app x y=x++y:=rfl
theorem scmp_eq {x y:List UInt8}:(S0 P).scmp .eq x y=(x==y):=rfl
theorem cq:(∀ {a b:Int},(S0 P).cmp .le a b=decide (a<=b))/\(∀ {a b:Int},(S0 P).cmp .lt a b=decide (a<b))/\(∀ {a b:Int},(S0 P).cmp .ge a b=decide (b<=a)) /\
  (∀ {a b:Int},(S0 P).cmp .gt a b=decide (b<a))/\(∀ {a b:Int},(S0 P).cmp .eq a b=decide (a=b))/\(∀ {a b:Int},(S0 P).cmp .ne a b=!decide (a=b)) /\
  (∀ {a b:Int},(S0 P).pl a b=a+b)/\(∀ {a b:Int},(S0 P).mi a b=a-b)/\(∀ {a:Int}{n:Nat},(S0 P).sc a n=a*n)/\(∀ {x:List UInt8},(S0 P).slen x=x.length)/\(∀ {x:List SV},(S0 P).flen x=x.length) /\
  (∀ {a:Bool},(S0 P).nt a=!a)/\(∀ {a b:Bool},(S0 P).beq a b=(a==b))/\(∀ {x y:List UInt8},(S0 P).scmp .eq x y=(x==y))/\(∀ {x y:List UInt8},(S0 P).scmp .ne x y=!(x==y)) /\
  (∀ {b:Bool},((!b)=true)=(b=false))/\(∀ {b:Bool},((!b)=false)=(b=true))/\((!true)=false)/\((!false)=true):=
 ⟨rfl,rfl,rfl,rfl,rfl,rfl,rfl,rfl,rfl,rfl,rfl,rfl,rfl,rfl,rfl,by simp,by simp,rfl,rfl⟩
structure Sub (x y:SV):Prop where
 of:∀ (ρ:Nms) (v:Value),den ρ x v->den ρ y v
inductive SubL:List SV->List SV->Prop where
 | nil:SubL [] []
 | cons {x y:SV}{xs ys:List SV}(h:Sub x y) (hs:SubL xs ys):SubL (x::xs) (y::ys)
theorem SubL.den {xs ys:List SV}(h:SubL xs ys):∀ {ρ:Nms}{vs:List Value},denL ρ xs vs->denL ρ ys vs:=by
 induction h with
 | nil=>exact λd=>d
 | cons h _ ih=>
  intro ρ vs d
  match vs,d with
  | v::vs,d=>
   simp only[denL] at d ⊢;exact⟨h.of _ _ d.1,ih d.2⟩
theorem Sub.rfl {x:SV}:Sub x x:=⟨λ_ _ d=>d⟩
theorem SubL.rfl:∀ {xs:List SV},SubL xs xs
 | []=>.nil
 | _::_=>.cons .rfl SubL.rfl
theorem qay {x:Bool}(h:x=true):Sub .tt (.b x):=⟨λ_ _ d=>by simp only[den] at d ⊢;rw[d,h]⟩
theorem qao {x:Bool}(h:x=false):Sub .ff (.b x):=⟨λ_ _ d=>by simp only[den] at d ⊢;rw[d,h]⟩
theorem qgc {x y:Bool}(h:x=y):Sub (.b x) (.b y):=by subst h;exact .rfl
theorem qau {k:IntKind}{a b:Z}(h:a.v=b.v):Sub (.i k a) (.i k b):=⟨λ_ _ d=>by simp only[den] at d ⊢;rw[d,h]⟩
theorem qlm {x:SV}:Sub x .any:=⟨λ_ _ _=>by simp only[den]⟩
theorem qbt {x:Bool}(h:x=true):Sub (.b x) .tt:=⟨λ_ _ d=>by simp only[den] at d ⊢;rw[d,h]⟩
theorem qkt {x:Bool}(h:x=false):Sub (.b x) .ff:=⟨λ_ _ d=>by simp only[den] at d ⊢;rw[d,h]⟩
theorem Sub.trans {x y z:SV}(h:Sub x y) (h':Sub y z):Sub x z:=⟨λρ v d=>h'.of ρ v (h.of ρ v d)⟩
theorem qja {xs ys:List SV}(h:SubL xs ys):Sub (.ag xs) (.ag ys):=⟨λ_ _ d=>by
 simp only[den] at d ⊢;obtain⟨vs,e,d⟩:=d;exact⟨vs,e,h.den d⟩⟩
theorem qpw {xs ys:List SV}(h:SubL xs ys):Sub (.tp xs) (.tp ys):=⟨λ_ _ d=>by
 simp only[den] at d ⊢;obtain⟨vs,e,d⟩:=d;exact⟨vs,e,h.den d⟩⟩
theorem qgp {g:FuncId}{args args':List SV}{K:SV->List Blk->Prop}(ha:SubL args args') (h:(S0 P).call g args' l K):(S0 P).call g args l K:=
 λN W0 ρ W vals hR hd=>h N W0 ρ W vals hR (ha.den hd)
theorem qae {g:FuncId}{args:List SV}{K K':SV->List Blk->Prop}(h:(S0 P).call g args l K') (hK:∀ sv l',K' sv l'->∃ sv',Sub sv sv'/\K sv' l'):(S0 P).call g args l K:=by
 intro N W0 ρ W vals hR hd;refine NextR.mono ?_ (h N W0 ρ W vals hR hd);rintro v W' ⟨ρ',sv,l',hk,h1,h2,h3,h4⟩;obtain⟨sv',hs,hk'⟩:=hK sv l' hk;exact⟨ρ',sv',l',hk',h1,h2,h3,hs.of _ _ h4⟩
mutual
theorem qzakw {ok ok':Nat->Bool}(hk:∀ k,ok k=true->ok' k=true):∀ (x:SV),refsB ok x=true->refsB ok' x=true
 | .tt,_=>rfl
 | .ff,_=>rfl
 | .b _,_=>rfl
 | .i _ _,_=>rfl
 | .s _,_=>rfl
 | .p k _,h=>by simp only[refsB] at h ⊢;exact hk _ h
 | .pe k _ _ _,h=>by simp only[refsB] at h ⊢;exact hk _ h
 | .pv _ _ _ _ _,_=>rfl
 | .v _ _ _ _,_=>rfl
 | .sl k _ _ _ _,h=>by simp only[refsB] at h ⊢;exact hk _ h
 | .ag cs,h=>by simp only[refsB] at h ⊢;exact qgd hk cs h
 | .tp cs,h=>by simp only[refsB] at h ⊢;exact qgd hk cs h
 | .fn _ a c,h=>by simp only[refsB,Bool.and_eq_true] at h ⊢;exact⟨qgd hk a h.1,qgd hk c h.2⟩
 | .yl k,h=>by simp only[refsB] at h ⊢;exact hk _ h
 | .m k,h=>by simp only[refsB] at h ⊢;exact hk _ h
 | .re _,_=>rfl
 | .un,_=>rfl
 | .any,_=>rfl
theorem qgd {ok ok':Nat->Bool}(hk:∀ k,ok k=true->ok' k=true):∀ (xs:List SV),refsBL ok xs=true->refsBL ok' xs=true
 | [],_=>rfl
 | x::xs,h=>by simp only[refsBL,Bool.and_eq_true] at h ⊢;exact⟨qzakw hk x h.1,qgd hk xs h.2⟩
end
theorem qai {g:FuncId}{args:List SV}{sv:SV}{K:SV->List Blk->Prop}(hF:(S0 P).call g args [] (λx _=>Sub x sv)) (ha:refsBL (λ_=>false) args=true)
  (hs:refsB (λ_=>false) sv=true) (hK:K sv l):(S0 P).call g args l K:=by
 have h1:(S0 P).call g args [] (λx _=>x=sv):=qae hF λx l' hx=>⟨sv,hx,rfl⟩;refine call_frame h1 id (qiz id args ha).symm (qgd (λ_ h=>by cases h) _ ha) (λj B h=>by simp at h) ?_;rintro x l' rfl;refine⟨[],id,List.nodup_nil,by simp,qzakw (λ_ h=>by cases h) _ hs,?_⟩;rw[qzagh _ _ hs];simpa using hK
theorem SubL.fsub {xs ys:List SV}(h:SubL xs ys):FSub xs ys:=by
 induction h with
 | nil=>exact FSub.rfl
 | cons h _ ih=>
  refine⟨by simp [ih.1],λq x hx=>?_⟩;cases q with
  | zero=>simp only[List.getElem?_cons_zero,Option.some.injEq] at hx;subst hx;exact⟨_,by simp,h.of⟩
  | succ q=>simp only[List.getElem?_cons_succ] at hx ⊢;exact ih.2 q x hx
end
end Cz
namespace Cz
open Go Go.RowKit
def Opd.rd:Opd->List Nat
 | .t n=>[n]
 | .c _=>[]
def rdL:List Opd->List Nat
 | []=>[]
 | x::xs=>x.rd++rdL xs
def rdO:Option Opd->List Nat
 | none=>[]
 | some x=>x.rd
def rdP:List (Nat×Nat×Opd)->List Nat
 | []=>[]
 | (_,_,x)::r=>x.rd++rdP r
def rdQ:List (Nat×Opd)->List Nat
 | []=>[]
 | (_,x)::r=>x.rd++rdQ r
def AOp.rd:AOp->List Nat
 | .nilS _ x | .cvLL x | .mv x | .box x | .nilc x | .not x | .neg x | .cv _ x | .cvSS x | .cvBS x | .cvSB x | .fad _ x | .fld _ _ _ x | .ext x _ | .len _ x | .load _ _ x | .capS x | .rng x | .nxt x | .ent x | .nilP _ x=>x.rd
 | .pick c a b=>c.rd++(a.rd++b.rd)
 | .alloc _ | .mkM | .die=>[]
 | .build _ ps=>rdP ps
 | .buildS _ _ _ ps=>rdQ ps
 | .store _ x v=>x.rd++v.rd
 | .bin _ x y | .eqA _ _ x y | .eqN _ _ x y | .iadA _ _ x y | .iadS _ x y | .ixA _ _ _ x y | .ixS x y | .look _ _ _ x y | .app _ x y | .appZ _ _ x y=>x.rd++y.rd
 | .mkF _ a c=>rdL a++rdL c
 | .mkS _ _ n c=>n.rd++c.rd
 | .slc _ x lo hi mx=>x.rd++(rdO lo++(rdO hi++rdO mx))
 | .slcS x lo hi=>x.rd++(rdO lo++rdO hi)
 | .mupd _ m k v | .mest m k v=>m.rd++(k.rd++v.rd)
 | .ment _ _ m k=>m.rd++k.rd
 | .clr _ _ x=>x.rd
 | .bins _ xs=>rdL xs
 | .call f args=>f.rd++rdL args
def AOp.pure:AOp->Bool
 | .mv _ | .pick _ _ _ | .build _ _ | .bin _ _ _ | .eqA _ _ _ _ | .eqN _ _ _ _ | .not _ | .neg _ | .cv _ _ | .cvSS _ | .mkF _ _ _ | .slc _ _ _ _ _ | .slcS _ _ _ | .fad _ _
 | .fld _ _ _ _ | .iadS _ _ _ | .ixA _ _ _ _ _ | .ixS _ _ | .ext _ _ | .len _ _ | .nilc _=>true
 | _=>false
def AOp.reads:AOp->Bool
 | .load _ _ _ | .cvBS _ | .look _ _ _ _ _ | .iadA _ _ _ _=>true
 | _=>false
section
variable {P:Program}{S:Sy}{vs vs':List SV}{l:List Blk}
theorem qah {x:Opd}(h:∀ q∈x.rd,nth vs q=nth vs' q):ev vs x=ev vs' x:=by
 cases x with
 | t n=>exact h n (by simp [Opd.rd])
 | c x=>rfl
theorem qrg:∀ {xs:List Opd},(∀ q∈rdL xs,nth vs q=nth vs' q)->evs vs xs=evs vs' xs
 | [],_=>rfl
 | x::xs,h=>by
  simp only[rdL,List.mem_append] at h;simp only[evs,qah (λq hq=>h q (.inl hq)),qrg (λq hq=>h q (.inr hq))]
theorem qvm:∀ {ps:List (Nat×Nat×Opd)}{cs:List SV},(∀ q∈rdP ps,nth vs q=nth vs' q)->fillS vs cs ps=fillS vs' cs ps
 | [],_,_=>rfl
 | (_,_,x)::r,cs,h=>by
  simp only[rdP,List.mem_append] at h;simp only[fillS,qah (λq hq=>h q (.inl hq)),qvm (λq hq=>h q (.inr hq))]
theorem rdQ_map (sz:Nat):∀ (ps:List (Nat×Opd)),rdP (ps.map λ(i,x)=>(i*sz,sz,x))=rdQ ps
 | []=>rfl
 | (i,x)::r=>by simp [rdP,rdQ,rdQ_map sz r]
theorem qmr {d:Z}{x:Option Opd}(h:∀ q∈rdO x,nth vs q=nth vs' q):optZ vs d x=optZ vs' d x:=by
 cases x with
 | none=>rfl
 | some x=>simp only[optZ,qah h]
theorem vop_congr {o:AOp}{K:SV->List Blk->Prop}(h:∀ q∈o.rd,nth vs q=nth vs' q):vop S o vs l K=vop S o vs' l K:=by
 cases o<;>simp only[AOp.rd,List.mem_append] at h
 case mv x=>simp only[vop,qah h]
 case cvLL x=>simp only[vop,qah h]
 case nilS _ x=>simp only[vop,qah h]
 case box x=>simp only[vop,qah h]
 case nilc x=>simp only[vop,qah h]
 case not x=>simp only[vop,qah h]
 case neg x=>simp only[vop,qah h]
 case cv _ x=>simp only[vop,qah h]
 case cvSS x=>simp only[vop,qah h]
 case cvBS x=>simp only[vop,qah h]
 case cvSB x=>simp only[vop,qah h]
 case fad _ x=>simp only[vop,qah h]
 case fld _ _ _ x=>simp only[vop,qah h]
 case ext x _=>simp only[vop,qah h]
 case len _ x=>simp only[vop,qah h]
 case capS x=>simp only[vop,qah h]
 case rng x=>simp only[vop,qah h]
 case nilP _ x=>simp only[vop,qah h]
 case nxt x=>simp only[vop,qah h]
 case ent x=>simp only[vop,qah h]
 case die=>simp only[vop]
 case ment _ _ x y=>simp only[vop,qah (λq hq=>h q (.inl hq)),qah (λq hq=>h q (.inr hq))]
 case mest m k v=>simp only[vop,qah (λq hq=>h q (.inl hq)),qah (λq hq=>h q (.inr (.inl hq))),qah (λq hq=>h q (.inr (.inr hq)))]
 case clr _ _ x=>simp only[vop,qah h]
 case bins _ xs=>simp only[vop,qrg h]
 case appZ _ _ x y=>simp only[vop,qah (λq hq=>h q (.inl hq)),qah (λq hq=>h q (.inr hq))]
 case load _ _ x=>simp only[vop,qah h]
 case pick c a b=>simp only[vop,qah (λq hq=>h q (.inl hq)),qah (λq hq=>h q (.inr (.inl hq))),qah (λq hq=>h q (.inr (.inr hq)))]
 case alloc=>simp only[vop]
 case mkM=>simp only[vop]
 case build z ps=>simp only[vop,qvm h]
 case buildS sz n z ps=>simp only[vop,qvm (ps:=ps.map λ(i,x)=>(i*sz,sz,x)) (by rw[rdQ_map];exact h)]
 case store _ x y=>simp only[vop,qah (λq hq=>h q (.inl hq)),qah (λq hq=>h q (.inr hq))]
 case bin _ x y=>simp only[vop,qah (λq hq=>h q (.inl hq)),qah (λq hq=>h q (.inr hq))]
 case eqA _ _ x y=>simp only[vop,qah (λq hq=>h q (.inl hq)),qah (λq hq=>h q (.inr hq))]
 case eqN _ _ x y=>simp only[vop,qah (λq hq=>h q (.inl hq)),qah (λq hq=>h q (.inr hq))]
 case iadA _ _ x y=>simp only[vop,qah (λq hq=>h q (.inl hq)),qah (λq hq=>h q (.inr hq))]
 case iadS _ x y=>simp only[vop,qah (λq hq=>h q (.inl hq)),qah (λq hq=>h q (.inr hq))]
 case ixA _ _ _ x y=>simp only[vop,qah (λq hq=>h q (.inl hq)),qah (λq hq=>h q (.inr hq))]
 case ixS x y=>simp only[vop,qah (λq hq=>h q (.inl hq)),qah (λq hq=>h q (.inr hq))]
 case look _ _ _ x y=>simp only[vop,qah (λq hq=>h q (.inl hq)),qah (λq hq=>h q (.inr hq))]
 case app _ x y=>simp only[vop,qah (λq hq=>h q (.inl hq)),qah (λq hq=>h q (.inr hq))]
 case mkF _ a c=>simp only[vop,qrg (λq hq=>h q (.inl hq)),qrg (λq hq=>h q (.inr hq))]
 case mkS _ _ n c=>simp only[vop,qah (λq hq=>h q (.inl hq)),qah (λq hq=>h q (.inr hq))]
 case slc _ x lo hi mx=>
  have hm:∀ m,mx=some m->ev vs m=ev vs' m:=λm e=>qah λq hq=>h q (.inr (.inr (.inr (by rw[e];exact hq))));have e2:=λd=>qmr (d:=d) (λq hq=>h q (.inr (.inl hq)));have e3:=λd=>qmr (d:=d) (λq hq=>h q (.inr (.inr (.inl hq))));have e4:=λd=>qmr (d:=d) (λq hq=>h q (.inr (.inr (.inr hq))));have e1:ev vs x=ev vs' x:=qah (λq hq=>h q (.inl hq));simp only[vop,e1,e2,e3,e4];generalize ev vs' x=y;rcases y with _|_|_|_|_|_|_|_|⟨lit,sz',F,n⟩|⟨k,sz',off,ln,cap⟩|_|_|_|_|_|u|_|_<;>try rfl
  case re=>rcases u with _|_|_|_|_|_|⟨_|_,_|_,_|_⟩|_<;>rfl
  dsimp only;generalize roomC (optZ vs' (.l 0) lo) (optZ vs' ln hi) ln cap=cap;cases optZ vs' (.l 0) lo<;>cases optZ vs' ln hi<;>cases mx<;>cases cap<;>first|rfl|(simp only[hm _ rfl];done)
 case slcS x lo hi=>
  have e2:=λd=>qmr (d:=d) (λq hq=>h q (.inr (.inl hq)));have e3:=λd=>qmr (d:=d) (λq hq=>h q (.inr (.inr hq)));simp only[vop,qah (λq hq=>h q (.inl hq)),e2,e3]
 case mupd _ m k v=>simp only[vop,qah (λq hq=>h q (.inl hq)),qah (λq hq=>h q (.inr (.inl hq))),qah (λq hq=>h q (.inr (.inr hq)))]
 case call f args=>simp only[vop,qah (λq hq=>h q (.inl hq)),qrg (λq hq=>h q (.inr hq))]
theorem qzadc {b:Bool}{k1 k2:Unit->Prop}(h:(S0 P).br b k1 k2):
  (k1 ()/\∀ j1 j2:Unit->Prop,j1 ()->(S0 P).br b j1 j2)∨(k2 ()/\∀ j1 j2:Unit->Prop,j2 ()->(S0 P).br b j1 j2):=by
 cases b
 ·exact .inr ⟨h.2 rfl,λj1 j2 h=>⟨(λe=>by cases e),λ_=>h⟩⟩
 ·exact .inl ⟨h.1 rfl,λj1 j2 h=>⟨λ_=>h,(λe=>by cases e)⟩⟩
theorem brv_det {x:SV}{k1 k2:Unit->Prop}(h:brv (S0 P) x k1 k2):
  (k1 ()/\∀ j1 j2:Unit->Prop,j1 ()->brv (S0 P) x j1 j2)∨(k2 ()/\∀ j1 j2:Unit->Prop,j2 ()->brv (S0 P) x j1 j2):=by
 cases x<;>simp only[brv] at h ⊢
 case tt=>exact .inl ⟨h,λ_ _ h=>h⟩
 case ff=>exact .inr ⟨h,λ_ _ h=>h⟩
 case b x=>exact qzadc h
theorem chk_det {b:Bool}{k:Unit->Prop}(h:(S0 P).chk b k):k ()/\∀ j:Unit->Prop,j ()->(S0 P).chk b j:=⟨h.2,λ_ hj=>⟨h.1,hj⟩⟩
theorem zle_det {a b:Z}{k:Unit->Prop}(h:zle (S0 P) a b k):k ()/\∀ j:Unit->Prop,j ()->zle (S0 P) a b j:=by
 unfold zle at h ⊢;split at h
 ·split at h
  ·rename_i hh;exact⟨h,λj hj=>by rw[if_pos hh];exact hj⟩
  ·exact h.elim
 ·exact chk_det h
theorem zlt_det {a b:Z}{k:Unit->Prop}(h:zlt (S0 P) a b k):k ()/\∀ j:Unit->Prop,j ()->zlt (S0 P) a b j:=by
 unfold zlt at h ⊢;split at h
 ·split at h
  ·rename_i hh;exact⟨h,λj hj=>by rw[if_pos hh];exact hj⟩
  ·exact h.elim
 ·exact chk_det h
def VDet (T:(SV->Prop)->Prop):Prop:=∀ K,T K->∃ v,K v/\∀ J,J v->T J
theorem VDet.ret {v:SV}:VDet (λK=>K v):=λ_ h=>⟨v,h,λ_ hj=>hj⟩
theorem VDet.no:VDet (λ_=>False):=λ_ h=>h.elim
theorem VDet.ite {c:Prop} [Decidable c] {T U:(SV->Prop)->Prop}(hT:VDet T) (hU:VDet U):VDet (λK=>if c then T K else U K):=by
 intro K h;by_cases hc:c
 ·rw[if_pos hc] at h
  obtain⟨v,h1,h2⟩:=hT K h;exact⟨v,h1,λJ hj=>by simp only[if_pos hc];exact h2 J hj⟩
 ·rw[if_neg hc] at h
  obtain⟨v,h1,h2⟩:=hU K h;exact⟨v,h1,λJ hj=>by simp only[if_neg hc];exact h2 J hj⟩
theorem VDet.chk {b:Bool}{T:(SV->Prop)->Prop}(hT:VDet T):VDet (λK=>(S0 P).chk b λ_=>T K):=by
 intro K h;obtain⟨v,h1,h2⟩:=hT K h.2;exact⟨v,h1,λJ hj=>⟨h.1,h2 J hj⟩⟩
theorem VDet.ar {op:BK}{k:IntKind}{a b:Int}:VDet (λK=>(S0 P).ar op k a b λr=>K (.i k (.y r))):=λ_ h=>⟨_,h,λ_ hj=>hj⟩
theorem VDet.zle {a b:Z}{T:(SV->Prop)->Prop}(hT:VDet T):VDet (λK=>zle (S0 P) a b λ_=>T K):=by
 intro K h;obtain⟨h0,hz⟩:=zle_det h;obtain⟨v,h1,h2⟩:=hT K h0;exact⟨v,h1,λJ hj=>hz _ (h2 J hj)⟩
theorem VDet.zlt {a b:Z}{T:(SV->Prop)->Prop}(hT:VDet T):VDet (λK=>zlt (S0 P) a b λ_=>T K):=by
 intro K h;obtain⟨h0,hz⟩:=zlt_det h;obtain⟨v,h1,h2⟩:=hT K h0;exact⟨v,h1,λJ hj=>hz _ (h2 J hj)⟩
theorem VDet.opt {x:Option SV}:VDet (λK=>match x with|some v=>K v|none=>False):=by
 cases x with
 | none=>exact VDet.no
 | some v=>exact VDet.ret
theorem VDet.rd {F:List SV}{i:Int}{sz j n:Nat}{agg:Bool}:VDet (λK=>(S0 P).rd F i sz j n agg K):=by
 rintro K ⟨h0,h1,h2,v,hv,hk⟩;exact⟨v,hk,λJ hj=>⟨h0,h1,h2,v,hv,hj⟩⟩
theorem VDet.two {T:(Unit->Prop)->(Unit->Prop)->Prop}{x y:SV}
  (hT:∀ k1 k2,T k1 k2->(k1 ()/\∀ j1 j2:Unit->Prop,j1 ()->T j1 j2)∨(k2 ()/\∀ j1 j2:Unit->Prop,j2 ()->T j1 j2)):VDet (λK=>T (λ_=>K x) (λ_=>K y)):=by
 intro K h;rcases hT _ _ h with ⟨h1,h2⟩|⟨h1,h2⟩
 ·exact⟨x,h1,λJ hj=>h2 _ _ hj⟩
 ·exact⟨y,h1,λJ hj=>h2 _ _ hj⟩
theorem vbin_det {op:BK}{x y:SV}:VDet (λK=>vbin (S0 P) op x y K):=by
 cases x<;>cases y<;>simp only[vbin]<;>try exact VDet.no
 case i.i k a k' b=>
  cases op<;>cases b<;>(try dsimp only) <;>
   first
    | (cases a<;>first|exact VDet.ite (VDet.ite VDet.no VDet.ar) VDet.no|exact VDet.ite (VDet.ite VDet.no VDet.ret) VDet.no|exact VDet.ite VDet.ret VDet.no|exact VDet.ite VDet.ar VDet.no;done)
    | exact VDet.ite (VDet.chk VDet.ar) VDet.no
    | exact VDet.ite VDet.ret VDet.no
    | exact VDet.ite VDet.ar VDet.no
    | exact VDet.chk VDet.ar
    | skip
  all_goals (cases a<;>simp only[BK.isCmp,BK.lit,if_true,if_false,Bool.false_eq_true]<;>first|exact VDet.ite VDet.ret VDet.no|exact VDet.ite VDet.ar VDet.no)
 case s.s a b=>cases op<;>simp only[BK.isCmp,if_true,if_false,Bool.false_eq_true]<;>first|exact VDet.chk VDet.ret|exact VDet.ret|exact VDet.no
theorem veq1_det {s:Kd}{x y:SV}{k1 k2:Unit->Prop}(h:veq1 (S0 P) s x y k1 k2):
  (k1 ()/\∀ j1 j2:Unit->Prop,j1 ()->veq1 (S0 P) s x y j1 j2)∨(k2 ()/\∀ j1 j2:Unit->Prop,j2 ()->veq1 (S0 P) s x y j1 j2):=by
 cases s<;>cases x<;>simp only[veq1] at h ⊢<;>cases y<;>simp only[] at h ⊢
 case kb.tt.tt=>exact .inl ⟨h,λ_ _ h=>h⟩
 case kb.ff.ff=>exact .inl ⟨h,λ_ _ h=>h⟩
 case kb.tt.ff=>exact .inr ⟨h,λ_ _ h=>h⟩
 case kb.ff.tt=>exact .inr ⟨h,λ_ _ h=>h⟩
 case kb.b.tt=>exact qzadc h
 case kb.tt.b=>exact qzadc h
 case kb.b.b=>exact qzadc h
 case kb.b.ff=>
  rcases qzadc h with ⟨h1,h2⟩|⟨h1,h2⟩
  ·exact .inr ⟨h1,λ_ _ h=>h2 _ _ h⟩
  ·exact .inl ⟨h1,λ_ _ h=>h2 _ _ h⟩
 case kb.ff.b=>
  rcases qzadc h with ⟨h1,h2⟩|⟨h1,h2⟩
  ·exact .inr ⟨h1,λ_ _ h=>h2 _ _ h⟩
  ·exact .inl ⟨h1,λ_ _ h=>h2 _ _ h⟩
 case ki.i.i k a k' b=>
  by_cases hk:k=k'
  ·simp only[hk,if_true] at h ⊢
   cases a<;>cases b<;>simp only[] at h ⊢
   case l.l m n=>
    by_cases hm:m=n
    ·simp only[hm,if_true] at h ⊢;exact .inl ⟨h,λ_ _ h=>h⟩
    ·simp only[hm,if_false] at h ⊢;exact .inr ⟨h,λ_ _ h=>h⟩
   all_goals exact qzadc h
  ·simp only[hk,if_false] at h
 case ks.s.s=>exact qzadc h
theorem veqL_det:∀ {ss:List Kd}{xs ys:List SV}{k1 k2:Unit->Prop},veqL (S0 P) ss xs ys k1 k2 ->
  (k1 ()/\∀ j1 j2:Unit->Prop,j1 ()->veqL (S0 P) ss xs ys j1 j2)∨(k2 ()/\∀ j1 j2:Unit->Prop,j2 ()->veqL (S0 P) ss xs ys j1 j2)
 | [],_,_,k1,k2,h=>by
  simp only[veqL] at h ⊢;exact .inl ⟨h,λ_ _ h=>h⟩
 | s::ss,[],_,_,_,h=>by simp [veqL] at h
 | s::ss,_::_,[],_,_,h=>by simp [veqL] at h
 | s::ss,x::xs,y::ys,k1,k2,h=>by
  simp only[veqL] at h ⊢;rcases veq1_det h with ⟨h1,h2⟩|⟨h1,h2⟩
  ·rcases veqL_det h1 with ⟨h3,h4⟩|⟨h3,h4⟩
   ·exact .inl ⟨h3,λj1 j2 h=>h2 _ _ (h4 _ _ h)⟩
   ·exact .inr ⟨h3,λj1 j2 h=>h2 _ _ (h4 _ _ h)⟩
  ·exact .inr ⟨h1,λj1 j2 h=>h2 _ _ h⟩
theorem veq_det {sig:Sg}{x y:SV}(k1 k2:Unit->Prop) (h:veq (S0 P) sig x y k1 k2):
  (k1 ()/\∀ j1 j2:Unit->Prop,j1 ()->veq (S0 P) sig x y j1 j2)∨(k2 ()/\∀ j1 j2:Unit->Prop,j2 ()->veq (S0 P) sig x y j1 j2):=by
 unfold veq at h ⊢;cases hx:cellsOf x<;>cases hy:cellsOf y<;>simp only[hx,hy] at h ⊢;rename_i xs ys;by_cases hc:isAg x=sig.agg/\isAg y=sig.agg/\kinds sig.ks xs ys=true
 ·simp only[if_pos hc] at h ⊢;exact veqL_det h
 ·simp only[if_neg hc] at h
theorem qzaqd {sig:Sg}{key zero:SV}:∀ {es:List (SV×SV)}{K:SV->Bool->Prop},vlook (S0 P) sig key K zero es ->
  ∃ v f,K v f/\∀ J:SV->Bool->Prop,J v f->vlook (S0 P) sig key J zero es
 | [],K,h=>⟨zero,false,h,λ_ hj=>hj⟩
 | (k,v)::r,K,h=>by
  simp only[vlook] at h ⊢;rcases veq_det _ _ h with ⟨h1,h2⟩|⟨h1,h2⟩
  ·exact⟨v,true,h1,λJ hj=>h2 _ _ hj⟩
  ·obtain⟨u,f,h3,h4⟩:=qzaqd h1
   exact⟨u,f,h3,λJ hj=>h2 _ _ (h4 J hj)⟩
theorem vload_det {agg:Bool}{n:Nat}{x:SV}:VDet (λK=>vload (S0 P) l agg n x K):=by
 cases x<;>simp only[vload]<;>try exact VDet.no
 case p k o=>cases lget l k<;>simp only[]<;>first|exact VDet.no|exact VDet.ite VDet.opt VDet.no
 case pe k i sz j=>
  cases lget l k<;>simp only[]<;>try exact VDet.no
  case c cs=>cases i<;>simp only[]<;>first|exact VDet.ite VDet.opt VDet.no|exact VDet.rd
  case r ro lit st sz' F=>cases lit<;>cases i<;>simp only[]<;>first|exact VDet.ite (VDet.ite VDet.opt VDet.no) VDet.no|exact VDet.ite VDet.rd VDet.no
 case pv lit F i sz j=>cases lit<;>cases i<;>simp only[]<;>first|exact VDet.ite VDet.opt VDet.no|exact VDet.rd
theorem qzagi {o:AOp}{T:(SV->Prop)->Prop}(e:∀ l K,vop (S0 P) o vs l K=T (λv=>K v l)) (hT:VDet T) {K:SV->List Blk->Prop}(h:vop (S0 P) o vs l K):
  ∃ v,K v l/\∀ (l2:List Blk) (J:SV->List Blk->Prop),J v l2->vop (S0 P) o vs l2 J:=by
 rw[e] at h;obtain⟨v,h1,h2⟩:=hT _ h;exact⟨v,h1,λl2 J hj=>by rw[e];exact h2 _ hj⟩
theorem pure_det {o:AOp}(hp:o.pure=true) {K:SV->List Blk->Prop}(h:vop (S0 P) o vs l K):
  ∃ v,K v l/\∀ (l2:List Blk) (J:SV->List Blk->Prop),J v l2->vop (S0 P) o vs l2 J:=by
 cases o<;>simp only[AOp.pure,Bool.false_eq_true] at hp
 case mv x=>exact qzagi (λ_ _=>rfl) (VDet.ret (v:=ev vs x)) h
 case pick c a b=>exact qzagi (T:=λK=>brv (S0 P) (ev vs c) (λ_=>K (ev vs a)) (λ_=>K (ev vs b))) (λ_ _=>rfl) (VDet.two λ_ _ h=>brv_det h) h
 case build z ps=>
  cases hx:fillS vs z ps<;>simp only[vop,hx] at h ⊢;rename_i cs;obtain⟨v,h3,h4⟩:=VDet.ite VDet.ret VDet.no (λv=>K v l) h;exact⟨v,h3,λl2 J hj=>h4 (λv=>J v l2) hj⟩
 case bin op x y=>exact qzagi (T:=λK=>vbin (S0 P) op (ev vs x) (ev vs y) K) (λ_ _=>rfl) vbin_det h
 case eqA sig neg x y=>exact qzagi (T:=λK=>veq (S0 P) sig (ev vs x) (ev vs y) (λ_=>K (ofB (!neg))) (λ_=>K (ofB neg))) (λ_ _=>by simp only[vop,qzatd]) (VDet.two veq_det) h
 case eqN map neg x y=>
  simp only[vop,veqN] at h ⊢;cases hx:vnil map (ev vs x)<;>cases hy:vnil map (ev vs y)<;>simp only[hx,hy] at h ⊢
  ·rename_i b b'
   cases b<;>cases b'<;>simp only[] at h ⊢<;>exact⟨_,h,λ_ _ hj=>hj⟩
 case not x=>cases hx:ev vs x<;>simp only[vop,hx] at h ⊢<;>exact⟨_,h,λ_ _ hj=>hj⟩
 case neg x=>
  cases hx:ev vs x<;>simp only[vop,hx] at h ⊢;rename_i k z;cases z<;>simp only[] at h ⊢
  ·exact⟨_,h,λ_ _ hj=>hj⟩
  ·rename_i n
   exact⟨.i k (.y (arS .sub k 0 n)),h,λ_ _ hj=>hj⟩
 case cv k x=>
  cases hx:ev vs x<;>simp only[vop,hx] at h ⊢;rename_i z;cases z<;>simp only[] at h ⊢
  ·exact⟨_,h,λ_ _ hj=>hj⟩
  ·rename_i n
   exact⟨.i k (.y (k.wrap n)),h,λ_ _ hj=>hj⟩
 case cvSS x=>cases hx:ev vs x<;>simp only[vop,hx] at h ⊢;exact⟨_,h,λ_ _ hj=>hj⟩
 case mkF f a c=>exact qzagi (λ_ _=>rfl) (VDet.ret (v:=.fn f (evs vs a) (evs vs c))) h
 case slc sz x lo hi mx=>
  cases hx:ev vs x<;>simp only[vop,hx] at h ⊢
  case sl k sz' off ln cap=>
   by_cases hs:sz=sz'
   ·simp only[if_pos hs] at h ⊢
    generalize roomC (optZ vs (.l 0) lo) (optZ vs ln hi) ln cap=cap at h ⊢;cases h1:optZ vs (.l 0) lo<;>cases h2:optZ vs ln hi<;>simp only[h1,h2] at h ⊢;cases mx<;>cases cap<;>simp only[vsl2] at h ⊢
    ·obtain⟨v,h3,h4⟩:=VDet.zle (VDet.zle (VDet.zle VDet.ret)) (λv=>K v l) h
     exact⟨v,h3,λl2 J hj=>h4 (λv=>J v l2) hj⟩
    ·obtain⟨v,h3,h4⟩:=VDet.zle (VDet.zle (VDet.zle (VDet.zle VDet.ret))) (λv=>K v l) h
     exact⟨v,h3,λl2 J hj=>h4 (λv=>J v l2) hj⟩
    ·rename_i m
     cases h3:intZ (ev vs m)<;>simp only[h3] at h ⊢;obtain⟨v,h3,h4⟩:=VDet.zle (VDet.zle (VDet.zle (VDet.zle VDet.ret))) (λv=>K v l) h;exact⟨v,h3,λl2 J hj=>h4 (λv=>J v l2) hj⟩
    ·rename_i m c
     cases h3:intZ (ev vs m)<;>simp only[h3] at h ⊢;obtain⟨v,h3,h4⟩:=VDet.zle (VDet.zle (VDet.zle (VDet.zle (VDet.zle VDet.ret)))) (λv=>K v l) h;exact⟨v,h3,λl2 J hj=>h4 (λv=>J v l2) hj⟩
   ·simp only[if_neg hs] at h
  case v lit sz' F n=>
   by_cases hs:sz=sz'
   ·simp only[if_pos hs] at h ⊢
    cases ha:allN lo hi mx<;>simp only[ha] at h ⊢
    ·cases h1:optZ vs (.l 0) lo<;>cases h2:optZ vs n hi<;>cases h3:optZ vs n mx<;>simp only[h1,h2,h3] at h ⊢
     obtain⟨v,h3,h4⟩:=VDet.zle (VDet.zle (VDet.zle (VDet.zle VDet.ret))) (λv=>K v l) h;exact⟨v,h3,λl2 J hj=>h4 (λv=>J v l2) hj⟩
    ·exact⟨_,h,λ_ _ hj=>hj⟩
   ·simp only[if_neg hs] at h
  case re u=>
   split at h
   all_goals first|(exfalso;exact h)|skip
   ·rename_i hh;cases hh
   ·rename_i hh;cases hh
   ·rename_i hh
    simp only[SV.re.injEq] at hh;subst hh;cases h1:optZ vs (.l 0) lo<;>cases h2:optZ vs (.l 0) hi<;>cases h3:optZ vs (.l 0) mx<;>simp only[h1,h2,h3] at h ⊢;obtain⟨v,h3,h4⟩:=VDet.zle (VDet.zle (VDet.zle (VDet.zle VDet.ret))) (λv=>K v l) h;exact⟨v,h3,λl2 J hj=>h4 (λv=>J v l2) hj⟩
 case slcS x lo hi=>
  cases hx:ev vs x<;>simp only[vop,hx] at h ⊢;rename_i s;cases h1:optZ vs (.l 0) lo<;>cases h2:optZ vs (.y ((S0 P).slen s)) hi<;>simp only[h1,h2] at h ⊢;obtain⟨v,h3,h4⟩:=VDet.zle (VDet.zle (VDet.zle VDet.ret)) (λv=>K v l) h;exact⟨v,h3,λl2 J hj=>h4 (λv=>J v l2) hj⟩
 case fad off x=>cases hx:ev vs x<;>simp only[vop,hx] at h ⊢<;>exact⟨_,h,λ_ _ hj=>hj⟩
 case fld agg off n x=>
  cases hx:ev vs x<;>simp only[vop,hx] at h ⊢;rename_i cs;obtain⟨v,h3,h4⟩:=VDet.ite VDet.opt VDet.no (λv=>K v l) h;exact⟨v,h3,λl2 J hj=>h4 (λv=>J v l2) hj⟩
 case iadS sz x i=>
  cases hx:ev vs x<;>cases hi:intZ (ev vs i)<;>simp only[vop,hx,hi] at h ⊢
  ·obtain⟨v,h3,h4⟩:=VDet.ite (VDet.zle (VDet.zlt VDet.ret)) VDet.no (λv=>K v l) h
   exact⟨v,h3,λl2 J hj=>h4 (λv=>J v l2) hj⟩
  ·obtain⟨v,h3,h4⟩:=VDet.ite (VDet.zle (VDet.zlt VDet.ret)) VDet.no (λv=>K v l) h
   exact⟨v,h3,λl2 J hj=>h4 (λv=>J v l2) hj⟩
 case ixA agg n sz x i=>
  cases hx:ev vs x<;>cases hi:intZ (ev vs i)<;>simp only[vop,hx,hi] at h ⊢;rename_i cs z;cases z<;>simp only[] at h ⊢
  ·obtain⟨v,h3,h4⟩:=VDet.ite VDet.opt VDet.no (λv=>K v l) h
   exact⟨v,h3,λl2 J hj=>h4 (λv=>J v l2) hj⟩
  ·obtain⟨v,h3,h4⟩:=VDet.ite VDet.rd VDet.no (λv=>K v l) h
   exact⟨v,h3,λl2 J hj=>h4 (λv=>J v l2) hj⟩
 case ixS x i=>
  cases hx:ev vs x<;>cases hi:intZ (ev vs i)<;>simp only[vop,hx,hi] at h ⊢;obtain⟨v,h3,h4⟩:=VDet.zle (VDet.zlt VDet.ret) (λv=>K v l) h;exact⟨v,h3,λl2 J hj=>h4 (λv=>J v l2) hj⟩
 case ext x n=>
  cases hx:ev vs x<;>simp only[vop,hx] at h ⊢;obtain⟨v,h3,h4⟩:=VDet.ite VDet.ret VDet.no (λv=>K v l) h;exact⟨v,h3,λl2 J hj=>h4 (λv=>J v l2) hj⟩
 case len str x=>
  cases str<;>cases hx:ev vs x<;>simp only[vop,hx] at h ⊢
  ·exact⟨_,h,λ_ _ hj=>hj⟩
  ·exact⟨_,h,λ_ _ hj=>hj⟩
  ·split at h
   ·rename_i hh;cases hh
   ·rename_i hh;cases hh
   ·rename_i hh;cases hh;exact⟨_,h,λ_ _ hj=>hj⟩
   ·rename_i hh _;cases hh
   ·exact h.elim
  ·exact⟨_,h,λ_ _ hj=>hj⟩
 case nilc x=>
  cases hx:ev vs x<;>simp only[vop,hx] at h ⊢
  ·exact⟨_,h,λ_ _ hj=>hj⟩
  ·exact⟨_,h,λ_ _ hj=>hj⟩
  ·exact⟨_,h,λ_ _ hj=>hj⟩
  ·rename_i f a c
   cases f<;>simp only[] at h ⊢;exact⟨_,h,λ_ _ hj=>hj⟩
  ·exact⟨_,h,λ_ _ hj=>hj⟩
theorem qwq {o:AOp}(hp:o.reads=true) {K:SV->List Blk->Prop}(h:vop (S0 P) o vs l K):
  ∃ v,K v l/\∀ (J:SV->List Blk->Prop),J v l->vop (S0 P) o vs l J:=by
 cases o<;>simp only[AOp.reads,Bool.false_eq_true] at hp
 case load agg n x=>
  obtain⟨v,h3,h4⟩:=vload_det (λv=>K v l) h;exact⟨v,h3,λJ hj=>h4 (λv=>J v l) hj⟩
 case cvBS x=>
  cases hx:ev vs x<;>simp only[vop,hx] at h ⊢
  case sl k sz off ln cap=>
   cases hl:lget l k<;>simp only[hl] at h ⊢;rename_i ro lit st sz' F;split at h
   ·rename_i hs
    obtain⟨h0,h1,x,hb,hk⟩:=h;exact⟨_,hk,λJ hj=>by rw[if_pos hs];exact⟨h0,h1,x,hb,hj⟩⟩
   ·exact h.elim
  case v lit sz F n=>
   split at h
   ·rename_i hs
    obtain⟨h0,h1,x,hb,hk⟩:=h;exact⟨_,hk,λJ hj=>by rw[if_pos hs];exact⟨h0,h1,x,hb,hj⟩⟩
   ·exact h.elim
  case re u=>
   split at h
   ·rename_i hh;cases hh
   ·rename_i hh;cases hh
   ·rename_i hh;cases hh;exact⟨_,h,λ_ hj=>hj⟩
   ·exact h.elim
 case look sig zero ok m k=>
  simp only[vop,lk_eq] at h ⊢;split at h
  ·rename_i hv
   simp only[if_pos hv];cases hm:ev vs m<;>simp only[hm] at h ⊢
   case m b=>
    cases hl:lget l b<;>simp only[hl] at h ⊢;obtain⟨v,f,h1,h2⟩:=qzaqd h;exact⟨_,h1,λJ hj=>h2 _ hj⟩
   case re u=>
    split at h
    ·rename_i hh;cases hh
    ·rename_i hh;cases hh;exact⟨_,h,λ_ hj=>hj⟩
    ·exact h.elim
  ·exact h.elim
 case iadA n sz x i=>
  cases hx:ev vs x<;>cases hi:intZ (ev vs i)<;>simp only[vop,hx,hi] at h ⊢
  ·rename_i k o z
   cases hl:lget l k<;>simp only[hl] at h ⊢;obtain⟨v,h3,h4⟩:=VDet.ite (VDet.zle (VDet.zlt VDet.ret)) (VDet.ite (VDet.zle (VDet.zlt VDet.ret)) VDet.no) (λv=>K v l) h;exact⟨v,h3,λJ hj=>h4 (λv=>J v l) hj⟩
  ·rename_i k i0 sz0 j z
   cases z<;>simp only[] at h ⊢;obtain⟨v,h3,h4⟩:=VDet.ite VDet.ret VDet.no (λv=>K v l) h;exact⟨v,h3,λJ hj=>h4 (λv=>J v l) hj⟩
  ·rename_i lit F i0 sz0 j z
   cases z<;>simp only[] at h ⊢;obtain⟨v,h3,h4⟩:=VDet.ite VDet.ret VDet.no (λv=>K v l) h;exact⟨v,h3,λJ hj=>h4 (λv=>J v l) hj⟩
end
end Cz
namespace Cz
open Go Go.RowKit
def geta:List AO->Nat->Option AO
 | [],_=>none
 | a::_,0=>some a
 | _::l,n+1=>geta l n
theorem geta_eq:∀ (l:List AO) (n:Nat),geta l n=l[n]?
 | [],_=>rfl
 | _::_,0=>by simp [geta]
 | _::l,n+1=>by simp [geta,geta_eq l n]
def AO.rd (o:AO):List Nat:=match o.g with|none=>o.op.rd|some (s,_)=>s::o.op.rd
def hasN (l:List Nat) (n:Nat):Bool:=l.any (Nat.beq n)
theorem qry {l:List Nat}{n:Nat}:hasN l n=true↔n∈l:=by
 unfold hasN;rw[List.any_eq_true];exact⟨λ⟨x,hx,h⟩=>by rw[Nat.beq_eq] at h;rw[h];exact hx,λh=>⟨n,h,Nat.beq_refl n⟩⟩
def clash (o p:AO):Bool:=match o.dst with
 | none=>false
 | some d=>hasN p.rd d||(match p.dst with|some d'=>Nat.beq d d'|none=>false)
def takes (o p:AO):Bool:=match p.dst with
 | none=>false
 | some d=>hasN o.rd d
def cloGo:List (List Nat)->List Nat->List Nat
 | [],acc=>acc
 | p::ps,acc=>cloGo ps (acc++[p.foldl (λm j=>m ||| (1 <<< j) ||| acc.getD j 0) 0])
def bef (cl:List Nat) (i j:Nat):Bool:=(cl.getD j 0).testBit i
def befE (cl:List Nat):List (Nat×Nat)->Nat->Nat->Bool
 | [],i,j=>bef cl i j
 | k::E,i,j=>befE cl E i j||((Nat.beq k.2 j||befE cl E k.2 j)&&(Nat.beq i k.1||befE cl E i k.1))
def light (o:AO):Bool:=o.op.pure||o.op.reads
def settles (aos:List AO) (prev:List Nat) (o:AO):Bool:=
 light o&&!takes o o&&prev.all λj=>match geta aos j with|none=>false|some p=>!clash o p
def okFrom (aos:List AO) (B:Nat->Nat->Bool):List Nat->List (Nat×List Nat)->Bool
 | _,[]=>true
 | prev,(i,fl)::r=>(match geta aos i with
  | none=>false
  | some o=>!hasN prev i&&(prev.all λj=>match geta aos j with|none=>false|some p=>!takes o p||B j i) &&
   (if settles aos prev o=true then fl.isEmpty
    else (fl.all λj=>match geta aos j with|none=>false|some p=>p.op.reads)&&(r.all λk=>B i k.1)&&prev.all λj=>match geta aos j with|none=>false|some p=>(!clash o p||B j i)&&(B j i||p.op.pure||(p.op.reads&&hasN fl j)))) &&
  okFrom aos B (i::prev) r
def preLt:Nat->List (List Nat)->Bool
 | _,[]=>true
 | i,p::ps=>p.all (λj=>decide (j<i))&&preLt (i+1) ps
def drawOkE (aos:List AO) (pre:List (List Nat)) (E:List (Nat×Nat)) (ord:List (Nat×List Nat)):Bool:=
 preLt 0 pre&&decide (ord.length=aos.length)&&(ord.all λk=>decide (k.1<aos.length))&&((List.range aos.length).all λi=>ord.any λk=>Nat.beq k.1 i)&&okFrom aos (befE (cloGo pre []) E) [] ord
def drawOk (aos:List AO) (pre:List (List Nat)) (ord:List (Nat×List Nat)):Bool:=drawOkE aos pre [] ord
inductive Spl where
 | leaf (ord:List (Nat×List Nat))
 | node (x y:Nat) (a b:Spl)
def okT (aos:List AO) (pre:List (List Nat)):List (Nat×Nat)->Spl->Bool
 | E,.leaf ord=>drawOkE aos pre E ord
 | E,.node x y a b=>!(Nat.beq x y)&&okT aos pre ((x,y)::E) a&&okT aos pre ((y,x)::E) b
def isO (vs:List SV) (d:Option Nat) (v:SV):Prop:=match d with|none=>True|some d=>v=nth vs d
def chkF (S:Sy) (o:AO) (vs:List SV) (l:List Blk) (X:Unit->Prop):Prop:=
 match o.g with
 | none=>vop S o.op vs l λv _=>isO vs o.dst v/\X ()
 | some (s,want)=>match nth vs s,want with
  | .tt,true=>vop S o.op vs l λv _=>isO vs o.dst v/\X ()
  | .ff,false=>vop S o.op vs l λv _=>isO vs o.dst v/\X ()
  | .tt,false=>isO vs o.dst .un/\X ()
  | .ff,true=>isO vs o.dst .un/\X ()
  | .un,_=>isO vs o.dst .un/\X ()
  | _,_=>False
def stab (S:Sy) (aos:List AO):List Nat->List SV->List Blk->(Unit->Prop)->Prop
 | [],_,_,X=>X ()
 | j::fl,vs,l,X=>match geta aos j with
  | none=>False
  | some o=>chkF S o vs l λ_=>stab S aos fl vs l X
def vdr (S:Sy) (aos:List AO) (K:List SV->List Blk->Prop):List (Nat×List Nat)->List SV->List Blk->Prop
 | [],vs,l=>K vs l
 | (i,fl)::r,vs,l=>match geta aos i with
  | none=>False
  | some o=>match o.g with
   | none=>vop S o.op vs l λv l'=>stab S aos fl (putO vs o.dst v) l' λ_=>vdr S aos K r (putO vs o.dst v) l'
   | some (s,want)=>match nth vs s with
    | .un=>stab S aos fl (putO vs o.dst .un) l λ_=>vdr S aos K r (putO vs o.dst .un) l
    | x=>brv S x
     (λ_=>if want then vop S o.op (put vs s .tt) l λv l'=>stab S aos fl (putO (put vs s .tt) o.dst v) l' λ_=>vdr S aos K r (putO (put vs s .tt) o.dst v) l'
      else stab S aos fl (putO (put vs s .tt) o.dst .un) l λ_=>vdr S aos K r (putO (put vs s .tt) o.dst .un) l)
     (λ_=>if want then stab S aos fl (putO (put vs s .ff) o.dst .un) l λ_=>vdr S aos K r (putO (put vs s .ff) o.dst .un) l
      else vop S o.op (put vs s .ff) l λv l'=>stab S aos fl (putO (put vs s .ff) o.dst v) l' λ_=>vdr S aos K r (putO (put vs s .ff) o.dst v) l')
def vdrT (S:Sy) (aos:List AO) (K:List SV->List Blk->Prop):Spl->List SV->List Blk->Prop
 | .leaf ord,vs,l=>vdr S aos K ord vs l
 | .node _ _ a b,vs,l=>vdrT S aos K a vs l/\vdrT S aos K b vs l
def RgA (P:Program) (ops:Array Oper) (E:List (Nat×Nat)) (Q:Act->World->Prop):Nat->Array Bool->Act->World->Prop
 | 0,_,a,w=>Q a w
 | n+1,L,a,w=>(Region.ready .any ops L=[]->Q a w)/\∀ i∈Region.ready .any ops L,(∀ k∈E,k.2=i->L.getD k.1 false=true)->∀ o,ops[i]?=some o ->
   if Region.wanted o (yielded ops a.tmps) then OpRuns P o a w (λv w'=>RgA P ops E Q n (L.setIfInBounds i true) (a.put o.dst v) w')
   else RgA P ops E Q n (L.setIfInBounds i true) (a.put o.dst undef) w
theorem OpRuns.mono {P:Program}{o:Oper}{a:Act}{w:World}{R R':Value->World->Prop}(h:OpRuns P o a w R) (hR:∀ v w,R v w->R' v w):OpRuns P o a w R':=
 ⟨h.1,NextR.mono hR h.2⟩
def Resp (E:List (Nat×Nat)) (L:Array Bool) (s:List Nat):Prop:=∀ k∈E,L.getD k.1 false=true∨∀ s1 s2,s=s1++k.2::s2->k.1∈s1
theorem rga_sound {P:Program}{ops:Array Oper}{E:List (Nat×Nat)}{Q:Act->World->Prop}:∀ (n t:Nat) (L:Array Bool) (a:Act) (w:World),RgA P ops E Q n L a w->Resp E L (Region.linearise.go .any ops n t L []) ->
  Rg P ops Q (Region.linearise.go .any ops n t L []) a w:=by
 intro n
 induction n with
 | zero=>intro t L a w h _;simpa [Region.linearise.go,Rg,RgA] using h
 | succ n ih=>
  intro t L a w h hE;obtain⟨h0,h1⟩:=h;simp only[Region.linearise.go] at hE ⊢
  change Resp E L (match (Region.ready .any ops L)[t%(Region.ready .any ops L).length]? with
   | some i=>Region.linearise.go .any ops n (t/(Region.ready .any ops L).length) (L.setIfInBounds i true) [i]
   | none=>[].reverse) at hE
  change Rg P ops Q (match (Region.ready .any ops L)[t%(Region.ready .any ops L).length]? with
   | some i=>Region.linearise.go .any ops n (t/(Region.ready .any ops L).length) (L.setIfInBounds i true) [i]
   | none=>[].reverse) a w
  cases hi:(Region.ready .any ops L)[t%(Region.ready .any ops L).length]? with
  | none=>
   have hnil:Region.ready .any ops L=[]:=by
    cases hr:Region.ready .any ops L with
    | nil=>rfl
    | cons x xs=>
     rw[hr] at hi;have hlt:t%(x::xs).length<(x::xs).length:=Nat.mod_lt _ (by simp);simp at hi;simp at hlt;omega
   simpa [Rg] using h0 hnil
  | some i=>
   rw[hi] at hE;simp only[] at hE ⊢;rw[linearise_go_acc,List.reverse_singleton,List.singleton_append] at hE ⊢;have hm:=List.mem_of_getElem? hi;obtain⟨hu,o,ho,_⟩:=mem_ready.1 hm;have hlt:i<L.size:=by
    rcases Nat.lt_or_ge i L.size with h3|h3
    ·exact h3
    ·simp [Array.getD_eq_getD_getElem?,Array.getElem?_eq_none h3] at hu
   have h2:=h1 i hm (λk hk e=>(hE k hk).resolve_right λh3=>by
    have:=h3 [] (Region.linearise.go .any ops n (t/(Region.ready .any ops L).length) (L.setIfInBounds i true) []) (by rw[e];rfl)
    cases this) o ho
   have hE2:Resp E (L.setIfInBounds i true) (Region.linearise.go .any ops n (t/(Region.ready .any ops L).length) (L.setIfInBounds i true) []):=by
    intro k hk;by_cases hki:k.1=i
    ·left
     rw[hki];simp [hlt]
    ·rcases hE k hk with h3|h3
     ·left
      rw[Array.getD_eq_getD_getElem?,Array.getElem?_setIfInBounds_ne (Ne.symm hki),<-Array.getD_eq_getD_getElem?];exact h3
     ·right
      intro s1 s2 e
      have:=h3 (i::s1) s2 (by rw[e];rfl)
      rcases List.mem_cons.1 this with h4|h4
      ·exact absurd h4 hki
      ·exact h4
   simp only[Rg,ho];split
   ·rename_i hw
    rw[if_pos hw] at h2;exact h2.mono λv w' h=>ih _ _ _ _ h hE2
   ·rename_i hw
    rw[if_neg hw] at h2;exact ih _ _ _ _ h2 hE2
theorem qzaso {acc:List Nat}{i:Nat}:∀ (p:List Nat) (m:Nat),(p.foldl (λm j=>m ||| (1 <<< j) ||| acc.getD j 0) m).testBit i=true ->
  m.testBit i=true∨∃ j∈p,i=j∨(acc.getD j 0).testBit i=true
 | [],m,h=>.inl h
 | j::p,m,h=>by
  rw[List.foldl_cons] at h;rcases qzaso p _ h with h1|⟨k,hk,h1⟩
  ·rw[Nat.testBit_or,Nat.testBit_or,Bool.or_eq_true,Bool.or_eq_true] at h1
   rcases h1 with (h1|h1)|h1
   ·exact .inl h1
   ·rw[Nat.one_shiftLeft,Nat.testBit_two_pow] at h1
    have h2:j=i:=by simpa using h1
    exact .inr ⟨j,by simp,.inl h2.symm⟩
   ·exact .inr ⟨j,by simp,.inr h1⟩
  ·exact .inr ⟨k,by simp [hk],h1⟩
theorem qzaoz:∀ (ps:List (List Nat)) (acc:List Nat) (j:Nat),j<acc.length->(cloGo ps acc).getD j 0=acc.getD j 0
 | [],_,_,_=>rfl
 | p::ps,acc,j,h=>by
  rw[cloGo,qzaoz ps _ j (by simp;omega)];simp [List.getD_eq_getElem?_getD,List.getElem?_append_left h]
theorem clo_spec {i:Nat}:∀ (ps:List (List Nat)) (acc:List Nat) (j:Nat),acc.length<=j->bef (cloGo ps acc) i j=true ->
  ∃ p,ps[j-acc.length]?=some p/\∃ q∈p,i=q∨(q<j/\bef (cloGo ps acc) i q=true)
 | [],acc,j,hj,h=>by
  simp only[cloGo,bef,List.getD_eq_getElem?_getD,List.getElem?_eq_none hj] at h;simp at h
 | p::ps,acc,j,hj,h=>by
  rcases Nat.eq_or_lt_of_le hj with e|e
  ·subst e
   refine⟨p,by simp,?_⟩;simp only[bef] at h;rw[cloGo,qzaoz _ _ _ (by simp)] at h;simp only[List.getD_eq_getElem?_getD,List.getElem?_append_right (Nat.le_refl _),Nat.sub_self,List.getElem?_cons_zero,Option.getD_some] at h;have h':(p.foldl (λm j=>m ||| (1 <<< j) ||| acc.getD j 0) 0).testBit i=true:=by simpa only[List.getD_eq_getElem?_getD] using h
   rcases qzaso p 0 h' with h1|⟨q,hq,h1⟩
   ·simp at h1
   ·refine⟨q,hq,h1.imp id λh1=>?_⟩
    have hlt:q<acc.length:=by
     rcases Nat.lt_or_ge q acc.length with h2|h2
     ·exact h2
     ·simp [List.getD_eq_getElem?_getD,List.getElem?_eq_none h2] at h1
    refine⟨hlt,?_⟩;simp only[bef];rw[cloGo,qzaoz _ _ _ (by simp;omega)];rw[List.getD_eq_getElem?_getD,List.getElem?_append_left hlt,<-List.getD_eq_getElem?_getD];exact h1
  ·rw[cloGo] at h
   obtain⟨r,hr,q,hq,h1⟩:=clo_spec ps _ j (by simp;omega) h;refine⟨r,?_,q,hq,by rw[cloGo];exact h1⟩;rw[List.length_append,List.length_singleton] at hr;rw[show j-acc.length=(j-(acc.length+1))+1 by omega,List.getElem?_cons_succ];exact hr
theorem qzaky:∀ (ps:List (List Nat)) (i:Nat),preLt i ps=true->∀ (j:Nat) (p:List Nat),ps[j]?=some p->∀ q∈p,q<i+j
 | [],_,_,j,p,h=>by simp at h
 | p::ps,i,h,0,r,hr=>by
  simp only[List.getElem?_cons_zero,Option.some.injEq] at hr;subst hr;simp only[preLt,Bool.and_eq_true,List.all_eq_true,decide_eq_true_eq] at h;simpa using h.1
 | p::ps,i,h,j+1,r,hr=>by
  simp only[preLt,Bool.and_eq_true] at h;intro q hq
  have:=qzaky ps (i+1) h.2 j r (by simpa using hr) q hq
  omega
theorem bef_listed {pre:List (List Nat)}{D:Nat->Prop}(hc:∀ j,D j->∀ p,pre[j]?=some p->∀ q∈p,D q) {i:Nat}:∀ (j:Nat),
  (∀ p,pre[j]?=some p->∀ q∈p,D q)->bef (cloGo pre []) i j=true->D i:=by
 intro j
 induction j using Nat.strongRecOn with
 | ind j ih=>
  intro h hb;obtain⟨p,hp,q,hq,h1⟩:=clo_spec pre [] j (Nat.zero_le _) hb;have hD:=h p (by simpa using hp) q hq;rcases h1 with rfl|⟨hlt,h2⟩
  ·exact hD
  ·exact ih q hlt (hc q hD) h2
theorem qou {pre:List (List Nat)}{D:Nat->Prop}(hc:∀ j,D j->∀ p,pre[j]?=some p->∀ q∈p,D q):∀ (E:List (Nat×Nat)),(∀ j,D j->∀ k∈E,k.2=j->D k.1)->∀ {i:Nat}(j:Nat),
  (∀ p,pre[j]?=some p->∀ q∈p,D q)->(∀ k∈E,k.2=j->D k.1)->befE (cloGo pre []) E i j=true->D i
 | [],_,i,j,h,_,hb=>bef_listed hc j h hb
 | k::E,hE,i,j,h,hj,hb=>by
  have hE':∀ j,D j->∀ k∈E,k.2=j->D k.1:=λj hj k hk e=>hE j hj k (List.mem_cons_of_mem _ hk) e;have hj':∀ k∈E,k.2=j->D k.1:=λk hk e=>hj k (List.mem_cons_of_mem _ hk) e;have ih:∀ {i:Nat}(j:Nat),(∀ p,pre[j]?=some p->∀ q∈p,D q)->(∀ k∈E,k.2=j->D k.1)->befE (cloGo pre []) E i j=true->D i:=λj h hj hb=>qou hc E hE' j h hj hb;simp only[befE,Bool.or_eq_true,Bool.and_eq_true] at hb;rcases hb with hb|⟨h1,h2⟩
  ·exact ih j h hj' hb
  ·have hx:D k.1:=by
    rcases h1 with h1|h1
    ·exact hj k (by simp) (Nat.beq_eq▸h1)
    ·exact hE k.2 (ih j h hj' h1) k (by simp) rfl
   rcases h2 with h2|h2
   ·rw[Nat.beq_eq] at h2;rw[h2];exact hx
   ·exact ih k.1 (hc k.1 hx) (hE' k.1 hx) h2
theorem qzaqg {x y:Nat}(hxy:x≠y):∀ (s:List Nat),(∀ s1 s2,s=s1++y::s2->x∈s1)∨(∀ s1 s2,s=s1++x::s2->y∈s1)
 | []=>.inl λs1 s2 h=>by simp at h
 | z::s=>by
  by_cases hx:z=x
  ·left
   intro s1 s2 h;cases s1 with
   | nil=>simp only[List.nil_append,List.cons.injEq] at h;exact absurd (hx.symm.trans h.1) hxy
   | cons a s1=>simp only[List.cons_append,List.cons.injEq] at h;rw[<-h.1,hx];simp
  ·by_cases hy:z=y
   ·right
    intro s1 s2 h;cases s1 with
    | nil=>simp only[List.nil_append,List.cons.injEq] at h;exact absurd h.1 hx
    | cons a s1=>simp only[List.cons_append,List.cons.injEq] at h;rw[<-h.1,hy];simp
   ·refine (qzaqg hxy s).imp (λih s1 s2 h=>?_) (λih s1 s2 h=>?_)
    ·cases s1 with
     | nil=>simp only[List.nil_append,List.cons.injEq] at h;exact absurd h.1 hy
     | cons a s1=>simp only[List.cons_append,List.cons.injEq] at h;exact List.mem_cons_of_mem _ (ih s1 s2 h.2)
    ·cases s1 with
     | nil=>simp only[List.nil_append,List.cons.injEq] at h;exact absurd h.1 hx
     | cons a s1=>simp only[List.cons_append,List.cons.injEq] at h;exact List.mem_cons_of_mem _ (ih s1 s2 h.2)
end Cz
namespace Cz
open Go Go.RowKit
section
variable {P:Program}{N:Nat->Prop}{W0:World}{ops:Array Oper}{aos:List AO}{pre:List (List Nat)}{vs:List SV}{l:List Blk}{ρ:Nms}
def only (qs:List Nat) (vs:List SV):List SV:=vs.mapIdx λi x=>if i∈qs then x else .any
theorem nth_only {qs:List Nat}{q:Nat}(hq:q∈qs):nth (only qs vs) q=nth vs q:=by
 simp only[qfy,only,List.getD_eq_getElem?_getD,List.getElem?_mapIdx];cases vs[q]?<;>simp [hq]
theorem only_env {qs:List Nat}{t:Array Value}(hl:vs.length<=t.size) (h:∀ q∈qs,den ρ (nth vs q) (t.getD q undef)):EnvOk ρ (only qs vs) t:=by
 intro q x hx;simp only[only,List.getElem?_mapIdx,Option.map_eq_some_iff] at hx;obtain⟨y,hy,rfl⟩:=hx;have hlt:q<vs.length:=(List.getElem?_eq_some_iff.1 hy).1;refine⟨t[q],Array.getElem?_eq_getElem (by omega),?_⟩;by_cases hq:q∈qs
 ·rw[if_pos hq]
  have:=h q hq
  rw[qfy,List.getD_eq_getElem?_getD,hy] at this;simpa [show q<t.size by omega] using this
 ·rw[if_neg hq];simp only[den]
theorem env_nth {t:Array Value}(h:EnvOk ρ vs t) (q:Nat):den ρ (nth vs q) (t.getD q undef):=by
 rw[qfy,List.getD_eq_getElem?_getD];cases hg:vs[q]? with
 | none=>simp [den]
 | some y=>
  obtain⟨v,e,d⟩:=h q y hg;simpa [e] using d
def Fact (P:Program) (N:Nat->Prop) (W0:World) (ops:Array Oper) (o:AO) (oo:Oper) (vs:List SV) (l:List Blk) (sv:SV):Prop:=
 ∀ (ρ:Nms) (W:World) (a:Act),Rel P N W0 ρ l W->vs.length<=a.tmps.size->(∀ q∈o.rd,den ρ (nth vs q) (a.tmps.getD q undef)) ->
  if Region.wanted oo (yielded ops a.tmps) then OpRuns P oo a W (λv W'=>∃ ρ',Le l.length ρ ρ'/\Rel P N W0 ρ' l W'/\den ρ' sv v) else sv=.un
def Says (o:AO) (vs:List SV) (t:Array Value) (ρ:Nms):Prop:=∀ q∈o.rd,den ρ (nth vs q) (t.getD q undef)
def Wants (ops:Array Oper) (o:AO) (oo:Oper) (vs:List SV) (b:Bool):Prop:=∀ (t:Array Value) (ρ:Nms),Says o vs t ρ->Region.wanted oo (yielded ops t)=b
theorem qzawj {o:AO}{oo:Oper}(hc:convAO P ops oo=some o):convOp P oo=some o.op/\o.dst=oo.dst:=by
 simp only[convAO,Option.bind_eq_bind,Option.bind_eq_some_iff] at hc;obtain⟨op,hop,hc⟩:=hc;split at hc
 ·simp only[Option.pure_def,Option.some.injEq] at hc;subst hc;exact⟨hop,rfl⟩
 ·simp only[Option.bind_eq_some_iff,Option.pure_def,Option.some.injEq] at hc
  obtain⟨_,_,_,_,rfl⟩:=hc;exact⟨hop,rfl⟩
theorem qzapd {tmps:Array Value}{j:Nat}{x:Oper}{d:Nat}(hx:ops[j]?=some x) (hd:x.dst=some d):yielded ops tmps j=boolOf (tmps.getD d undef):=by
 cases hv:tmps[d]? with
 | none=>simp [yielded,hx,hd,hv,Array.getD_eq_getD_getElem?,undef,boolOf]
 | some v=>rw[qzakr hx hd hv,Array.getD_eq_getD_getElem?,hv];rfl
theorem conv_g {o:AO}{oo:Oper}(hc:convAO P ops oo=some o):match o.g with
  | none=>∀ t:Array Value,Region.wanted oo (yielded ops t)=true
  | some (s,want)=>∀ t:Array Value,Region.wanted oo (yielded ops t)=(boolOf (t.getD s undef)==some want):=by
 simp only[convAO,Option.bind_eq_bind,Option.bind_eq_some_iff] at hc;obtain⟨op,hop,hc⟩:=hc;split at hc
 ·rename_i hg
  simp only[Option.pure_def,Option.some.injEq] at hc;subst hc;intro t;simp [Region.wanted,hg]
 ·rename_i jj want hg
  simp only[Option.bind_eq_some_iff,Option.pure_def,Option.some.injEq] at hc;obtain⟨x,hx,d,hd,rfl⟩:=hc;intro t;simp only[Region.wanted,hg,qzapd hx hd]
theorem qzaks {o:AO}{oo:Oper}(hc:convAO P ops oo=some o) (hg:o.g=none):Wants ops o oo vs true:=by
 have:=conv_g hc
 rw[hg] at this;exact λt ρ _=>this t
theorem qmf {o:AO}{oo:Oper}(hc:convAO P ops oo=some o) {s:Nat}{want b:Bool}(hg:o.g=some (s,want)) (hs:nth vs s=ofB b):Wants ops o oo vs (b==want):=by
 have h:=conv_g hc;rw[hg] at h;intro t ρ hd
 have:=hd s (by simp [AO.rd,hg])
 rw[hs] at this;rw[h t];cases b<;>simp only[ofB,den] at this<;>rw[this]<;>cases want<;>rfl
theorem wants_un {o:AO}{oo:Oper}(hc:convAO P ops oo=some o) {s:Nat}{want:Bool}(hg:o.g=some (s,want)) (hs:nth vs s=.un):Wants ops o oo vs false:=by
 have h:=conv_g hc;rw[hg] at h;intro t ρ hd
 have:=hd s (by simp [AO.rd,hg])
 rw[hs] at this;simp only[den] at this;rw[h t,this];rfl
theorem rd_sub (o:AO):∀ q∈o.op.rd,q∈o.rd:=by
 intro q hq;unfold AO.rd;split
 ·exact hq
 ·exact List.mem_cons_of_mem _ hq
theorem op_runs {o:AO}{oo:Oper}{W:World}{a:Act}{K:SV->List Blk->Prop}(hc:convAO P ops oo=some o) (h:vop (S0 P) o.op vs l K) (hR:Rel P N W0 ρ l W) (hl:vs.length<=a.tmps.size)
  (hd:Says o vs a.tmps ρ):OpRuns P oo a W (OpPost P N W0 ρ l K):=by
 have e:vop (S0 P) o.op vs l K=vop (S0 P) o.op (only o.rd vs) l K:=vop_congr λq hq=>(nth_only (rd_sub o q hq)).symm;rw[e] at h;exact op_sound (qzawj hc).1 N W0 W ρ l _ a K h hR (only_env hl hd)
theorem qsd {o:AO}{oo:Oper}{sv:SV}(hc:convAO P ops oo=some o) (hw:Wants ops o oo vs true) (h:∀ J:SV->List Blk->Prop,J sv l->vop (S0 P) o.op vs l J):Fact P N W0 ops o oo vs l sv:=by
 intro ρ W a hR hl hd;rw[hw _ _ hd,if_pos rfl];refine (op_runs hc (h (λv l'=>v=sv/\l'=l) ⟨rfl,rfl⟩) hR hl hd).mono ?_;rintro v W' ⟨ρ',x,l',⟨rfl,rfl⟩,h1,_,h2,h3⟩;exact⟨ρ',h1,h2,h3⟩
theorem qrf {o:AO}{oo:Oper}(hw:Wants ops o oo vs false):Fact P N W0 ops o oo vs l .un:=by
 intro ρ W a hR hl hd;rw[hw _ _ hd]
 simp
theorem Fact.congr {o:AO}{oo:Oper}{sv:SV}{vs':List SV}(h:Fact P N W0 ops o oo vs l sv) (hl:vs'.length=vs.length) (hq:∀ q∈o.rd,Sub (nth vs' q) (nth vs q)):Fact P N W0 ops o oo vs' l sv:=
 λρ W a hR hla hd=>h ρ W a hR (by omega) λq hm=>(hq q hm).of ρ _ (hd q hm)
theorem put_len {q:Nat}{x:SV}:(put vs q x).length=vs.length:=by rw[qes];simp
theorem qip {d:Option Nat}{x:SV}:(putO vs d x).length=vs.length:=by cases d<;>simp [putO,put_len]
theorem qzalc {q r:Nat}{x:SV}(h:r≠q):nth (put vs q x) r=nth vs r:=by
 rw[qfy,qfy,qes,List.getD_eq_getElem?_getD,List.getD_eq_getElem?_getD,List.getElem?_set_ne (Ne.symm h)]
theorem qzarn {q:Nat}{x:SV}:nth (put vs q x) q=x∨nth (put vs q x) q=.any:=by
 rw[qfy,qes,List.getD_eq_getElem?_getD];by_cases h:q<vs.length
 ·rw[List.getElem?_set_self h];exact .inl rfl
 ·right
  rw[List.getElem?_eq_none (by simp;omega)];rfl
theorem qzarm {q:Nat}{x:SV}(h:nth vs q≠.any):nth (put vs q x) q=x:=by
 rw[qfy,qes,List.getD_eq_getElem?_getD];have h':q<vs.length:=by
  rcases Nat.lt_or_ge q vs.length with h1|h1
  ·exact h1
  ·rw[qfy,List.getD_eq_getElem?_getD,List.getElem?_eq_none h1] at h;exact absurd rfl h
 rw[List.getElem?_set_self h'];rfl
theorem quq {d:Option Nat}{r:Nat}{x:SV}(h:d≠some r):nth (putO vs d x) r=nth vs r:=by
 cases d with
 | none=>rfl
 | some q=>exact qzalc λe=>h (by rw[e])
theorem sub_putO {d:Option Nat}{x:SV}:∀ q,d=some q->Sub x (nth (putO vs d x) q):=by
 rintro q rfl;simp only[putO];rcases qzarn (vs:=vs) (q:=q) (x:=x) with h|h<;>rw[h]
 ·exact .rfl
 ·exact qlm
def Eqv (x y:SV):Prop:=Sub x y/\Sub y x
theorem Eqv.rfl' {x:SV}:Eqv x x:=⟨.rfl,.rfl⟩
theorem head_cases {R:List SV->List Blk->Prop}{i:Nat}{fl:List Nat}{r:List (Nat×List Nat)}{o:AO}{oo:Oper}(hc:convAO P ops oo=some o) (ho:geta aos i=some o)
  (h:vdr (S0 P) aos R ((i,fl)::r) vs l):∃ vs1,vs1.length=vs.length/\(∀ q,Eqv (nth vs q) (nth vs1 q)) /\
   ((Wants ops o oo vs1 true/\vop (S0 P) o.op vs1 l λv l'=>stab (S0 P) aos fl (putO vs1 o.dst v) l' λ_=>vdr (S0 P) aos R r (putO vs1 o.dst v) l') ∨
    (Wants ops o oo vs1 false/\stab (S0 P) aos fl (putO vs1 o.dst .un) l λ_=>vdr (S0 P) aos R r (putO vs1 o.dst .un) l)):=by
 simp only[vdr,ho] at h;cases hg:o.g with
 | none=>
  rw[hg] at h;exact⟨vs,rfl,λ_=>.rfl',.inl ⟨qzaks hc hg,h⟩⟩
 | some sw=>
  obtain⟨s,want⟩:=sw;rw[hg] at h;simp only at h;have two:∀ b:Bool,(nth vs s=ofB b∨nth vs s=.b b) ->
    (b=true->if want then vop (S0 P) o.op (put vs s .tt) l (λv l'=>stab (S0 P) aos fl (putO (put vs s .tt) o.dst v) l' λ_=>vdr (S0 P) aos R r (putO (put vs s .tt) o.dst v) l')
      else stab (S0 P) aos fl (putO (put vs s .tt) o.dst .un) l λ_=>vdr (S0 P) aos R r (putO (put vs s .tt) o.dst .un) l) ->
    (b=false->if want then stab (S0 P) aos fl (putO (put vs s .ff) o.dst .un) l (λ_=>vdr (S0 P) aos R r (putO (put vs s .ff) o.dst .un) l)
      else vop (S0 P) o.op (put vs s .ff) l λv l'=>stab (S0 P) aos fl (putO (put vs s .ff) o.dst v) l' λ_=>vdr (S0 P) aos R r (putO (put vs s .ff) o.dst v) l') ->
    ∃ vs1,vs1.length=vs.length/\(∀ q,Eqv (nth vs q) (nth vs1 q)) /\
     ((Wants ops o oo vs1 true/\vop (S0 P) o.op vs1 l λv l'=>stab (S0 P) aos fl (putO vs1 o.dst v) l' λ_=>vdr (S0 P) aos R r (putO vs1 o.dst v) l') ∨
      (Wants ops o oo vs1 false/\stab (S0 P) aos fl (putO vs1 o.dst .un) l λ_=>vdr (S0 P) aos R r (putO vs1 o.dst .un) l)):=by
   intro b hb h1 h2;have hne:nth vs s≠.any:=by
    rcases hb with hb|hb<;>rw[hb]<;>cases b<;>simp [ofB]
   have hs:nth (put vs s (ofB b)) s=ofB b:=qzarm hne;have he:∀ q,Eqv (nth vs q) (nth (put vs s (ofB b)) q):=by
    intro q;by_cases hq:q=s
    ·subst hq
     rw[hs];rcases hb with hb|hb<;>rw[hb]
     ·exact .rfl'
     ·cases b
      ·exact⟨⟨λ_ _ d=>by simpa [den,ofB] using d⟩,⟨λ_ _ d=>by simpa [den,ofB] using d⟩⟩
      ·exact⟨⟨λ_ _ d=>by simpa [den,ofB] using d⟩,⟨λ_ _ d=>by simpa [den,ofB] using d⟩⟩
    ·rw[qzalc hq];exact .rfl'
   have hw:=qmf (vs:=put vs s (ofB b)) hc hg hs;refine⟨put vs s (ofB b),put_len,he,?_⟩;cases b<;>cases want
   ·exact .inl ⟨hw,by simpa [ofB] using h2 rfl⟩
   ·exact .inr ⟨hw,by simpa [ofB] using h2 rfl⟩
   ·exact .inr ⟨hw,by simpa [ofB] using h1 rfl⟩
   ·exact .inl ⟨hw,by simpa [ofB] using h1 rfl⟩
  split at h
  ·rename_i hs
   exact⟨vs,rfl,λ_=>.rfl',.inr ⟨wants_un hc hg hs,h⟩⟩
  ·cases hx:nth vs s<;>rw[hx] at h<;>simp only[brv] at h
   ·exact two true (.inl hx) (λ_=>h) (λe=>by cases e)
   ·exact two false (.inl hx) (λe=>by cases e) (λ_=>h)
   ·rename_i b
    exact two b (.inr hx) h.1 h.2
theorem qzaqs {X:Unit->Prop}:∀ (fl:List Nat),(∀ j∈fl,∀ o,geta aos j=some o->o.op.reads=true)->stab (S0 P) aos fl vs l X ->
  X ()/\∀ j∈fl,∀ o,geta aos j=some o->∀ oo,convAO P ops oo=some o->∃ sv,Fact P N W0 ops o oo vs l sv/\∀ d,o.dst=some d->Sub sv (nth vs d)
 | [],_,h=>⟨h,λj hj=>by cases hj⟩
 | j::fl,hf,h=>by
  simp only[stab] at h;cases ho:geta aos j with
  | none=>rw[ho] at h;exact h.elim
  | some o=>
   rw[ho] at h;simp only at h;have hrd:=hf j (by simp) o ho;have main:stab (S0 P) aos fl vs l X/\∀ oo,convAO P ops oo=some o->∃ sv,Fact P N W0 ops o oo vs l sv/\∀ d,o.dst=some d->Sub sv (nth vs d):=by
    unfold chkF at h;have isub:∀ {v:SV},isO vs o.dst v->∀ d,o.dst=some d->Sub v (nth vs d):=by
     intro v hv d hd;rw[hd] at hv;simp only[isO] at hv;rw[hv];exact .rfl
    split at h
    ·rename_i hg
     obtain⟨v,⟨h1,h2⟩,h3⟩:=qwq hrd h;exact⟨h2,λoo hc=>⟨v,qsd hc (qzaks hc hg) h3,isub h1⟩⟩
    ·rename_i s want hg
     split at h
     ·rename_i hs
      obtain⟨v,⟨h1,h2⟩,h3⟩:=qwq hrd h;exact⟨h2,λoo hc=>⟨v,qsd hc (qmf (b:=true) hc hg hs) h3,isub h1⟩⟩
     ·rename_i hs
      obtain⟨v,⟨h1,h2⟩,h3⟩:=qwq hrd h;exact⟨h2,λoo hc=>⟨v,qsd hc (qmf (b:=false) hc hg hs) h3,isub h1⟩⟩
     ·rename_i hs
      exact⟨h.2,λoo hc=>⟨.un,qrf (qmf (b:=true) hc hg hs),isub h.1⟩⟩
     ·rename_i hs
      exact⟨h.2,λoo hc=>⟨.un,qrf (qmf (b:=false) hc hg hs),isub h.1⟩⟩
     ·rename_i hs
      exact⟨h.2,λoo hc=>⟨.un,qrf (wants_un hc hg hs),isub h.1⟩⟩
     ·exact h.elim
   obtain⟨h1,h2⟩:=qzaqs (X:=X) fl (λk hk=>hf k (List.mem_cons_of_mem _ hk)) main.1;refine⟨h1,λk hk p hp=>?_⟩;rcases List.mem_cons.1 hk with rfl|hk
   ·rw[ho] at hp;cases hp;exact main.2
   ·exact h2 k hk p hp
theorem qkz {B:Nat->Nat->Bool}:∀ (r:List (Nat×List Nat)) (prev:List Nat),okFrom aos B prev r=true->(∀ k∈r,k.1∉prev)/\(r.map (·.1)).Nodup
 | [],_,_=>⟨λk hk=>(by cases hk),by simp⟩
 | (i,fl)::r,prev,h=>by
  simp only[okFrom,Bool.and_eq_true] at h;obtain⟨h1,h2⟩:=h;obtain⟨h3,h4⟩:=qkz r _ h2;have hi:i∉prev:=by
   split at h1
   ·cases h1
   ·simp only[Bool.and_eq_true,Bool.not_eq_true'] at h1
    intro hm
    have:=qry.2 hm
    rw[h1.1.1] at this;cases this
  refine⟨λk hk=>?_,?_⟩
  ·rcases List.mem_cons.1 hk with rfl|hk
   ·exact hi
   ·exact λhm=>h3 k hk (List.mem_cons_of_mem _ hm)
  ·simp only[List.map_cons,List.nodup_cons]
   refine⟨λhm=>?_,h4⟩;obtain⟨k,hk,e⟩:=List.mem_map.1 hm;exact h3 k hk (by rw[e];simp)
structure DI (P:Program) (N:Nat->Prop) (W0:World) (ops:Array Oper) (aos:List AO) (pre:List (List Nat)) (E:List (Nat×Nat)) (prev pend:List Nat) (rem:List (Nat×List Nat)) (L:Array Bool)
  (ρ:Nms) (vs:List SV) (l:List Blk) (a:Act) (W:World):Prop where
 rel:Rel P N W0 ρ l W
 len:vs.length<=a.tmps.size
 env:∀ q,(∀ i∈pend,∀ o,geta aos i=some o->o.dst≠some q)->den ρ (nth vs q) (a.tmps.getD q undef)
 ok:okFrom aos (befE (cloGo pre []) E) prev rem=true
 sub:∀ i∈pend,i∈prev
 nd:pend.Nodup
 size:L.size=ops.size
 bound:∀ i,(i∈pend∨i∈rem.map (·.1))->i<ops.size
 un:∀ i,i<ops.size->(L.getD i false=true↔¬ (i∈pend∨i∈rem.map (·.1)))
 closed:∀ j,L.getD j false=true->∀ p,pre[j]?=some p->∀ q∈p,L.getD q false=true
 closedE:∀ j,L.getD j false=true->∀ k∈E,k.2=j->L.getD k.1 false=true
 pair:∀ i∈pend,∀ j∈pend,∀ o p,geta aos i=some o->geta aos j=some p->∀ d,p.dst=some d->(d∈o.rd->i≠j/\befE (cloGo pre []) E j i=true)/\(o.dst=some d->i=j)
 fact:∀ i∈pend,∃ o oo sv,geta aos i=some o/\ops[i]?=some oo/\convAO P ops oo=some o/\(∀ d,o.dst=some d->Sub sv (nth vs d))/\Fact P N W0 ops o oo vs l sv /\
  (o.op.pure=true->∀ l2,Fact P N W0 ops o oo vs l2 sv)
theorem mapM_at {α β:Type}{f:α->Option β}:∀ {l:List α}{m:List β},l.mapM f=some m->∀ (i:Nat) (y:β),m[i]?=some y->∃ x,l[i]?=some x/\f x=some y
 | [],m,h,i,y,hy=>by simp at h;subst h;simp at hy
 | x::l,m,h,i,y,hy=>by
  simp only[List.mapM_cons,Option.bind_eq_bind,Option.bind_eq_some_iff,Option.pure_def,Option.some.injEq] at h;obtain⟨z,hz,ys,hys,rfl⟩:=h;cases i with
  | zero=>simp only[List.getElem?_cons_zero,Option.some.injEq] at hy;subst hy;exact⟨x,by simp,hz⟩
  | succ i=>simp only[List.getElem?_cons_succ] at hy ⊢;exact mapM_at hys i y hy
theorem qzt {L:Array Bool}{i:Nat}(hpre:preds ops.toList=pre) (h:i∈Region.ready .any ops L):
  L.getD i true=false/\(∃ oo,ops[i]?=some oo)/\∀ p,pre[i]?=some p->∀ q∈p,L.getD q false=true:=by
 obtain⟨h0,oo,ho,h1⟩:=mem_ready.1 h;refine⟨h0,⟨oo,ho⟩,λp hp q hq=>?_⟩;rw[<-hpre] at hp;simp only[preds,List.getElem?_map,Array.getElem?_toList,ho,Option.map_some,Option.some.injEq] at hp;subst hp;simp only[List.mem_map,List.mem_filter,Array.mem_toList_iff] at hq;obtain⟨e,⟨he,hb⟩,rfl⟩:=hq;exact h1 e he hb
theorem ready_ne {L:Array Bool}(hpre:preds ops.toList=pre) (hlt:preLt 0 pre=true) (hs:L.size=ops.size) {i:Nat}(hi:i<ops.size) (hu:L.getD i false=false):Region.ready .any ops L≠[]:=by
 induction i using Nat.strongRecOn with
 | ind i ih=>
  by_cases hall:∃ q,q<i/\L.getD q false=false
  ·obtain⟨q,hq,hf⟩:=hall
   exact ih q hq (by omega) hf
  ·have hq:∀ q,q<i->L.getD q false=true:=by
    intro q hq;cases hb:L.getD q false with
    | true=>rfl
    | false=>exact absurd ⟨q,hq,hb⟩ hall
   refine List.ne_nil_of_mem (a:=i) (mem_ready.2 ⟨?_,ops[i],Array.getElem?_eq_getElem hi,λe he hb=>?_⟩)
   ·have:i<L.size:=by omega
    simpa [this] using hu
   ·have hp:pre[i]?=some ((ops[i].after.toList.filter (Region.binds .any)).map (·.on)):=by
     rw[<-hpre];simp [preds,hi]
    have:=qzaky pre 0 hlt i _ hp e.on (List.mem_map.2 ⟨e,List.mem_filter.2 ⟨by simpa using he,hb⟩,rfl⟩)
    exact hq e.on (by omega)
theorem qrs {L:Array Bool}{i j:Nat}(hi:i<L.size):(L.setIfInBounds i true).getD j false=if j=i then true else L.getD j false:=by
 by_cases h:j=i
 ·subst h;simp [hi]
 ·rw[if_neg h,getD_set_ne false (Ne.symm h)]
theorem put_getD {a:Act}{d:Option Nat}{v:Value}{q:Nat}(hq:d≠some q):(a.put d v).tmps.getD q undef=a.tmps.getD q undef:=by
 cases d with
 | none=>rfl
 | some d=>
  have:d≠q:=λe=>hq (by rw[e])
  simp [Act.put,Array.getElem?_setIfInBounds_ne this]
theorem qws {a:Act}{d:Nat}{v:Value}(h:d<a.tmps.size):(a.put (some d) v).tmps.getD d undef=v:=by
 simp [Act.put,h]
theorem put_size {a:Act}{d:Option Nat}{v:Value}:(a.put d v).tmps.size=a.tmps.size:=by cases d<;>simp [Act.put]
theorem hasN_false {l:List Nat}{n:Nat}(h:hasN l n=false):n∉l:=λhm=>by rw[qry.2 hm] at h;cases h
theorem qzaqm {o p:AO}:takes o p=true↔∃ d,p.dst=some d/\d∈o.rd:=by
 unfold takes;cases hp:p.dst with
 | none=>simp
 | some d=>simp [qry]
theorem qyv {o p:AO}:clash o p=true↔∃ d,o.dst=some d/\(d∈p.rd∨p.dst=some d):=by
 unfold clash;cases ho:o.dst with
 | none=>simp
 | some d=>
  cases hp:p.dst with
  | none=>simp [qry]
  | some d'=>
   simp only[Bool.or_eq_true,qry,Nat.beq_eq,Option.some.injEq];constructor
   ·rintro (h|h)
    ·exact⟨d,rfl,.inl h⟩
    ·exact⟨d,rfl,.inr h.symm⟩
   ·rintro ⟨_,rfl,h|h⟩
    ·exact .inl h
    ·exact .inr h.symm
theorem draw_main {R:List SV->List Blk->Prop}{m:Nat}{mk:List Nat}{ρ0:Nms}{E:List (Nat×Nat)}(haos:ops.toList.mapM (convAO P ops)=some aos) (hpre:preds ops.toList=pre) (hlt:preLt 0 pre=true):
  ∀ (fuel:Nat) (rem:List (Nat×List Nat)) (prev pend:List Nat) (L:Array Bool) (vs:List SV) (l:List Blk) (ρ:Nms) (a:Act) (W:World),pend.length+rem.length=fuel ->
   DI P N W0 ops aos pre E prev pend rem L ρ vs l a W->vdr (S0 P) aos R rem vs l->Le m ρ0 ρ->m<=l.length->MkOk ρ mk a.defers ->
   RgA P ops E (RgPost P N W0 m ρ0 mk R) fuel L a W:=by
 have geto:∀ i o,geta aos i=some o->∃ oo,ops[i]?=some oo/\convAO P ops oo=some o:=by
  intro i o ho;rw[geta_eq] at ho;obtain⟨x,hx,hc⟩:=mapM_at haos i o ho;exact⟨x,by simpa using hx,hc⟩
 intro fuel
 induction fuel with
 | zero=>
  intro rem prev pend L vs l ρ a W hf hD hv hle hm hM;obtain rfl:pend=[]:=List.length_eq_zero_iff.1 (by omega);obtain rfl:rem=[]:=List.length_eq_zero_iff.1 (by omega);simp only[vdr] at hv;simp only[RgA];refine⟨ρ,vs,l,hv,hle,hm,hD.rel,?_,hM⟩;intro q x hx;have hq:q<vs.length:=(List.getElem?_eq_some_iff.1 hx).1
  have:=hD.env q (λi hi=>by cases hi)
  rw[qfy,List.getD_eq_getElem?_getD,hx] at this;have hl:=hD.len;exact⟨a.tmps[q],Array.getElem?_eq_getElem (by omega),by simpa [show q<a.tmps.size by omega] using this⟩
 | succ fuel ihf=>
  have pendstep:∀ (rem:List (Nat×List Nat)) (prev pend:List Nat) (L:Array Bool) (vs:List SV) (l:List Blk) (ρ:Nms) (a:Act) (W:World),pend.length+rem.length=fuel+1 ->
    DI P N W0 ops aos pre E prev pend rem L ρ vs l a W->vdr (S0 P) aos R rem vs l->Le m ρ0 ρ->m<=l.length->MkOk ρ mk a.defers ->
    ∀ i∈Region.ready .any ops L,(∀ k∈E,k.2=i->L.getD k.1 false=true)->i∈pend->∀ oo,ops[i]?=some oo ->
     if Region.wanted oo (yielded ops a.tmps) then OpRuns P oo a W (λv w'=>RgA P ops E (RgPost P N W0 m ρ0 mk R) fuel (L.setIfInBounds i true) (a.put oo.dst v) w')
     else RgA P ops E (RgPost P N W0 m ρ0 mk R) fuel (L.setIfInBounds i true) (a.put oo.dst undef) W:=by
   intro rem prev pend L vs l ρ a W hf hD hv hle hm hM i hr hrE hi oo hoo;obtain⟨hu,_,hpr⟩:=qzt hpre hr;obtain⟨o,oo',sv,ho,hoo',hc,hsub,hfact,hpure⟩:=hD.fact i hi;rw[hoo] at hoo';cases hoo';have hdst:=(qzawj hc).2;have hilt:i<L.size:=by rw[hD.size];exact hD.bound i (.inl hi)
   have hnot:¬ L.getD i false=true:=by
    have:=hD.un i (by rw[<-hD.size];exact hilt)
    rw[this];simp [hi]
   have hsays:Says o vs a.tmps ρ:=by
    intro q hq;refine hD.env q λj hj p hp hd=>?_;obtain⟨h1,_⟩:=hD.pair i hi j hj o p ho hp q hd;obtain⟨hne,hb⟩:=h1 hq;have hDj:L.getD j false=true:=qou (D:=λj=>L.getD j false=true) hD.closed E hD.closedE i hpr hrE hb;exact ((hD.un j (hD.bound j (.inl hj))).1 hDj) (.inl hj)
   have hfac:=hfact ρ W a hD.rel hD.len hsays;have next:∀ (ρ':Nms) (W':World) (v:Value),Le l.length ρ ρ'->Rel P N W0 ρ' l W'->den ρ' sv v ->
     RgA P ops E (RgPost P N W0 m ρ0 mk R) fuel (L.setIfInBounds i true) (a.put oo.dst v) W':=by
    intro ρ' W' v hle' hR' hdv;have hlen:(pend.erase i).length+rem.length=fuel:=by
     rw[List.length_erase_of_mem hi]
     have:=List.length_pos_of_mem hi
     omega
    have hmem:∀ j,j∈pend.erase i↔j≠i/\j∈pend:=λj=>hD.nd.mem_erase_iff;have hirem:i∉rem.map (·.1):=by
     intro hmm;obtain⟨k,hk,e⟩:=List.mem_map.1 hmm;exact (qkz rem prev hD.ok).1 k hk (by rw[e];exact hD.sub i hi)
    refine ihf rem prev (pend.erase i) _ vs l ρ' _ W' hlen ⟨hR',by rw[put_size];exact hD.len,?_,hD.ok,?_,hD.nd.erase i,by simpa using hD.size,?_,?_,?_,?_,?_,?_⟩ hv
     (hle.trans (hle'.mono (by omega))) hm (by rw[qru];exact MkOk.le hle' hD.rel.out _ _ hM)
    ·intro q hq
     by_cases hdq:o.dst=some q
     ·rw[<-hdst,hdq]
      by_cases hlt:q<a.tmps.size
      ·rw[qws hlt];exact (hsub q hdq).of ρ' v hdv
      ·have:nth vs q=.any:=by
        rw[qfy,List.getD_eq_getElem?_getD,List.getElem?_eq_none (by have:=hD.len;omega)];rfl
       rw[this];simp only[den]
     ·rw[put_getD (by rw[<-hdst];exact hdq)]
      refine qfr hle' hD.rel.out _ _ (hD.env q λj hj p hp hd=>?_);by_cases hji:j=i
      ·subst hji;rw[ho] at hp;cases hp;exact hdq hd
      ·exact hq j ((hmem j).2 ⟨hji,hj⟩) p hp hd
    ·exact λj hj=>hD.sub j ((hmem j).1 hj).2
    ·rintro j (hj|hj)
     ·exact hD.bound j (.inl ((hmem j).1 hj).2)
     ·exact hD.bound j (.inr hj)
    ·intro j hj
     rw[qrs hilt];by_cases hji:j=i
     ·subst hji
      simp only[if_true,true_iff,not_or];exact⟨λh=>((hmem j).1 h).1 rfl,hirem⟩
     ·rw[if_neg hji,hD.un j hj]
      simp only[hmem j,not_or];exact⟨λ⟨h1,h2⟩=>⟨λh=>h1 h.2,h2⟩,λ⟨h1,h2⟩=>⟨λh=>h1 ⟨hji,h⟩,h2⟩⟩
    ·intro j hj p hp q hq
     rw[qrs hilt] at hj ⊢;by_cases hqi:q=i
     ·rw[if_pos hqi]
     ·rw[if_neg hqi]
      by_cases hji:j=i
      ·subst hji;exact hpr p hp q hq
      ·rw[if_neg hji] at hj;exact hD.closed j hj p hp q hq
    ·intro j hj k hk e
     rw[qrs hilt] at hj ⊢;by_cases hqi:k.1=i
     ·rw[if_pos hqi]
     ·rw[if_neg hqi]
      by_cases hji:j=i
      ·subst hji;exact hrE k hk e
      ·rw[if_neg hji] at hj;exact hD.closedE j hj k hk e
    ·intro j hj k hk
     exact hD.pair j ((hmem j).1 hj).2 k ((hmem k).1 hk).2
    ·intro j hj
     exact hD.fact j ((hmem j).1 hj).2
   split
   ·rename_i hw
    rw[if_pos hw] at hfac;exact hfac.mono λv W' ⟨ρ',h1,h2,h3⟩=>next ρ' W' v h1 h2 h3
   ·rename_i hw
    rw[if_neg hw] at hfac;subst hfac;exact next ρ W undef (Le.refl _ _) hD.rel (by simp [den])
  intro rem
  induction rem with
  | nil=>
   intro prev pend L vs l ρ a W hf hD hv hle hm hM;simp only[RgA];refine⟨λhr=>?_,λi hr hrE oo hoo=>?_⟩
   ·cases pend with
    | nil=>simp at hf
    | cons i pend=>
     have hi:=hD.bound i (.inl (by simp));have hu:=(hD.un i hi);refine absurd hr (ready_ne hpre hlt hD.size hi ?_);cases hb:L.getD i false with
     | false=>rfl
     | true=>exact absurd (.inl (by simp)) (hu.1 hb)
   ·obtain⟨hu,_,_⟩:=qzt hpre hr
    have hi:i<ops.size:=(Array.getElem?_eq_some_iff.1 hoo).1;have hnl:¬ L.getD i false=true:=by
     have:i<L.size:=by rw[hD.size];exact hi
     intro h;simp [this] at hu h;rw[hu] at h;cases h
    have hin:i∈pend:=by
     rw[hD.un i hi] at hnl;simpa using hnl
    exact pendstep [] prev pend L vs l ρ a W hf hD hv hle hm hM i hr hrE hin oo hoo
  | cons h r ihr=>
   obtain⟨h,fl⟩:=h;intro prev pend L vs l ρ a W hf hD hv hle hm hM;have hok:=hD.ok;simp only[okFrom,Bool.and_eq_true] at hok;obtain⟨hok1,hok2⟩:=hok;cases ho:geta aos h with
   | none=>rw[ho] at hok1;cases hok1
   | some o=>
   rw[ho] at hok1;simp only[Bool.and_eq_true,Bool.not_eq_true'] at hok1;obtain⟨⟨hnp,htk⟩,hok3⟩:=hok1;have hnp:=hasN_false hnp;rw[List.all_eq_true] at htk;obtain⟨oo,hoo,hc⟩:=geto h o ho;have hdst:=(qzawj hc).2;obtain⟨hni,hnd⟩:=qkz _ _ hD.ok;simp only[List.map_cons,List.nodup_cons] at hnd;have htakes:∀ j∈pend,∀ p,geta aos j=some p->∀ d,p.dst=some d->d∈o.rd->befE (cloGo pre []) E j h=true:=by
    intro j hj p hp d hd hrd
    have:=htk j (hD.sub j hj)
    rw[hp] at this;simp only[Bool.or_eq_true,Bool.not_eq_true'] at this;rcases this with h1|h1
    ·rw[qzaqm.2 ⟨d,hd,hrd⟩] at h1;cases h1
    ·exact h1
   obtain⟨vs1,hl1,heq,hcases⟩:=head_cases hc ho hv;by_cases hlight:settles aos prev o=true
   ·
    rw[if_pos hlight] at hok3;have hfl:fl=[]:=List.isEmpty_iff.1 hok3;subst hfl;simp only[settles,Bool.and_eq_true,Bool.not_eq_true',List.all_eq_true] at hlight;obtain⟨⟨hli,hself⟩,hcl⟩:=hlight;have hself':∀ d,o.dst=some d->d∉o.rd:=λd hd hm=>by rw[qzaqm.2 ⟨d,hd,hm⟩] at hself;cases hself
    have hcl':∀ j∈pend,∀ p,geta aos j=some p->∀ d,o.dst=some d->d∉p.rd/\p.dst≠some d:=by
     intro j hj p hp d hd
     have:=hcl j (hD.sub j hj)
     rw[hp] at this;simp only[Bool.not_eq_true'] at this;refine⟨λh=>?_,λh=>?_⟩
     ·rw[qyv.2 ⟨d,hd,.inl h⟩] at this;cases this
     ·rw[qyv.2 ⟨d,hd,.inr h⟩] at this;cases this
    have settled:∃ sv,vdr (S0 P) aos R r (putO vs1 o.dst sv) l/\Fact P N W0 ops o oo vs1 l sv/\(o.op.pure=true->∀ l2,Fact P N W0 ops o oo vs1 l2 sv):=by
     rcases hcases with ⟨hw,h1⟩|⟨hw,h1⟩
     ·by_cases hp:o.op.pure=true
      ·obtain⟨sv,h2,h3⟩:=pure_det hp h1
       exact⟨sv,h2,qsd hc hw λJ hj=>h3 l J hj,λ_ l2=>qsd hc hw λJ hj=>h3 l2 J hj⟩
      ·have hrd:o.op.reads=true:=by simpa [light,hp] using hli
       obtain⟨sv,h2,h3⟩:=qwq hrd h1;exact⟨sv,h2,qsd hc hw h3,λh=>absurd h hp⟩
     ·exact⟨.un,h1,qrf hw,λ_ l2=>qrf hw⟩
    obtain⟨sv,hv',hfa,hfp⟩:=settled;have hsubq:∀ q,o.dst≠some q->Sub (nth (putO vs1 o.dst sv) q) (nth vs q)/\Sub (nth vs q) (nth (putO vs1 o.dst sv) q):=by
     intro q hq;rw[quq hq];exact⟨(heq q).2,(heq q).1⟩
    have hself2:∀ q∈o.rd,Sub (nth (putO vs1 o.dst sv) q) (nth vs1 q):=by
     intro q hq;rw[quq (λe=>hself' q e hq)];exact .rfl
    refine ihr (h::prev) (h::pend) L (putO vs1 o.dst sv) l ρ a W (by simp at hf ⊢;omega) ⟨hD.rel,by rw[qip,hl1];exact hD.len,?_,hok2,?_,?_,hD.size,?_,?_,hD.closed,hD.closedE,?_,?_⟩ hv' hle hm hM
    ·intro q hq
     have hdq:=hq h (by simp) o ho;exact (hsubq q hdq).2.of ρ _ (hD.env q λi hi p hp=>hq i (List.mem_cons_of_mem _ hi) p hp)
    ·intro i hi
     rcases List.mem_cons.1 hi with rfl|hi
     ·simp
     ·exact List.mem_cons_of_mem _ (hD.sub i hi)
    ·exact List.nodup_cons.2 ⟨λhm=>hnp (hD.sub h hm),hD.nd⟩
    ·intro i hi
     apply hD.bound;rcases hi with hi|hi
     ·rcases List.mem_cons.1 hi with rfl|hi
      ·exact .inr (by simp)
      ·exact .inl hi
     ·exact .inr (by simp only[List.map_cons];exact List.mem_cons_of_mem _ hi)
    ·intro i hi
     rw[hD.un i hi];simp only[List.map_cons,List.mem_cons];constructor
     ·intro hh;exact λhx=>hh (by rcases hx with (rfl|hx)|hx<;>simp_all)
     ·intro hh;exact λhx=>hh (by rcases hx with hx|rfl|hx<;>simp_all)
    ·intro i hi j hj p p' hp hp' d hd
     rcases List.mem_cons.1 hi with rfl|hi2
     ·rw[ho] at hp;cases hp
      rcases List.mem_cons.1 hj with rfl|hj
      ·rw[ho] at hp';cases hp'
       exact⟨λh=>absurd h (hself' d hd),λ_=>rfl⟩
      ·refine⟨λhrd=>⟨λe=>hnp (by rw[e];exact hD.sub j hj),htakes j hj p' hp' d hd hrd⟩,λhdd=>absurd hd (hcl' j hj p' hp' d hdd).2⟩
     ·rcases List.mem_cons.1 hj with rfl|hj
      ·rw[ho] at hp';cases hp'
       obtain⟨h1,h2⟩:=hcl' i hi2 p hp d hd;exact⟨λh=>absurd h h1,λh=>absurd h h2⟩
      ·exact hD.pair i hi2 j hj p p' hp hp' d hd
    ·intro i hi
     rcases List.mem_cons.1 hi with rfl|hi
     ·refine⟨o,oo,sv,ho,hoo,hc,sub_putO,hfa.congr qip hself2,λhp l2=>(hfp hp l2).congr qip hself2⟩
     ·obtain⟨p,pp,sv',hp,hpp,hcp,hs,hf1,hf2⟩:=hD.fact i hi
      have hq:∀ q∈p.rd,Sub (nth (putO vs1 o.dst sv) q) (nth vs q):=λq hq=>(hsubq q (λe=>(hcl' i hi p hp q e).1 hq)).1;refine⟨p,pp,sv',hp,hpp,hcp,λd hd=>⟨λρ v hdv=>?_⟩,hf1.congr (by rw[qip,hl1]) hq,λhpu l2=>(hf2 hpu l2).congr (by rw[qip,hl1]) hq⟩;exact (hsubq d (λe=>(hcl' i hi p hp d e).2 hd)).2.of ρ v ((hs d hd).of ρ v hdv)
   ·
    rw[if_neg hlight] at hok3;simp only[Bool.and_eq_true,List.all_eq_true] at hok3;obtain⟨⟨hflr,hall⟩,hprev⟩:=hok3;simp only[RgA];refine⟨λhr=>?_,λi hr hrE oo' hoo'=>?_⟩
    ·have hi:=hD.bound h (.inr (by simp))
     refine absurd hr (ready_ne hpre hlt hD.size hi ?_);cases hb:L.getD h false with
     | false=>rfl
     | true=>exact absurd (.inr (by simp)) ((hD.un h hi).1 hb)
    ·obtain⟨hu,_,hpr⟩:=qzt hpre hr
     have hi:i<ops.size:=(Array.getElem?_eq_some_iff.1 hoo').1;have hilt:i<L.size:=by rw[hD.size];exact hi
     have hnl:¬ L.getD i false=true:=by
      intro h;simp [hilt] at hu h;rw[hu] at h;cases h
     have hin:i∈pend∨i∈((h,fl)::r).map (·.1):=by
      rw[hD.un i hi] at hnl;exact Decidable.not_not.1 hnl
     rcases hin with hin|hin
     ·exact pendstep _ prev pend L vs l ρ a W hf hD hv hle hm hM i hr hrE hin oo' hoo'
     ·
      have hih:i=h:=by
       simp only[List.map_cons,List.mem_cons] at hin;rcases hin with e|hin
       ·exact e
       ·obtain⟨k,hk,rfl⟩:=List.mem_map.1 hin
        have hb:=hall k hk;have hDh:=qou (D:=λj=>L.getD j false=true) hD.closed E hD.closedE k.1 hpr hrE hb;exact absurd (.inr (by simp)) ((hD.un h (hD.bound h (.inr (by simp)))).1 hDh)
      subst hih;rw[hoo] at hoo';cases hoo';have hnb:∀ j∈pend,befE (cloGo pre []) E j i=false:=by
       intro j hj;cases hb:befE (cloGo pre []) E j i with
       | false=>rfl
       | true=>
        have hDj:=qou (D:=λj=>L.getD j false=true) hD.closed E hD.closedE i hpr hrE hb;exact absurd (.inl hj) ((hD.un j (hD.bound j (.inl hj))).1 hDj)
      have hpv:∀ j∈pend,∀ p,geta aos j=some p->clash o p=false/\(p.op.pure=true∨(p.op.reads=true/\j∈fl)):=by
       intro j hj p hp
       have:=hprev j (hD.sub j hj)
       rw[hp] at this;simp only[hnb j hj,Bool.or_false,Bool.false_or,Bool.and_eq_true,Bool.not_eq_true',Bool.or_eq_true] at this;exact⟨this.1,this.2.imp id λh=>⟨h.1,qry.1 h.2⟩⟩
      have hcl':∀ j∈pend,∀ p,geta aos j=some p->∀ d,o.dst=some d->d∉p.rd/\p.dst≠some d:=by
       intro j hj p hp d hd
       have:=(hpv j hj p hp).1
       refine⟨λh=>?_,λh=>?_⟩
       ·rw[qyv.2 ⟨d,hd,.inl h⟩] at this;cases this
       ·rw[qyv.2 ⟨d,hd,.inr h⟩] at this;cases this
      have hsays1:Says o vs1 a.tmps ρ:=by
       intro q hq;refine (heq q).1.of ρ _ (hD.env q λj hj p hp hd=>?_)
       have:=htakes j hj p hp q hd hq
       rw[hnb j hj] at this;cases this
      have hflr':∀ j∈fl,∀ p,geta aos j=some p->p.op.reads=true:=by
       intro j hj p hp
       have:=hflr j hj
       rw[hp] at this;exact this
      have next:∀ (sv:SV) (l':List Blk) (ρ':Nms) (W':World) (v:Value),stab (S0 P) aos fl (putO vs1 o.dst sv) l' (λ_=>vdr (S0 P) aos R r (putO vs1 o.dst sv) l') ->
        Le l.length ρ ρ'->l.length<=l'.length->Rel P N W0 ρ' l' W'->den ρ' sv v ->
        (l'=l∨True)->RgA P ops E (RgPost P N W0 m ρ0 mk R) fuel (L.setIfInBounds i true) (a.put oo.dst v) W':=by
       intro sv l' ρ' W' v hst hle' hll hR' hdv _;obtain⟨hv',hfs⟩:=qzaqs (N:=N) (W0:=W0) (ops:=ops) fl hflr' hst;have hsubq:∀ q,o.dst≠some q->Sub (nth (putO vs1 o.dst sv) q) (nth vs q)/\Sub (nth vs q) (nth (putO vs1 o.dst sv) q):=by
        intro q hq;rw[quq hq];exact⟨(heq q).2,(heq q).1⟩
       refine ihf r (i::prev) pend _ (putO vs1 o.dst sv) l' ρ' _ W' (by simp at hf;omega) ⟨hR',by rw[qip,hl1,put_size];exact hD.len,?_,hok2,?_,hD.nd,by simpa using hD.size,?_,?_,?_,?_,hD.pair,?_⟩ hv'
        (hle.trans (hle'.mono (by omega))) (by omega) (by rw[qru];exact MkOk.le hle' hD.rel.out _ _ hM)
       ·intro q hq
        by_cases hdq:o.dst=some q
        ·rw[<-hdst,hdq]
         by_cases hlt:q<a.tmps.size
         ·rw[qws hlt];exact (sub_putO q rfl).of ρ' v hdv
         ·have:nth (putO vs1 (some q) sv) q=.any:=by
           rw[qfy,List.getD_eq_getElem?_getD,List.getElem?_eq_none (by rw[qip,hl1];have:=hD.len;omega)];rfl
          rw[this];simp only[den]
        ·rw[put_getD (by rw[<-hdst];exact hdq)]
         exact (hsubq q hdq).2.of ρ' _ (qfr hle' hD.rel.out _ _ (hD.env q hq))
       ·exact λj hj=>List.mem_cons_of_mem _ (hD.sub j hj)
       ·rintro j (hj|hj)
        ·exact hD.bound j (.inl hj)
        ·exact hD.bound j (.inr (by simp only[List.map_cons];exact List.mem_cons_of_mem _ hj))
       ·intro j hj
        rw[qrs hilt];by_cases hji:j=i
        ·subst hji
         simp only[if_true,true_iff,not_or];exact⟨λh=>hnp (hD.sub j h),hnd.1⟩
        ·rw[if_neg hji,hD.un j hj]
         simp only[List.map_cons,List.mem_cons,not_or];exact⟨λ⟨h1,h2⟩=>⟨h1,h2.2⟩,λ⟨h1,h2⟩=>⟨h1,hji,h2⟩⟩
       ·intro j hj p hp q hq
        rw[qrs hilt] at hj ⊢;by_cases hqi:q=i
        ·rw[if_pos hqi]
        ·rw[if_neg hqi]
         by_cases hji:j=i
         ·subst hji;exact hpr p hp q hq
         ·rw[if_neg hji] at hj;exact hD.closed j hj p hp q hq
       ·intro j hj k hk e
        rw[qrs hilt] at hj ⊢;by_cases hqi:k.1=i
        ·rw[if_pos hqi]
        ·rw[if_neg hqi]
         by_cases hji:j=i
         ·subst hji;exact hrE k hk e
         ·rw[if_neg hji] at hj;exact hD.closedE j hj k hk e
       ·intro j hj
        obtain⟨p,pp,sv',hp,hpp,hcp,hs,hf1,hf2⟩:=hD.fact j hj;obtain⟨_,hpu⟩:=hpv j hj p hp;by_cases hpure:p.op.pure=true
        ·have hq:∀ q∈p.rd,Sub (nth (putO vs1 o.dst sv) q) (nth vs q):=λq hq=>(hsubq q (λe=>(hcl' j hj p hp q e).1 hq)).1
         refine⟨p,pp,sv',hp,hpp,hcp,λd hd=>⟨λρ v hdv=>?_⟩,(hf2 hpure l').congr (by rw[qip,hl1]) hq,λhpu l2=>(hf2 hpu l2).congr (by rw[qip,hl1]) hq⟩;exact (hsubq d (λe=>(hcl' j hj p hp d e).2 hd)).2.of ρ v ((hs d hd).of ρ v hdv)
        ·have hjf:=(hpu.resolve_left hpure).2
         obtain⟨sv2,hf3,hs3⟩:=hfs j hjf p hp pp hcp;exact⟨p,pp,sv2,hp,hpp,hcp,hs3,hf3,λh=>absurd h hpure⟩
      rcases hcases with ⟨hw,h1⟩|⟨hw,h1⟩
      ·rw[if_pos (hw _ _ hsays1)]
       refine (op_runs hc h1 hD.rel (by rw[hl1];exact hD.len) hsays1).mono ?_;rintro v W' ⟨ρ',sv,l',hst,h2,h3,h4,h5⟩;exact next sv l' ρ' W' v hst h2 h3 h4 h5 (.inr trivial)
      ·rw[if_neg (by rw[hw _ _ hsays1];simp)]
       exact next .un l ρ W undef h1 (Le.refl _ _) (Nat.le_refl _) hD.rel (by simp [den]) (.inl rfl)
theorem draw_one {cx:Cx}{e:Env}{K:Env->List Blk->Prop}{E:List (Nat×Nat)}(ord:List (Nat×List Nat)) (hok:drawOkE aos pre E ord=true)
  (h:vdr (S0 P) aos (λvs' l'=>K ⟨vs',e.mks⟩ l') ord e.vs l) (haos:ops.toList.mapM (convAO P ops)=some aos) (hpre:preds ops.toList=pre) {a:Act}{W:World}(hs:St P N W0 ρ e l a W) (hml:cx.m<=l.length) (t:Nat)
  (hE:Resp E (Array.replicate ops.size false) (Region.linearise.go .any ops ops.size t (Array.replicate ops.size false) [])):
  Rg P ops (λa' W'=>RgPost P N W0 cx.m ρ e.mks (λvs' l'=>K ⟨vs',e.mks⟩ l') a' W') (Region.linearise.go .any ops ops.size t (Array.replicate ops.size false) []) a { W with drawn:=W.drawn+1 }:=by
 simp only[drawOkE,Bool.and_eq_true,decide_eq_true_eq,List.all_eq_true] at hok;obtain⟨⟨⟨⟨hlt,hlen⟩,hbd⟩,hfull⟩,hof⟩:=hok;have hsz:aos.length=ops.size:=by simpa using qur haos
 obtain⟨hn1,hn2⟩:=qkz _ _ hof;have hrg:=draw_main (E:=E) (m:=cx.m) (R:=λvs' l'=>K ⟨vs',e.mks⟩ l') (mk:=e.mks) (ρ0:=ρ) (N:=N) (W0:=W0) haos hpre hlt ops.size ord [] [] (Array.replicate ops.size false) e.vs l ρ a { W with drawn:=W.drawn+1 } (by simp;omega)
  ⟨hs.rel.drew,?_,λq _=>env_nth hs.env q,hof,(λi hi=>by cases hi),List.nodup_nil,by simp,?_,?_,?_,?_,(λi hi=>by cases hi),(λi hi=>by cases hi)⟩ h (Le.refl _ _) hml hs.mks
 ·exact rga_sound ops.size t _ _ _ hrg hE
 ·rcases Nat.eq_zero_or_pos e.vs.length with h0|h0
  ·omega
  ·obtain⟨v,hv,_⟩:=hs.env (e.vs.length-1) _ (List.getElem?_eq_getElem (by omega))
   have:=(Array.getElem?_eq_some_iff.1 hv).1
   omega
 ·rintro i (hi|hi)
  ·cases hi
  ·obtain⟨k,hk,rfl⟩:=List.mem_map.1 hi
   have:=hbd k hk;omega
 ·intro i hi
  simp only[Array.getD_eq_getD_getElem?,Array.getElem?_replicate,hi,if_true,Option.getD_some];simp only[Bool.false_eq_true,List.not_mem_nil,false_or,false_iff,Decidable.not_not]
  have:=hfull i (List.mem_range.2 (by omega))
  rw[List.any_eq_true] at this;obtain⟨k,hk,e⟩:=this;exact List.mem_map.2 ⟨k,hk,(Nat.beq_eq▸e)⟩
 ·intro j hj
  exfalso;by_cases hj':j<ops.size
  ·simp [hj'] at hj
  ·simp [hj'] at hj
 ·intro j hj
  exfalso;by_cases hj':j<ops.size
  ·simp [hj'] at hj
  ·simp [hj'] at hj
theorem qnt {S:Sy}{cx:Cx}{e:Env}{K:Env->List Blk->Prop}(hS:S0 P=S) (hm:P.follows .mixedOrders=true) (T:Spl) (hok:okT aos pre [] T=true)
  (h:vdrT S aos (λvs' l'=>K ⟨vs',e.mks⟩ l') T e.vs l):S.drw cx aos pre e l K:=by
 subst hS;intro ops haos hpre id N W0 ρ rr a W hs hr hml;refine qzaiw λt=>?_;simp only[Region.schedule,hm,Bool.true_or,if_true];have main:∀ (T:Spl) (E:List (Nat×Nat)),okT aos pre E T=true->vdrT (S0 P) aos (λvs' l'=>K ⟨vs',e.mks⟩ l') T e.vs l->Resp E (Array.replicate ops.size false) (Region.linearise.go .any ops ops.size t (Array.replicate ops.size false) []) ->
   Rg P ops (λa' W'=>RgPost P N W0 cx.m ρ e.mks (λvs' l'=>K ⟨vs',e.mks⟩ l') a' W') (Region.linearise.go .any ops ops.size t (Array.replicate ops.size false) []) a { W with drawn:=W.drawn+1 }:=by
  intro T
  induction T with
  | leaf ord=>exact λE hok h hE=>draw_one ord hok h haos hpre hs hml t hE
  | node x y A B iha ihb=>
   intro E hok h hE;simp only[okT,Bool.and_eq_true,Bool.not_eq_true'] at hok;have hxy:x≠y:=λe=>by rw[e] at hok;simp at hok
   rcases qzaqg hxy (Region.linearise.go .any ops ops.size t (Array.replicate ops.size false) []) with h1|h1
   ·exact iha _ hok.1.2 h.1 λk hk=>by
     rcases List.mem_cons.1 hk with rfl|hk
     ·exact .inr h1
     ·exact hE k hk
   ·exact ihb _ hok.2 h.2 λk hk=>by
     rcases List.mem_cons.1 hk with rfl|hk
     ·exact .inr h1
     ·exact hE k hk
 refine Rg.mono ?_ _ _ _ (main T [] hok h λk hk=>by cases hk);rintro a' W' ⟨ρ',vs',l',hK,h1,h2,h3,h4,h5⟩;exact⟨ρ',⟨vs',e.mks⟩,l',hK,h1,h2,h3,h4,h5⟩
theorem qag {S:Sy}{cx:Cx}{e:Env}{K:Env->List Blk->Prop}(hS:S0 P=S) (hm:P.follows .mixedOrders=true) (ord:List (Nat×List Nat)) (hok:drawOk aos pre ord=true)
  (h:vdr S aos (λvs' l'=>K ⟨vs',e.mks⟩ l') ord e.vs l):S.drw cx aos pre e l K:=qnt hS hm (.leaf ord) hok h
end
end Cz
