/- What the claims of this group lean on: E5. No condition. -/
import Derived.Test.YtfijlhdheiebcaaGreatDoorKB11
set_option linter.unusedSimpArgs false
set_option linter.unusedVariables false
namespace Cz
open Go Go.RowKit
inductive MapFz (l':List Blk) (g:Nat->Nat) (ks:List (Option Nat)):List (SV×SV)->List (SV×SV)->Prop where
 | nil:MapFz l' g ks [] []
 | cons {k k' v v':SV}{r r':List (SV×SV)}(hk:Fz l' g ks k k') (hv:Fz l' g ks v v') (h:MapFz l' g ks r r'):MapFz l' g ks ((k,v)::r) ((k',v')::r')
inductive BlkFz (l':List Blk) (g:Nat->Nat) (ks:List (Option Nat)):Blk->Blk->Prop where
 | c {cs ds:List SV}(h:FzL l' g ks cs ds):BlkFz l' g ks (.c cs) (.c ds)
 | r {lit lit':Bool}{st st':Z}{sz:Nat}{F F':List SV}(h:FSub F F') (hp:plains F'=true) (hs:st.v=st'.v):BlkFz l' g ks (.r false lit st sz F) (.r false lit' st' sz F')
 | m {es es':List (SV×SV)}(h:MapFz l' g ks es es'):BlkFz l' g ks (.m es) (.m es')
 | dead {B:Blk}:BlkFz l' g ks B .dead
def BlksFz (l':List Blk) (g:Nat->Nat) (ks:List (Option Nat)):List (Option Nat)->List Blk->Prop
 | [],[]=>True
 | some k::r,C::Cs=>(∃ B,l'[k]?=some B/\B.wr=true/\BlkFz l' g ks B C)/\kpOf r k=none/\BlksFz l' g ks r Cs
 | none::r,C::Cs=>(∃ lit st sz,0<sz/\C=.r false lit st sz [])/\BlksFz l' g ks r Cs
 | _,_=>False
theorem BlksFz.len {l':List Blk}{g:Nat->Nat}{ks:List (Option Nat)}:∀ {r:List (Option Nat)}{Cs:List Blk},BlksFz l' g ks r Cs->r.length=Cs.length
 | [],[],_=>rfl
 | [],_::_,h=>h.elim
 | some _::_,[],h=>h.elim
 | none::_,[],h=>h.elim
 | some _::r,_::Cs,h=>by simp [BlksFz.len h.2.2]
 | none::r,_::Cs,h=>by simp [BlksFz.len h.2]
theorem BlksFz.at {l':List Blk}{g:Nat->Nat}{ks:List (Option Nat)}:∀ {r:List (Option Nat)}{Cs:List Blk},BlksFz l' g ks r Cs->∀ (i:Nat) (C:Blk),Cs[i]?=some C ->
  (∃ k B,r[i]?=some (some k)/\l'[k]?=some B/\B.wr=true/\BlkFz l' g ks B C)∨(r[i]?=some none/\∃ lit st sz,0<sz/\C=.r false lit st sz [])
 | [],[],_,i,C,h=>by simp at h
 | [],_::_,h,_,_,_=>h.elim
 | some _::_,[],h,_,_,_=>h.elim
 | none::_,[],h,_,_,_=>h.elim
 | some k::r,D::Cs,h,i,C,hC=>by
  cases i with
  | zero=>
   simp only[List.getElem?_cons_zero,Option.some.injEq] at hC;subst hC;obtain⟨B,h1,h2,h3⟩:=h.1;exact .inl ⟨k,B,by simp,h1,h2,h3⟩
  | succ i=>simpa using BlksFz.at h.2.2 i C (by simpa using hC)
 | none::r,D::Cs,h,i,C,hC=>by
  cases i with
  | zero=>simp only[List.getElem?_cons_zero,Option.some.injEq] at hC;subst hC;exact .inr ⟨by simp,h.1⟩
  | succ i=>simpa using BlksFz.at h.2 i C (by simpa using hC)
theorem BlksFz.inj {l':List Blk}{g:Nat->Nat}{ks:List (Option Nat)}:∀ {r:List (Option Nat)}{Cs:List Blk},BlksFz l' g ks r Cs->∀ (i i' k:Nat),r[i]?=some (some k)->r[i']?=some (some k)->i=i'
 | [],[],_,i,_,_,h,_=>by simp at h
 | [],_::_,h,_,_,_,_,_=>h.elim
 | some _::_,[],h,_,_,_,_,_=>h.elim
 | none::_,[],h,_,_,_,_,_=>h.elim
 | some k::r,_::Cs,h,i,i',k',hi,hi'=>by
  cases i with
  | zero=>
   simp only[List.getElem?_cons_zero,Option.some.injEq] at hi;subst hi;cases i' with
   | zero=>rfl
   | succ i'=>exact absurd (by simpa using hi') (qea h.2.1 i')
  | succ i=>
   cases i' with
   | zero=>
    simp only[List.getElem?_cons_zero,Option.some.injEq] at hi';subst hi';exact absurd (by simpa using hi) (qea h.2.1 i)
   | succ i'=>exact congrArg _ (BlksFz.inj h.2.2 i i' k' (by simpa using hi) (by simpa using hi'))
 | none::r,_::Cs,h,i,i',k',hi,hi'=>by
  cases i with
  | zero=>simp at hi
  | succ i=>
   cases i' with
   | zero=>simp at hi'
   | succ i'=>exact congrArg _ (BlksFz.inj h.2 i i' k' (by simpa using hi) (by simpa using hi'))
def PostB (n0:Nat) (bs:(Nat->Int)->(Nat->Nat)->List Blk) (y:(Nat->Nat)->SV) (x:SV) (l':List Blk):Prop:=
 ∃ (ks:List (Option Nat)) (sts:Nat->Int),(∀ i,i<n0->ks[i]?=some (some i))/\∀ g,BlksFz l' g ks ks (bs sts g)/\Fz l' g ks x (y g)
inductive BUp (n0:Nat) (f:Nat->Nat):Blk->Blk->Prop where
 | c {cs cs0:List SV}(h:SubL cs (renL f cs0)) (hr:refsBL (λk=>decide (k<n0)) cs0=true):BUp n0 f (.c cs) (.c cs0)
 | r {lit lit0:Bool}{st st0:Z}{sz:Nat}{F F0:List SV}(h:FSub F F0) (hp:plains F0=true) (hs:st.v=st0.v):BUp n0 f (.r false lit st sz F) (.r false lit0 st0 sz F0)
 | m {es:List (SV×SV)}(h:norefM es=true):BUp n0 f (.m es) (.m es)
def BsUp (n0:Nat) (l:List Blk) (f:Nat->Nat):Nat->List Blk->Prop
 | _,[]=>True
 | i,B0::r=>BUp n0 f (lget l (f i)) B0/\BsUp n0 l f (i+1) r
theorem BsUp.at {n0:Nat}{l:List Blk}{f:Nat->Nat}:∀ {l0:List Blk}{i:Nat},BsUp n0 l f i l0->∀ j B0,l0[j]?=some B0->∃ B,l[f (i+j)]?=some B/\BUp n0 f B B0
 | [],_,_,j,B0,h=>by simp at h
 | C::r,i,hs,0,B0,h=>by
  simp only[List.getElem?_cons_zero,Option.some.injEq] at h;subst h;refine⟨_,qas rfl ?_,hs.1⟩;intro e
  have:=hs.1
  rw[Nat.add_zero] at e;rw[e] at this;cases this
 | C::r,i,hs,j+1,B0,h=>by
  have:=BsUp.at hs.2 j B0 (by simpa using h)
  rw[show i+(j+1)=i+1+j by omega];exact this
def lays (f:Nat->Nat):Nat->Nat->List Blk->List Blk->List Blk
 | 0,_,Cs,l=>snocs l Cs
 | _+1,_,[],l=>l
 | n+1,i,C::Cs,l=>lays f n (i+1) Cs (lset l (f i) C)
def gOf (n0:Nat) (f:Nat->Nat) (m:Nat) (i:Nat):Nat:=match Nat.blt i n0 with|true=>f i|false=>m+(i-n0)
theorem qzanq {f:Nat->Nat}:∀ {n i:Nat}{Cs l:List Blk},n<=Cs.length->(lays f n i Cs l).length=l.length+(Cs.length-n)
 | 0,_,Cs,l,_=>by rw[lays,qno];simp
 | n+1,_,[],l,h=>by simp at h
 | n+1,i,C::Cs,l,h=>by
  simp only[List.length_cons] at h;rw[lays,qzanq (by omega),qbj];simp
theorem lays_at {f:Nat->Nat}:∀ {n i:Nat}{Cs l:List Blk}{k:Nat}{B:Blk},n<=Cs.length->(∀ j,j<n->f (i+j)<l.length)->(∀ j j',j<n->j'<n->f (i+j)=f (i+j')->j=j')->(lays f n i Cs l)[k]?=some B ->
  (k<l.length/\(∀ j,j<n->f (i+j)≠k)/\l[k]?=some B)∨(∃ j,j<n/\k=f (i+j)/\Cs[j]?=some B)∨(∃ q,k=l.length+q/\Cs[n+q]?=some B)
 | 0,i,Cs,l,k,B,_,_,_,h=>by
  rw[lays,qno] at h;rcases Nat.lt_or_ge k l.length with hk|hk
  ·rw[List.getElem?_append_left hk] at h
   exact .inl ⟨hk,λj hj=>by omega,h⟩
  ·rw[List.getElem?_append_right hk] at h
   exact .inr (.inr ⟨k-l.length,by omega,by simpa using h⟩)
 | n+1,_,[],l,k,B,h,_,_,_=>by simp at h
 | n+1,i,C::Cs,l,k,B,hn,hf,hinj,h=>by
  simp only[List.length_cons] at hn;rw[lays] at h;have hlen:(lset l (f i) C).length=l.length:=by rw[qbj];simp
  rcases lays_at (n:=n) (i:=i+1) (Cs:=Cs) (by omega) (λj hj=>by rw[hlen,show i+1+j=i+(j+1) by omega];exact hf (j+1) (by omega))
   (λj j' hj hj' e=>by
    have:=hinj (j+1) (j'+1) (by omega) (by omega) (by rw[show i+(j+1)=i+1+j by omega,show i+(j'+1)=i+1+j' by omega];exact e)
    omega) h with ⟨h1,h2,h3⟩|⟨j,h1,h2,h3⟩|⟨q,h1,h2⟩
  ·rw[hlen] at h1
   rw[qbj] at h3;by_cases hk:k=f i
   ·subst hk
    rw[List.getElem?_set_self h1] at h3;simp only[Option.some.injEq] at h3;subst h3;exact .inr (.inl ⟨0,by omega,by simp,by simp⟩)
   ·rw[List.getElem?_set_ne (Ne.symm hk)] at h3
    refine .inl ⟨h1,λj hj=>?_,h3⟩;cases j with
    | zero=>simpa using Ne.symm hk
    | succ j=>rw[show i+(j+1)=i+1+j by omega];exact h2 j (by omega)
  ·exact .inr (.inl ⟨j+1,by omega,by rw[h2];congr 1;omega,by simpa using h3⟩)
  ·rw[hlen] at h1
   exact .inr (.inr ⟨q,h1,by rw[show n+1+q=n+q+1 by omega];simpa using h2⟩)
theorem blt_t {i n:Nat}(h:i<n):Nat.blt i n=true:=by simpa using h
theorem blt_f {i n : Nat} (h : n ≤ i) : Nat.blt i n = false := by
  cases hb : Nat.blt i n with
  | false => rfl
  | true => have : i < n := by simpa using hb
            omega
section
variable {P:Program}{l:List Blk}
section
variable {N:Nat->Prop}{W0 W:World}{ρ ρz:Nms}{l':List Blk}{g:Nat->Nat}{ks:List (Option Nat)}
theorem map_fz (hall:∀ {x y:SV},Fz l' g ks x y->∀ v,den ρ x v->den ρz y v):∀ {es es':List (SV×SV)}{ms:List MapEntry},MapFz l' g ks es es'->MapRel ρ es ms->MapRel ρz es' ms
 | _,_,[],.nil,h=>h
 | _,_,_::_,.nil,h=>h.elim
 | _,_,[],.cons _ _ _,h=>h.elim
 | _,_,e::ms,.cons hk hv hs,h=>⟨hall hk _ h.1,hall hv _ h.2.1,map_fz hall hs h.2.2⟩
end
open Classical in
/-- A function over memory that the caller has, used. -/
theorem call_box {g:FuncId}{args0:List SV}{l0:List Blk}{bs:(Nat->Int)->(Nat->Nat)->List Blk}{y:(Nat->Nat)->SV}{K:SV->List Blk->Prop}(f:Nat->Nat) (hF:(S0 P).call g args0 l0 (PostB l0.length bs y))
  (hinj:∀ i j,i<l0.length->j<l0.length->f i=f j->i=j) (hl:BsUp l0.length l f 0 l0) (hr:refsBL (λk=>decide (k<l0.length)) args0=true)
  (hK:∀ sts,l0.length<=(bs sts (gOf l0.length f l.length)).length->K (y (gOf l0.length f l.length)) (lays f l0.length 0 (bs sts (gOf l0.length f l.length)) l)):(S0 P).call g (renL f args0) l K:=by
 intro N W0 ρ W vals hR hd;have hup:∀ j B0,l0[j]?=some B0->∃ B,l[f j]?=some B/\BUp l0.length f B B0:=λj B0 h=>by have:=hl.at j B0 h;rwa[Nat.zero_add] at this
 have hfl:∀ j,j<l0.length->f j<l.length:=λj hj=>by
  obtain⟨B,h1,_⟩:=hup j _ (List.getElem?_eq_getElem hj);exact (List.getElem?_eq_some_iff.1 h1).1
 have hwr:∀ {B B0:Blk},BUp l0.length f B B0->B.wr=true:=λh=>by cases h<;>rfl
 let mine:Nat->Prop:=λb=>∃ (j:Nat) (vw:View) (a:Addr),j<l0.length/\vw∈ρ (f j)/\vw.base=some a/\a.block=b
 let Q:Nat->Prop:=λb=>W.heap.size<=b∨mine b
 have hQN:∀ b,Q b->N b:=by
  rintro b (h|⟨j,vw,a,hj,hv,ha,rfl⟩)
  ·exact hR.hN b h
  ·obtain⟨B,h1,h2⟩:=hup j _ (List.getElem?_eq_getElem hj)
   exact hR.own _ B vw a h1 (hwr h2) hv ha
 let ρ0:Nms:=⟨λj=>if j<l0.length then ρ (f j) else [],ρ.fz,Q⟩
 have hρ0:∀ j,j<l0.length->ρ0 j=ρ (f j):=λj hj=>by simp [ρ0,hj]
 have hz0:FzLe ρ ρ0:=λ_ _ _ h=>h;have hden0:∀ (xs:List SV) (vs:List Value),refsBL (λk=>decide (k<l0.length)) xs=true->denL ρ (renL f xs) vs->denL ρ0 xs vs:=λxs vs h d=>
  qgh (ok:=λk=>decide (k<l0.length)) (ρ:=ρ) (f:=f) hz0 (λk hk vw hv=>by rw[hρ0 k (by simpa using hk)];exact hv) xs vs h d
 have hR0:Rel P Q W ρ0 l0 W:=by
  refine⟨⟨rfl,rfl,rfl,Nat.le_refl _,λ_ _=>rfl⟩,λ_ h=>.inl h,λk hk=>by simp [ρ0];omega,?_,?_,?_,?_,rfl,hR.fin,?_⟩
  ·intro k vw a hv ha
   by_cases hk:k<l0.length
   ·rw[hρ0 k hk] at hv;exact hR.ids _ vw a hv ha
   ·simp [ρ0,hk] at hv
  ·intro k B0 hB
   have hk:k<l0.length:=(List.getElem?_eq_some_iff.1 hB).1;obtain⟨B,h1,h2⟩:=hup k B0 hB;have hblk:=hR.blk _ B h1;have hmine:∀ vw∈ρ (f k),∀ a,vw.base=some a->Q a.block:=λvw hv a ha=>.inr ⟨k,vw,a,hk,hv,ha,rfl⟩;cases h2 with
   | @c cs cs0 h hrf=>
    obtain⟨b,e,hv,ho⟩:=hblk;have hl1:=h.fsub.1;have hl2:(renL f cs0).length=cs0.length:=by
     have:∀ xs:List SV,(renL f xs).length=xs.length:=by intro xs;induction xs with
      | nil=>rfl
      | cons x xs ih=>simp [renL,ih]
     exact this cs0
    have hlen:cs.length=cs0.length:=by omega
    rw[hlen] at e hv ho;refine⟨b,(hρ0 k hk).trans e,⟨Nat.le_refl _,(λh=>by simp at h),λq x hq hx=>?_⟩,λa ha=>?_⟩
    ·have hx2:(renL f cs0)[q]?=some (ren f x):=by rw[renL_get,hx];rfl
     obtain⟨x',hx',hd'⟩:=h.fsub.2 q _ hx2;obtain⟨a,v,e1,e2,e3⟩:=hv.2.2 q x' hq hx';have d1:den ρ (ren f x) v:=hd' _ _ e3;have d2:=hden0 [x] [v] (by simp only[refsBL,Bool.and_true];exact qml hrf q x hx) (by simp only[renL,denL];exact⟨d1,trivial⟩);exact⟨a,v,e1,e2,qzaow d2⟩
    ·obtain⟨g1,g2⟩:=ho a ha
     exact⟨hmine _ (by rw[e];simp) a ha,g2⟩
   | @r lit lit0 st st0 sz F F0 h hp hs=>
    obtain⟨g0,hv,_,ho⟩:=hblk;refine⟨g0,λvw hm=>?_,λ_ x hx=>qbw hp x hx,λ_=>?_⟩
    ·rw[hρ0 k hk] at hm
     exact (h.view (hv vw hm)).plain ρ0 hz0 hp
    ·obtain⟨cur,hc,hn,g1,g2,g3⟩:=ho rfl
     rw[hρ0 k hk,<-hs,<-h.1];refine⟨cur,hc,hn,λvw hm a ha=>?_,g2,g3⟩;obtain⟨_,g5⟩:=g1 vw hm a ha;exact⟨hmine vw hm a ha,g5⟩
   | @m es h=>
    obtain⟨b,es',clock,⟨e1,hN'⟩,hh,hm,hbo⟩:=hblk;exact⟨b,es',clock,⟨(hρ0 k hk).trans e1,hmine ⟨some ⟨b,0,none⟩,0,0⟩ (by rw[e1];simp) _ rfl⟩,hh,hm.noref ρ0 hz0 h,hbo⟩
  ·intro k k' B0 vw vw' a a' hB hw hne hv hv' ha ha'
   have hk:k<l0.length:=(List.getElem?_eq_some_iff.1 hB).1;rw[hρ0 k hk] at hv;by_cases hk':k'<l0.length
   ·rw[hρ0 k' hk'] at hv'
    obtain⟨B,h1,h2⟩:=hup k B0 hB;exact hR.sep _ _ B vw vw' a a' h1 (hwr h2) (λe=>hne (hinj k k' hk hk' e)) hv hv' ha ha'
   ·simp [ρ0,hk'] at hv'
  ·intro k B0 vw a hB hw hv ha
   have hk:k<l0.length:=(List.getElem?_eq_some_iff.1 hB).1;rw[hρ0 k hk] at hv;exact .inr ⟨k,vw,a,hk,hv,ha,rfl⟩
  ·intro k B0 vw a hB hw hv ha
   have hk:k<l0.length:=(List.getElem?_eq_some_iff.1 hB).1;rw[hρ0 k hk] at hv;obtain⟨B,h1,h2⟩:=hup k B0 hB;exact hR.fsep _ B vw a h1 (hwr h2) hv ha
 refine NextR.mono ?_ (hF _ _ _ _ _ hR0 (hden0 _ _ hr hd));rintro v W' ⟨ρ',x,l',⟨ks,sts,hfirst,hpost⟩,hle,hll,hR',hdv⟩;obtain⟨hblks,hfz⟩:=hpost (gOf l0.length f l.length);have hKl:=hblks.len;have hn0:l0.length<=ks.length:=by
  rcases Nat.lt_or_ge ks.length l0.length with h|h
  ·have:=hfirst ks.length h
   rw[List.getElem?_eq_none (Nat.le_refl _)] at this;cases this
  ·exact h
 have hKK:=hK sts (by omega);generalize bs sts (gOf l0.length f l.length)=Cs at hblks hKl hKK;have hsz:=hR'.below.size
 let kept:Nat->Prop:=λb=>∃ (i j:Nat) (vw:View) (a:Addr),ks[i]?=some (some j)/\vw∈ρ' j/\vw.base=some a/\a.block=b
 let fz2:Nat->Nat->Option Value:=λb o=>if W.heap.size<=b/\¬ kept b then W'.cell? ⟨b,o,none⟩ else ρ'.fz b o
 let ρ2:Nms:=⟨λk=>if k<l.length then (if h:∃ j,j<l0.length/\f j=k then ρ' h.choose else ρ k) else match ks[l0.length+(k-l.length)]? with
  | some (some j)=>ρ' j
  | some none=>[⟨none,0,0⟩]
  | none=>[],fz2,ρ.q⟩
 have hold:∀ k,k<l.length->(∀ j,j<l0.length->f j≠k)->ρ2 k=ρ k:=λk hk hno=>by
  simp only[ρ2];rw[if_pos hk,dif_neg (λ⟨j,h1,h2⟩=>hno j h1 h2)]
 have hmy:∀ j,j<l0.length->ρ2 (f j)=ρ' j:=λj hj=>by
  have hex:∃ j',j'<l0.length/\f j'=f j:=⟨j,hj,rfl⟩;simp only[ρ2];rw[if_pos (hfl j hj),dif_pos hex];rw[hinj _ _ hex.choose_spec.1 hj hex.choose_spec.2]
 have hnew:∀ (q j:Nat),ks[l0.length+q]?=some (some j)->ρ2 (l.length+q)=ρ' j:=λq j hij=>by
  simp only[ρ2];rw[if_neg (by omega)];simp [hij]
 have hnil:∀ (q:Nat),ks[l0.length+q]?=some none->ρ2 (l.length+q)=[⟨none,0,0⟩]:=λq hij=>by
  simp only[ρ2];rw[if_neg (by omega)];simp [hij]
 have hcase:∀ k,(k<l.length/\(∀ j,j<l0.length->f j≠k))∨(∃ i j,ks[i]?=some (some j)/\k=gOf l0.length f l.length i/\ρ2 k=ρ' j)∨(ρ2 k=[⟨none,0,0⟩])∨ρ2 k=[]:=by
  intro k;by_cases hk:k<l.length
  ·by_cases hj:∃ j,j<l0.length/\f j=k
   ·obtain⟨j,h1,rfl⟩:=hj
    refine .inr (.inl ⟨j,j,hfirst j h1,?_,hmy j h1⟩);unfold gOf;rw[blt_t h1]
   ·exact .inl ⟨hk,λj h1 h2=>hj ⟨j,h1,h2⟩⟩
  ·cases hq:ks[l0.length+(k-l.length)]? with
   | none=>exact .inr (.inr (.inr (by simp [ρ2,hk,hq])))
   | some o=>cases o with
    | none=>exact .inr (.inr (.inl (by simp [ρ2,hk,hq])))
    | some j=>
     refine .inr (.inl ⟨_,j,hq,?_,by simp [ρ2,hk,hq]⟩);unfold gOf;rw[blt_f (by omega)];simp only;omega
 have hsub0:∀ j,j<l0.length->∀ vw∈ρ (f j),vw∈ρ' j:=λj hj vw hv=>hle.nm j hj vw (by rw[hρ0 j hj];exact hv);have hz2:FzLe ρ' ρ2:=by
  intro b o u hu;show fz2 b o=some u;simp only[fz2];split
  ·exact hR'.fin b o u hu
  ·exact hu
 have hleρ:Le l.length ρ ρ2:=by
  refine⟨λk hk vw hv=>?_,λb o u e=>hz2 b o u (hle.fz b o u e),λb o u e=>?_,rfl⟩
  ·by_cases hj:∃ j,j<l0.length/\f j=k
   ·obtain⟨j,h1,rfl⟩:=hj
    rw[hmy j h1];exact hsub0 j h1 vw hv
   ·rw[hold k hk λj h1 h2=>hj ⟨j,h1,h2⟩];exact hv
  ·have e':fz2 b o=some u:=e
   simp only[fz2] at e';split at e'
   ·rename_i hb;exact .inr (by rw[hR.qN];exact hR.hN b hb.1)
   ·exact (hle.fq b o u e').imp id λh=>by rw[hR.qN];exact hQN b h
 have hsepk:∀ (k:Nat) (B:Blk) (vw:View) (a:Addr),l'[k]?=some B->B.wr=true->kpOf ks k=none->vw∈ρ' k->vw.base=some a->W.heap.size<=a.block/\¬ kept a.block:=by
  intro k B vw a hB hw hk hv ha;refine⟨?_,?_⟩
  ·rcases hR'.own k B vw a hB hw hv ha with h|⟨j,vw',a',hj,hv',ha',hb⟩
   ·exact h
   ·have hne:k≠j:=λe=>qea hk j (e▸hfirst j hj)
    exact absurd hb.symm (hR'.sep k j B vw vw' a a' hB hw hne hv (hsub0 j hj vw' hv') ha ha')
  ·rintro ⟨i,j,vw',a',hij,hv',ha',hb⟩
   have hne:k≠j:=λe=>qea hk i (e▸hij);exact hR'.sep k j B vw vw' a a' hB hw hne hv hv' ha ha' hb.symm
 have hall:∀ {x y:SV},Fz l' (gOf l0.length f l.length) ks x y->∀ v,den ρ' x v->den ρ2 y v:=by
  intro x y h v d;refine fz_den (ρz:=ρ2) (g:=gOf l0.length f l.length) (ks:=ks) hR' hz2 ?_ (λi k hk vw hv=>?_) (λi hk=>?_) h v d
  ·intro k lit st sz F vw a hB hk hv ha o u hu
   show fz2 a.block o=some u;simp only[fz2];rw[if_pos (hsepk k _ vw a hB rfl hk hv ha)];exact hu
  ·unfold gOf
   by_cases hi:i<l0.length
   ·rw[blt_t hi]
    have:=hfirst i hi
    rw[hk] at this;simp only[Option.some.injEq] at this;subst this;rw[hmy k hi];exact hv
   ·rw[blt_f (by omega)]
    simp only;rw[hnew (i-l0.length) k (by rw[<-hk];congr 1;omega)];exact hv
  ·unfold gOf
   by_cases hi:i<l0.length
   ·have:=hfirst i hi
    rw[hk] at this;cases this
   ·rw[blt_f (by omega)]
    simp only;rw[hnil (i-l0.length) (by rw[<-hk];congr 1;omega)];simp
 have hnotmine:∀ k B vw a,k<l.length->(∀ j,j<l0.length->f j≠k)->l[k]?=some B->B.wr=true->vw∈ρ k->vw.base=some a->¬ Q a.block:=by
  rintro k B vw a hk hno hB hw hv ha (h|⟨j,vw',a',hj,hv',ha',hb⟩)
  ·have:=hR.ids k vw a hv ha;omega
  ·exact hR.sep k (f j) B vw vw' a a' hB hw (λe=>hno j hj e.symm) hv hv' ha ha' hb.symm
 have hnotmine':∀ k B vw a,k<l.length->(∀ j,j<l0.length->f j≠k)->l[k]?=some B->vw∈ρ k->vw.base=some a->¬ Q a.block:=by
  rintro k B vw a hk hno hB hv ha (h|⟨j,vw',a',hj,hv',ha',hb⟩)
  ·have:=hR.ids k vw a hv ha;omega
  ·obtain⟨B2,h1,h2⟩:=hup j _ (List.getElem?_eq_getElem hj)
   exact hR.sep (f j) k B2 vw' vw a' a h1 (hwr h2) (λe=>hno j hj e) hv' hv ha' ha hb
 have hat:∀ {k:Nat}{B:Blk},(lays f l0.length 0 Cs l)[k]?=some B->(k<l.length/\(∀ j,j<l0.length->f j≠k)/\l[k]?=some B)∨(∃ i,Cs[i]?=some B/\k=gOf l0.length f l.length i):=by
  intro k B h;rcases lays_at (by omega) (λj hj=>by rw[Nat.zero_add];exact hfl j hj) (λj j' hj hj' e=>by rw[Nat.zero_add,Nat.zero_add] at e;exact hinj j j' hj hj' e) h with ⟨h1,h2,h3⟩|⟨j,h1,h2,h3⟩|⟨q,h1,h2⟩
  ·exact .inl ⟨h1,λj hj=>by have:=h2 j hj;rwa[Nat.zero_add] at this,h3⟩
  ·refine .inr ⟨j,h3,?_⟩
   unfold gOf;rw[blt_t h1,h2,Nat.zero_add]
  ·refine .inr ⟨l0.length+q,h2,?_⟩
   unfold gOf;rw[blt_f (by omega)];simp only;omega
 have hname:∀ {i j:Nat},ks[i]?=some (some j)->ρ2 (gOf l0.length f l.length i)=ρ' j:=by
  intro i j hij;unfold gOf;by_cases hi:i<l0.length
  ·rw[blt_t hi]
   have:=hfirst i hi
   rw[hij] at this;simp only[Option.some.injEq] at this;subst this;exact hmy j hi
  ·rw[blt_f (by omega)]
   exact hnew (i-l0.length) j (by rw[<-hij];congr 1;omega)
 have hname0:∀ {i:Nat},ks[i]?=some none->ρ2 (gOf l0.length f l.length i)=[⟨none,0,0⟩]:=by
  intro i hij;unfold gOf;by_cases hi:i<l0.length
  ·have:=hfirst i hi
   rw[hij] at this;cases this
  ·rw[blt_f (by omega)]
   exact hnil (i-l0.length) (by rw[<-hij];congr 1;omega)
 have hwrat:∀ {k:Nat}{B:Blk},(lays f l0.length 0 Cs l)[k]?=some B->B.wr=true->(k<l.length/\(∀ j,j<l0.length->f j≠k)/\l[k]?=some B/\ρ2 k=ρ k) ∨
   (∃ i j B',ks[i]?=some (some j)/\l'[j]?=some B'/\B'.wr=true/\k=gOf l0.length f l.length i/\ρ2 k=ρ' j)∨ρ2 k=[⟨none,0,0⟩]:=by
  intro k B hB hw;rcases hat hB with ⟨h1,h2,h3⟩|⟨i,h1,rfl⟩
  ·exact .inl ⟨h1,h2,h3,hold k h1 h2⟩
  ·rcases hblks.at i B h1 with ⟨j,B',h2,h3,h4,_⟩|⟨h2,_⟩
   ·exact .inr (.inl ⟨i,j,B',h2,h3,h4,rfl,hname h2⟩)
   ·exact .inr (.inr (hname0 h2))
 refine⟨ρ2,_,_,hKK,hleρ,?_,⟨?_,hR.le,?_,?_,?_,?_,?_,hR.qN,?_,?_⟩,hall hfz v hdv⟩
 ·rw[qzanq (by omega)];omega
 ·exact hR.below.trans (hR'.below.mono hQN)
 ·intro k hk
  rw[qzanq (by omega)] at hk
  have:ks[l0.length+(k-l.length)]?=none:=List.getElem?_eq_none (by omega)
  simp [ρ2,show ¬ k<l.length by omega,this]
 ·intro k vw a hv ha
  rcases hcase k with ⟨h1,h2⟩|⟨i,j,h1,_,h3⟩|h1|h1
  ·rw[hold k h1 h2] at hv
   exact Nat.lt_of_lt_of_le (hR.ids k vw a hv ha) hsz
  ·rw[h3] at hv;exact hR'.ids j vw a hv ha
  ·rw[h1,List.mem_singleton] at hv;subst hv;cases ha
  ·rw[h1] at hv;cases hv
 ·intro k B hB
  rcases hat hB with ⟨h1,h2,h3⟩|⟨i,h1,rfl⟩
  ·exact (hR.blk k B h3).keep hleρ hR.out (hold k h1 h2) λvw hv a ha=>hR'.below.block _ (hnotmine' k B vw a h1 h2 h3 hv ha)
  ·rcases hblks.at i B h1 with ⟨j,B',h2,h3,_,h4⟩|⟨h2,lit,st,sz,h5,rfl⟩
   ·have hn:=hname h2
    have hb:=hR'.blk j B' h3;cases h4 with
    | @c cs ds h=>
     obtain⟨b,e,hv,ho⟩:=hb;have hlen:=h.len;rw[hlen] at e hv ho;refine⟨b,hn.trans e,⟨Nat.le_refl _,(λh=>by simp at h),λq z hq hz=>?_⟩,ho.lower hQN⟩;have hcell:∃ z' u,cs[q]?=some z'/\W'.cell? ⟨b,0+q,none⟩=some u/\den ρ' z' u:=by
      have hqc:q<cs.length:=by
       have:q<ds.length:=hq
       omega
      obtain⟨a,u,e1,e2,e3⟩:=hv.2.2 q cs[q] hq (List.getElem?_eq_getElem hqc);simp only[Option.some.injEq] at e1;subst e1;exact⟨_,u,List.getElem?_eq_getElem hqc,e2,e3⟩
     obtain⟨z',u,g1,g2,g3⟩:=hcell;have htp:=hall (.tp h) (.tuple ((List.range ds.length).map λi=>(W'.cell? ⟨b,0+i,none⟩).getD undef).toArray) (by
      simp only[den];refine⟨_,rfl,qcx (by simp [hlen]) λq' w hw=>?_⟩;have hq':q'<cs.length:=(List.getElem?_eq_some_iff.1 hw).1;obtain⟨a,u',e1,e2,e3⟩:=hv.2.2 q' w (by simp only;omega) hw;simp only[Option.some.injEq] at e1;subst e1;exact⟨u',by simp [show q'<ds.length by omega];rw[Nat.zero_add] at e2;simp [e2],e3⟩)
     simp only[den] at htp;obtain⟨us,e1,e2⟩:=htp;simp only[Value.tuple.injEq] at e1;subst e1;obtain⟨u2,hu2,d2⟩:=qbk q z e2 hz;have hqd:q<ds.length:=hq;simp [hqd] at hu2;rw[Nat.zero_add] at g2;rw[g2] at hu2;simp at hu2;subst hu2;exact⟨_,u,rfl,by simpa using g2,d2⟩
    | @r lit lit' st st' sz F F' h hp hs=>
     obtain⟨g0,hv,_,hown⟩:=hb;refine⟨g0,λvw hm=>?_,λ_ x hx=>qbw hp x hx,λ_=>?_⟩
     ·rw[hn] at hm
      exact (h.view (hv vw hm)).plain ρ2 hz2 hp
     ·obtain⟨cur,hc,hcn,g1,g2,g3⟩:=hown rfl
      rw[hn,<-hs,<-h.1];exact⟨cur,hc,hcn,λvw hm=>(g1 vw hm).lower hQN,g2,g3⟩
    | @m es es' h=>
     obtain⟨b,ms,clock,⟨e1,hN'⟩,hh,hm,hbo⟩:=hb;exact⟨b,ms,clock,⟨hn.trans e1,hQN _ hN'⟩,hh,map_fz hall h hm,hbo⟩
    | dead=>trivial
   ·have hn:=hname0 h2
    refine⟨h5,λvw hm=>?_,(λ_ x hx=>by cases hx),λ_=>?_⟩
    ·rw[hn,List.mem_singleton] at hm;subst hm
     exact⟨Nat.zero_le _,λ_=>⟨rfl,rfl⟩,λq x hq _=>by simp at hq⟩
    ·rw[hn]
     refine⟨⟨none,0,0⟩,by simp,rfl,λvw hm=>?_,Nat.zero_le _,λvw hm=>?_⟩
     ·rw[List.mem_singleton] at hm;subst hm;exact λa ha=>by cases ha
     ·rw[List.mem_singleton] at hm;subst hm;exact .inl ⟨rfl,rfl⟩
 ·intro k k' B vw vw' a a' hB hw hne hv hv' ha ha'
  have hQ':∀ (i j:Nat) (vw:View) (a:Addr),ks[i]?=some (some j)->vw∈ρ' j->vw.base=some a->Q a.block:=by
   intro i j vw a hij hv ha;have hi:i<Cs.length:=by have:=(List.getElem?_eq_some_iff.1 hij).1;omega
   rcases hblks.at i _ (List.getElem?_eq_getElem hi) with ⟨j2,B2,q1,q2,q3,_⟩|⟨q1,_⟩
   ·rw[hij] at q1;simp only[Option.some.injEq] at q1;subst q1
    exact hR'.own j B2 vw a q2 q3 hv ha
   ·rw[hij] at q1;cases q1
  rcases hwrat hB hw with ⟨h1,h2,h3,h4⟩|⟨i,j,B',h1,h2,h3,h4,h5⟩|h1
  ·rw[h4] at hv
   rcases hcase k' with ⟨g1,g2⟩|⟨i',j',g1,g2,g3⟩|g1|g1
   ·rw[hold k' g1 g2] at hv'
    exact hR.sep k k' B vw vw' a a' h3 hw hne hv hv' ha ha'
   ·rw[g3] at hv'
    intro e;exact hnotmine k B vw a h1 h2 h3 hw hv ha (e▸hQ' i' j' vw' a' g1 hv' ha')
   ·rw[g1,List.mem_singleton] at hv';subst hv';cases ha'
   ·rw[g1] at hv';cases hv'
  ·rw[h5] at hv
   rcases hcase k' with ⟨g1,g2⟩|⟨i',j',g1,g2,g3⟩|g1|g1
   ·rw[hold k' g1 g2] at hv'
    intro e;exact hnotmine' k' _ vw' a' g1 g2 (List.getElem?_eq_getElem g1) hv' ha' (e▸hQ' i j vw a h1 hv ha)
   ·rw[g3] at hv'
    refine hR'.sep j j' B' vw vw' a a' h2 h3 (λe=>?_) hv hv' ha ha';subst e;exact hne (by rw[h4,g2,hblks.inj i i' j h1 g1])
   ·rw[g1,List.mem_singleton] at hv';subst hv';cases ha'
   ·rw[g1] at hv';cases hv'
  ·rw[h1,List.mem_singleton] at hv;subst hv;cases ha
 ·intro k B vw a hB hw hv ha
  rcases hwrat hB hw with ⟨h1,h2,h3,h4⟩|⟨i,j,B',h1,h2,h3,h4,h5⟩|h1
  ·rw[h4] at hv;exact hR.own k B vw a h3 hw hv ha
  ·rw[h5] at hv;exact hQN _ (hR'.own j B' vw a h2 h3 hv ha)
  ·rw[h1,List.mem_singleton] at hv;subst hv;cases ha
 ·intro b o u e
  have e':fz2 b o=some u:=e;simp only[fz2] at e';split at e'
  ·exact e'
  ·exact hR'.fin b o u e'
 ·intro k B vw a hB hw hv ha o
  show fz2 a.block o=none;rcases hwrat hB hw with ⟨h1,h2,h3,h4⟩|⟨i,j,B',h1,h2,h3,h4,h5⟩|h1
  ·rw[h4] at hv
   have hlt:=hR.ids k vw a hv ha;simp only[fz2];rw[if_neg (λh=>by omega)];have h6:=hR.fsep k B vw a h3 hw hv ha o;cases he:ρ'.fz a.block o with
   | none=>rfl
   | some u=>
    rcases hle.fq _ _ _ he with h7|h7
    ·have:ρ.fz a.block o=some u:=h7
     rw[h6] at this;cases this
    ·exact absurd h7 (hnotmine k B vw a h1 h2 h3 hw hv ha)
  ·rw[h5] at hv
   simp only[fz2];rw[if_neg (λh=>h.2 ⟨i,j,vw,a,h1,hv,ha,rfl⟩)];exact hR'.fsep j B' vw a h2 h3 hv ha o
  ·rw[h1,List.mem_singleton] at hv;subst hv;cases ha
def fOf:List Nat->Nat->Nat
 | [],_=>0
 | k::_,0=>k
 | _::fs,i+1=>fOf fs i
def notInN (k:Nat):List Nat->Bool
 | []=>true
 | j::fs=>!(Nat.beq k j)&&notInN k fs
def nodupN:List Nat->Bool
 | []=>true
 | k::fs=>notInN k fs&&nodupN fs
theorem qzags {k:Nat}:∀ {fs:List Nat},notInN k fs=true->∀ i,i<fs.length->fOf fs i≠k
 | [],_,i,h=>by simp at h
 | j::fs,hn,0,_=>by
  simp only[notInN,Bool.and_eq_true,Bool.not_eq_true'] at hn;simp only[fOf];rintro rfl;simp at hn
 | j::fs,hn,i+1,h=>by
  simp only[notInN,Bool.and_eq_true] at hn;exact qzags hn.2 i (by simpa using h)
theorem fOf_inj:∀ {fs:List Nat},nodupN fs=true->∀ i j,i<fs.length->j<fs.length->fOf fs i=fOf fs j->i=j
 | [],_,i,_,h,_,_=>by simp at h
 | k::fs,hn,0,0,_,_,_=>rfl
 | k::fs,hn,0,j+1,_,hj,e=>by
  simp only[nodupN,Bool.and_eq_true] at hn;exact absurd e.symm (qzags hn.1 j (by simpa using hj))
 | k::fs,hn,i+1,0,hi,_,e=>by
  simp only[nodupN,Bool.and_eq_true] at hn;exact absurd e (qzags hn.1 i (by simpa using hi))
 | k::fs,hn,i+1,j+1,hi,hj,e=>by
  simp only[nodupN,Bool.and_eq_true] at hn;exact congrArg _ (fOf_inj hn.2 i j (by simpa using hi) (by simpa using hj) e)
theorem quk {S:Sy}(hS:S0 P=S) (fs:List Nat) {g:FuncId}{args args0:List SV}{l0:List Blk}{bs:(Nat->Int)->(Nat->Nat)->List Blk}{y:(Nat->Nat)->SV}{K:SV->List Blk->Prop}
  (hF:(S0 P).call g args0 l0 (PostB l0.length bs y)) (hn:l0.length=fs.length) (hd:nodupN fs=true) (ha:SubL args (renL (fOf fs) args0)) (hl:BsUp l0.length l (fOf fs) 0 l0) (hr:refsBL (λk=>decide (k<l0.length)) args0=true)
  (hK:∀ sts,K (y (gOf fs.length (fOf fs) (len l))) (lays (fOf fs) fs.length 0 (bs sts (gOf fs.length (fOf fs) (len l))) l)):S.call g args l K:=by
 subst hS;refine qgp ha (call_box (fOf fs) hF (λi j hi hj e=>fOf_inj hd i j (by omega) (by omega) e) hl hr λsts _=>?_)
 have:=hK sts
 rwa[qbs,<-hn] at this
end
end Cz
namespace Cz
open Go Go.RowKit
theorem ilen_nil {α:Type}:ilen ([]:List α)=0:=rfl
theorem ilen_cons {α:Type}{a:α}{l:List α}:ilen (a::l)=ilen l+1:=by simp [ilen]
section
variable {P:Program}
theorem qzawr {S:Sy}{op:BK}{k:IntKind}{a b c:Int}{K:Int->Prop}{p:Int->Prop}(hS:S0 P=S) (h:∀ r,p r->K r)
  (hop:(op=.add/\c=a+b)∨(op=.sub/\c=a-b):=by first|exact .inl ⟨rfl,rfl⟩|exact .inr ⟨rfl,rfl⟩)
  (e:S0 P=S->∀ r,r=c->p r:=by intro hS r h;simp only[<-hS,Int.ofNat_eq_natCast,cr] at h;exact h)
  (h1:S0 P=S->lo k<=c:=by intro hS;simp only[<-hS,Int.ofNat_eq_natCast,cr,lo];omega)
  (h2:S0 P=S->c<=hi k:=by intro hS;simp only[<-hS,Int.ofNat_eq_natCast,cr,Cz.hi];omega):S.ar op k a b K:=by
 rcases hop with ⟨rfl,rfl⟩|⟨rfl,rfl⟩
 ·exact s_add hS (λr hr=>h r (e hS r hr)) (h1 hS) (h2 hS)
 ·exact s_sub hS (λr hr=>h r (e hS r hr)) (h1 hS) (h2 hS)
theorem s_ad {S:Sy}{k:IntKind}{a b:Int}{K:Int->Prop}(hS:S0 P=S) (h:∀ r,r=a+b->K r) (h1:lo k<=a+b:=by simp only[lo];omega) (h2:a+b<=Cz.hi k:=by simp only[Cz.hi];omega):S.ar .add k a b K:=s_add hS h h1 h2
theorem s_sb {S:Sy}{k:IntKind}{a b:Int}{K:Int->Prop}(hS:S0 P=S) (h:∀ r,r=a-b->K r) (h1:lo k<=a-b:=by simp only[lo];omega) (h2:a-b<=Cz.hi k:=by simp only[Cz.hi];omega):S.ar .sub k a b K:=s_sub hS h h1 h2
theorem s_ck {S:Sy}{b:Bool}{k:Unit->Prop}(hS:S0 P=S) (h:k ())
  (h1:S0 P=S->b=true:=by intro hS;first
   | (simp only[<-hS,Int.ofNat_eq_natCast,cr,ilen_nil,ilen_cons,Bool.not_eq_true',Bool.not_eq_false',decide_eq_true_eq,decide_eq_false_iff_not,beq_iff_eq,beq_eq_false_iff_ne,ne_eq];omega)
   | (simp only[<-hS,Int.ofNat_eq_natCast,cq,Bool.not_eq_true',Bool.not_eq_false',decide_eq_true_eq,decide_eq_false_iff_not,beq_iff_eq,beq_eq_false_iff_ne,ne_eq];omega)):S.chk b k:=s_chk hS (h1 hS) h
theorem qzamm {lit lit':Bool}{sz:Nat}{F F':List SV}{n n':Z}(hF:F=F') (hn:n.v=n'.v):Sub (.v lit sz F n) (.v lit' sz F' n'):=
 ⟨λρ v d=>by subst hF;simp only[den] at d ⊢;rw[<-hn];exact d⟩
theorem qpx {lit:Bool}{sz:Nat}{F:List SV}{n:Z}(h0:0<sz) (hF:F=[]) (hn:n.v=0):Sub (.re (.slice none 0 0)) (.v lit sz F n):=
 ⟨λρ v d=>by
  subst hF;simp only[den] at d ⊢;rw[hn,d.1];exact⟨Int.le_refl _,h0,by simp,rfl,.inr ⟨rfl,_,rfl⟩⟩⟩
theorem qge {α:Type}{e:α->List SV}(h:∀ a,plains (e a)=true):∀ l:List α,plains (l.flatMap e)=true
 | []=>rfl
 | a::l=>by rw[List.flatMap_cons];exact qfa (h a) (qge h l)
theorem s_nil {S:Sy}{n:Int}{k1 k2:Unit->Prop}(hS:S0 P=S) (h1:n=0->k1 ()) (h2:k2 ()):S.nil n k1 k2:=by subst hS;exact⟨h1,h2⟩
end
theorem qzasg {l':List Blk}{g:Nat->Nat}{ks:List (Option Nat)}{k sz:Nat}{off len:Z}{cap:Option Z}{lit:Bool}{st:Z}{F:List SV}{lit':Bool}{F':List SV}{n:Z}(hB:l'[k]?=some (.r false lit st sz F)) (hk:kpOf ks k=none)
  (h:(F.drop (off.v.toNat*sz)).take (len.v.toNat*sz)=F') (hp:plains F'=true) (hn:len.v=n.v):Fz l' g ks (.sl k sz off len cap) (.v lit' sz F' n):=
 .row hB hk (.fsub (h▸FSub.rfl) hp) hp hn
end Cz
