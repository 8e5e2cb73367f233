/- What the claims of this group lean on: WtG WgO WlO WtL WkP WbP. No condition. -/
import Derived.Test.YtfijlhdheiebcaaGreatDoorKB26
set_option linter.unusedSimpArgs false
set_option linter.unusedVariables false
set_option maxRecDepth 100000
set_option maxHeartbeats 4000000
namespace Cz
open Go Go.RowKit Go.Proofs
namespace Wr
open Tb
theorem ugreat_f {mx:Int}{l:List Tb.Fd}{t:Bool}(ht:decide (200<ilen l∨9000<fullL l-32*ilen l)=t) (hs:shortL l) (hm1:ilen l<=140737488355328):(S0 Tryz.prog).call 23 [tabV mx l] [] (λy _=>Sub y (.b t)):=by
 unfold tabV;generalize hF:cellsF l=F;obtain⟨m,hm⟩:∃ m,m=ilen l:=⟨_,rfl⟩;have h0:=qaj l;rw[<-hm] at ht h0 hm1 ⊢;generalize hS:S0 Tryz.prog=S;refine qaa hS I.qta ?_;cbv;refine qad hS 1 I.qnk (λx:Int×Int=>0<=x.1/\x.1<=m/\x.1<=201/\x.2=fullL (l.take x.1.toNat)-32*x.1) (λx=>[(3,.i .i64 (.y x.2)),(4,.i .i64 (.y x.1))]) (λ_=>[]) (λx=>(m-x.1).toNat) (0,0) rfl
  ⟨⟨Int.le_refl _,by omega,by omega,rfl⟩,rfl,?_,?_,by cbv⟩ ?_
 ·cbv;all_goals exact s_sA
 ·cbv;all_goals exact s_bA
 intro x;obtain⟨i,s⟩:=x;intro hx;dsimp only at hx;cbv;obtain⟨k0,k1,k3,k2⟩:=hx;have hs0:=qna (l.take i.toNat);have hs1:=full_short (l:=l.take i.toNat) λf hf=>hs f (List.mem_of_mem_take hf);have hs2:ilen (l.take i.toNat)=i:=by unfold ilen at hm ⊢;rw[List.length_take];omega
 rw[hs2] at hs0 hs1;refine qac hS ?_ ?_<;>intro h<;>cbv
 ·refine s_br hS ?_ ?_<;>intro h'<;>cbv<;>simp only[<-hS,Int.ofNat_eq_natCast,cq,Bool.not_eq_true',Bool.not_eq_false',decide_eq_true_eq,decide_eq_false_iff_not,beq_iff_eq,beq_eq_false_iff_ne,ne_eq] at h'
  ·obtain⟨⟨a,b⟩,hp⟩:=qbi (l:=l) (i:=i) (by omega) k0
   have hsz:=hs _ (List.mem_of_getElem? hp);dsimp only at hsz;have hsn:szF (a,b)=ilen a+ilen b+32:=rfl;have ha:=qaj a;have hb:=qaj b;have hnx:=qqr hp k0;refine qag hS rfl I.qnw (by decide +kernel) ?_;cbv
   repeat' (first|(refine s_st hS ?_;try cbv)|(refine s_sta hS ?_;intro _ _;try cbv)|(refine qzawr hS ?_;intro _ _;try cbv)|(refine rowF1 hS hF hp (by omega) ?_;cbv)|(refine rowF2 hS hF hp (by omega) ?_;cbv)|fail)
   rename_i s1 hs1' s2 hs2' i2 hi2;refine⟨(i2,s2),by dsimp only;omega,⟨by dsimp only;omega,by dsimp only;omega,by dsimp only;omega,by dsimp only;rw[hi2,hnx];omega⟩,rfl,?_,?_,by cbv⟩
   ·cbv;all_goals exact s_sA
   ·cbv;all_goals exact s_bA
  ·have e:t=true:=by rw[<-ht];exact decide_eq_true (.inl (by omega))
   repeat' (first|(refine qac hS ?_ ?_<;>intro h<;>(try cbv)<;>try exact s_ab h)|fail)
   all_goals
    cbv
    all_goals exact s_sA
 ·rw[qcs (by omega)] at k2
  repeat' (first|(refine qac hS ?_ ?_<;>intro h<;>(try cbv)<;>try exact s_ab h)|fail)
  ·have e:t=true:=by rw[<-ht];exact decide_eq_true (.inl (by omega))
   all_goals exact s_sA
  ·refine qgc ?_
   rw[<-ht,<-hS];simp only[cq];exact decide_eq_decide.2 ⟨λh=>.inr (by omega),λh=>by omega⟩
theorem rusize_f {l:List Tb.Fd}{n:Int}(hn:n=fullL l) (h:n<=1000000000000000000):(S0 Tryz.prog).call 58 [.v false 2 (cellsF l) (.y (ilen l))] [] (λy _=>Sub y (.i .i64 (.y n))):=by
 generalize hF:cellsF l=F;obtain⟨m,hm⟩:∃ m,m=ilen l:=⟨_,rfl⟩;have hlen:=qna l;have h0:=qaj l;rw[<-hm];generalize hS:S0 Tryz.prog=S;refine qaa hS I.qvh ?_;cbv;refine qad hS 0 I.qoq (λx:Int×Int=>0<=x.1/\x.1<=m/\x.2=fullL (l.take x.1.toNat)) (λx=>[(3,.i .i64 (.y x.2)),(4,.i .i64 (.y x.1))]) (λ_=>[]) (λx=>(m-x.1).toNat) (0,0) rfl
  ⟨⟨Int.le_refl _,by omega,rfl⟩,rfl,?_,?_,by cbv⟩ ?_
 ·cbv;all_goals exact s_sA
 ·cbv;all_goals exact s_bA
 intro x;obtain⟨i,s⟩:=x;intro hx;dsimp only at hx;cbv;obtain⟨k0,k1,k2⟩:=hx;have hs0:=qsa (l.take i.toNat);have hs1:=qju l i.toNat;rw[<-k2] at hs0 hs1;refine qac hS ?_ ?_<;>intro h<;>cbv
 ·obtain⟨⟨a,b⟩,hp⟩:=qbi (l:=l) (i:=i) (by omega) k0
  have hsz:=qzavs hp;have hsp:=qzafu (a,b);have hnx:=qqr hp k0;rw[<-k2] at hnx;have hs2:=qju l (i+1).toNat
  repeat' (first|(refine s_st hS ?_;try cbv)|(refine s_sta hS ?_;intro _ _;try cbv)|(refine rowF hS hF hp (by omega) ?_;cbv)|(refine rsize_u hS (by omega) λn1 hn1=>?_;cbv)|fail)
  rename_i s2 hs2 i2 hi2;refine⟨(i2,s2),by dsimp only;omega,⟨by dsimp only;omega,by dsimp only;omega,by dsimp only;rw[hs2,hi2,hnx];omega⟩,rfl,?_,?_,by cbv⟩
  ·cbv;all_goals exact s_sA
  ·cbv;all_goals exact s_bA
 ·refine qau ?_
  simp only[Z.v];rw[hn,k2,qcs (by omega)]
def longB (o:Ot):Bool:=decide (100<ilen o.da)||decide (100<ilen o.ps)||decide (40<ilen o.li)||o.li.any λf=>decide (2000<ilen f.1∨2000<ilen f.2)
theorem long_no {o:Ot}(h:longB o=false):ilen o.da<=100/\ilen o.ps<=100/\ilen o.li<=40/\∀ f∈o.li,ilen f.1<=2000/\ilen f.2<=2000:=by
 unfold longB at h;simp only[Bool.or_eq_false_iff,decide_eq_false_iff_not,List.any_eq_false,decide_eq_true_eq] at h;exact⟨by omega,by omega,by omega,λf hf=>by have:=h.2 f hf;omega⟩
theorem qzaro:∀ {l:List Tb.Fd},(∀ f∈l,ilen f.1<=2000/\ilen f.2<=2000)->fullL l<=4032*ilen l
 | [],_=>by simp [fullL,ilen]
 | f::l,h=>by
  have h1:=h f (by simp);have h2:=qzaro (l:=l) λg hg=>h g (by simp [hg]);have e:(ilen (f::l):Int)=ilen l+1:=by unfold ilen;simp
  rw[e];show szF f+fullL l<=_;unfold szF;omega
theorem dlong_f {o : Ot} {D : List SV} {dn : Int} {Q : List SV} {qn : Int} {Lf : List SV} {ln : Int} {t : Bool} (hn : OtN o D dn Q qn Lf ln) (ht : longB o = t) :
    (S0 Tryz.prog).call 21 [.ag (otK o D dn Q qn Lf ln)] [] (fun x _ => Sub x (.b t)) := by
  have h1 := hn.dn
  have h2 := hn.qn
  have h3 := hn.ln
  have hF := hn.l
  have l0 : 0 ≤ ln := by rw [h3]; exact qaj _
  clear hn
  unfold longB at ht
  obtain ⟨k, st, sz, co, da, ps, li⟩ := o
  dsimp only at *
  rw [← h1, ← h2, ← h3] at ht
  obtain ⟨a, ha⟩ : ∃ a, (li.any fun f => decide (2000 < ilen f.1 ∨ 2000 < ilen f.2)) = a := ⟨_, rfl⟩
  rw [ha] at ht
  unfold otK
  generalize hS : S0 Tryz.prog = S
  refine qaa hS I.qva ?_
  cbv
  repeat' (first | (refine qac hS ?_ ?_ <;> intro h <;> (try cbv) <;> try exact s_ab h) | fail)
  all_goals first
    | (refine qay ?_; rw [← ht]; simp only [Bool.or_eq_true, decide_eq_true_eq]; omega)
    | skip
  refine qad hS 1 I.qom (fun x : Int => 0 ≤ x ∧ x ≤ ln ∧ ∀ (j : Nat) (f : Tb.Fd), j < x.toNat → li[j]? = some f → ¬(2000 < ilen f.1 ∨ 2000 < ilen f.2)) (fun x => [(3, .i .i64 (.y x))]) (fun _ => []) (fun x => (ln - x).toNat) 0 rfl ⟨⟨Int.le_refl _, l0, fun j f hj => by omega⟩, rfl, ?_, ?_, by cbv⟩ ?_
  · cbv; exact s_qA
  · cbv; exact s_qA
  intro x hx
  cbv
  obtain ⟨g0, g1, g2⟩ := hx
  refine s_br hS ?_ ?_ <;> intro h' <;> cbv <;> simp only [← hS, Int.ofNat_eq_natCast, cq, Bool.not_eq_true', Bool.not_eq_false', decide_eq_true_eq, decide_eq_false_iff_not, beq_iff_eq, beq_eq_false_iff_ne, ne_eq] at h'
  · obtain ⟨⟨fa, fb⟩, hp⟩ := qbi (l := li) (i := x) (by omega) g0
    repeat' (first | (refine s_ck hS ?_; try cbv) | (refine qac hS ?_ ?_ <;> intro h <;> (try cbv) <;> try exact s_ab h) | (refine s_ad hS ?_; intro _ _; try cbv) | (refine rowF1 hS hF hp g0 ?_; cbv) | (refine rowF2 hS hF hp g0 ?_; cbv) | fail)
    all_goals first
      | (exfalso; omega)
      | (refine qay ?_; rw [← ht]; have : a = true := (by rw [← ha, List.any_eq_true]; exact ⟨_, List.mem_of_getElem? hp, by first | exact decide_eq_true (.inl h) | exact decide_eq_true (.inr h)⟩); rw [this]; simp; done)
      | (rename_i h1' r e
         refine ⟨r, by omega, ⟨by omega, by omega, fun j f hj hf => ?_⟩, rfl, by cbv; exact s_qA, by cbv; exact s_qA, by cbv⟩
         rcases Nat.lt_or_ge j x.toNat with h2' | h2'
         · exact g2 j f h2' hf
         · have : j = x.toNat := by omega
           subst this
           rw [hp] at hf
           cases hf
           exact fun e => e.elim h1' h)
  · have : a = false := by
      rw [← ha, List.any_eq_false]
      intro f hf
      obtain ⟨j, hj⟩ := List.mem_iff_getElem?.1 hf
      have := g2 j f (by have := (List.getElem?_eq_some_iff.1 hj).1; unfold ilen at h3; omega) hj
      simpa using this
    skip
    all_goals first
      | (refine qao ?_; rw [← ht, this]; simp only [Bool.or_false, Bool.or_eq_false_iff, decide_eq_false_iff_not]; omega)
section
variable {S:Sy}{l:List Blk}{K:SV->List Blk->Prop}
theorem dlong_u (hS:S0 Tryz.prog=S) {o:Ot}(t:Bool) {D:List SV}{dn:Int}{Q:List SV}{qn:Int}{Lf:List SV}{ln:Int}(hn:OtN o D dn Q qn Lf ln) (ht:longB o=t) (h:K (.b t) l):S.call 21 [.ag (otK o D dn Q qn Lf ln)] l K:=by
 subst hS;exact qai (qae (dlong_f hn ht) λx _ hx=>⟨_,hx,.rfl⟩) rfl rfl h
theorem dgrt_u (hS:S0 Tryz.prog=S) {mx:Int}{tr:List Tb.Fd}{F:List SV}{n:Int}(t:Bool) (ht:decide (200<ilen tr∨9000<fullL tr-32*ilen tr)=t) (hs:shortL tr) (hm:ilen tr<=140737488355328) (hF:cellsF tr=F) (hn:n=ilen tr) (h:K (.b t) l):S.call 23 [.ag [.i .i64 (.y mx),.v false 2 F (.y n)]] l K:=by
 subst hS hF hn;exact qai (qae (ugreat_f ht hs hm) λx _ hx=>⟨_,hx,.rfl⟩) rfl rfl h
theorem dgrs_u (hS:S0 Tryz.prog=S) (s:St) (t:Bool) {F:List SV}{n:Int}(hn:n=ilen s.o) (ht:decide (3000<ilen s.o)=t) (h:K (.b t) l):S.call 24 [.ag (stK s F n)] l K:=by
 refine qbg hS (?_:(S0 Tryz.prog).call 24 [.ag (stK s F n)] [] (λx _=>Sub x (.b t))) .rfl rfl rfl h;rw[<-hn] at ht;obtain⟨id,sst,sse,sre,sow,an,en,o,ur,ic,sl⟩:=s;unfold stK;generalize hS:S0 Tryz.prog=S;refine qaa hS I.qsw ?_;cbv
 skip
 all_goals first
  | (refine qgc ?_;subst hS;simp only[cr];exact ht)
  | (refine qay ?_;rw[<-ht];simp only[decide_eq_true_eq];omega)
  | (refine qao ?_;rw[<-ht];simp only[decide_eq_false_iff_not];omega)
end
def sumI:List Ot->Int
 | []=>0
 | o::r=>ilen o.li+sumI r
theorem sumI_app:∀ a b:List Ot,sumI (a++b)=sumI a+sumI b
 | [],b=>by simp [sumI]
 | o::a,b=>by simp only[List.cons_append,sumI,sumI_app a b];omega
theorem sumI_next {os:List Ot}{x:Int}{o:Ot}(h0:0<=x) (hy:os[x.toNat]?=some o):sumI (os.take (x+1).toNat)=sumI (os.take x.toNat)+ilen o.li:=by
 rw[show (x+1).toNat=x.toNat+1 by omega,List.take_add_one,hy,sumI_app];simp [sumI]
def grB (os:List Ot) (tr:List Tb.Fd) (zs:List Int) (ss:List St):Bool:=decide (150<ilen os∨20<ilen ss∨20<ilen zs)||decide (200<ilen tr∨9000<fullL tr-32*ilen tr)||os.any longB||ss.any (λs=>decide (3000<ilen s.o))||decide (200<sumI os)
section
variable {os:List Ot}{tr:List Tb.Fd}{zs:List Int}{ss:List St}{Fo:List SV}{no tm:Int}{Fr:List SV}{nr:Int}{Fz:List SV}{nz se re ow:Int}{Fs:List SV}{ns w:Int}{H:Nat->Int}{sh t:Bool}
theorem dgreat_f (a1 : cellsO os = Fo) (a2 : no = ilen os) (a3 : cellsF tr = Fr) (a4 : nr = ilen tr) (a5 : nz = ilen zs) (a6 : cellsS ss = Fs) (a7 : ns = ilen ss) (b1 : shortL tr) (b2 : ilen tr ≤ 140737488355328) (ht : grB os tr zs ss = t) :
    (S0 Tryz.prog).call 7 [.ag (lnK Fo no tm Fr nr Fz nz se re ow Fs ns w H sh)] [] (fun x _ => Sub x (.b t)) := by
  have o0 : 0 ≤ no := by rw [a2]; exact qaj _
  have s0 : 0 ≤ ns := by rw [a7]; exact qaj _
  unfold grB at ht
  rw [← a2, ← a5, ← a7] at ht
  obtain ⟨c1, hc1⟩ : ∃ b, decide (200 < ilen tr ∨ 9000 < fullL tr - 32 * ilen tr) = b := ⟨_, rfl⟩
  obtain ⟨c2, hc2⟩ : ∃ b, os.any longB = b := ⟨_, rfl⟩
  obtain ⟨c3, hc3⟩ : ∃ b, (ss.any fun s => decide (3000 < ilen s.o)) = b := ⟨_, rfl⟩
  obtain ⟨c4, hc4⟩ : ∃ b, sumI os = b := ⟨_, rfl⟩
  rw [hc1, hc2, hc3, hc4] at ht
  unfold lnK
  generalize hS : S0 Tryz.prog = S
  refine qaa hS I.qst ?_
  cbv
  cases c1 with
  | true =>
    have e : t = true := by rw [← ht]; simp
    repeat' (first | (refine qac hS ?_ ?_ <;> intro h <;> (try cbv) <;> try exact s_ab h) | (refine dgrt_u hS true hc1 b1 b2 a3 a4 ?_; cbv) | fail)
    all_goals first
      | exact qay e
  | false =>
    repeat' (first | (refine qac hS ?_ ?_ <;> intro h <;> (try cbv) <;> try exact s_ab h) | (refine dgrt_u hS false hc1 b1 b2 a3 a4 ?_; cbv) | fail)
    all_goals first
      | (refine qay ?_; rw [← ht]; simp only [Bool.or_eq_true, decide_eq_true_eq]; omega)
      | skip
    refine qad hS 1 I.qng (fun x : Int × Int => 0 ≤ x.1 ∧ x.1 ≤ no ∧ (∀ (j : Nat) (o : Ot), j < x.1.toNat → os[j]? = some o → longB o = false) ∧ x.2 = sumI (os.take x.1.toNat) ∧ 0 ≤ x.2 ∧ x.2 ≤ 40 * x.1) (fun x => [(4, .i .i64 (.y x.1)), (3, .i .i64 (.y x.2))]) (fun _ => []) (fun x => (no - x.1).toNat) (0, 0) rfl ⟨⟨Int.le_refl _, o0, fun j f hj => by simp at hj, rfl, Int.le_refl _, Int.le_refl _⟩, rfl, ?_, ?_, by cbv⟩ ?_
    · cbv; exact s_qA
    · cbv; exact s_qA
    intro x
    obtain ⟨x, m⟩ := x
    intro hx
    dsimp only at hx
    cbv
    obtain ⟨g0, g1, g2, g3, g4, g5⟩ := hx
    refine s_br hS ?_ ?_ <;> intro h' <;> cbv <;> simp only [← hS, Int.ofNat_eq_natCast, cq, Bool.not_eq_true', Bool.not_eq_false', decide_eq_true_eq, decide_eq_false_iff_not, beq_iff_eq, beq_eq_false_iff_ne, ne_eq] at h'
    · obtain ⟨o, hy⟩ := qbi (l := os) (i := x) (by omega) g0
      obtain ⟨D, dn, Q, qn, Lf, ln, hN⟩ := ot_n o
      have hmk := qzago o hN
      have hnx := sumI_next g0 hy
      have hln := hN.ln
      have hmm := List.mem_of_getElem? hy
      cases hlg : longB o with
      | true =>
        have e : t = true := by rw [← ht, show c2 = true by rw [← hc2, List.any_eq_true]; exact ⟨o, hmm, hlg⟩]; simp
        obtain ⟨k, ost, sz, co, da, ps, li⟩ := o
        repeat' (first | (refine s_ck hS ?_; try cbv) | (refine qac hS ?_ ?_ <;> intro h <;> (try cbv) <;> try exact s_ab h) | (refine qal hS (enc := otC) (l := os) a1 hy (fun _ => rfl) g0 (by omega) hmk ?_; cbv) | (refine dlong_u hS (o := ⟨k, ost, sz, co, da, ps, li⟩) true hN hlg ?_; cbv) | fail)
        all_goals first
          | exact qay e
      | false =>
        have hl40 := (long_no hlg).2.2.1
        have hl0 := qaj o.li
        have hg2 : ∀ r, r = x + 1 → ∀ (j : Nat) (p : Ot), j < r.toNat → os[j]? = some p → longB p = false := fun r hr j p hj hp => by
          rcases Nat.lt_or_ge j x.toNat with h2 | h2
          · exact g2 j p h2 hp
          · have : j = x.toNat := by omega
            subst this
            rw [hy] at hp
            cases hp
            exact hlg
        rw [← hln] at hl40 hl0 hnx
        have hmk1 : mkv false (((otC o).drop 6).take 1) = some (.v false 2 Lf (.y ln)) := by
          obtain ⟨h1, h2, h3, h4, h5, h6⟩ := hN
          subst h1 h2 h3 h4 h5 h6
          rfl
        obtain ⟨k, ost, sz, co, da, ps, li⟩ := o
        repeat' (first | (refine s_ck hS ?_; try cbv) | (refine qac hS ?_ ?_ <;> intro h <;> (try cbv) <;> try exact s_ab h) | (refine s_ad hS ?_; intro _ _; try cbv) | (refine qal hS (enc := otC) (l := os) a1 hy (fun _ => rfl) g0 (by omega) hmk ?_; cbv) | (refine qal hS (enc := otC) (l := os) a1 hy (fun _ => rfl) g0 (by omega) hmk1 ?_; cbv) | (refine dlong_u hS (o := ⟨k, ost, sz, co, da, ps, li⟩) false hN hlg ?_; cbv) | fail)
        all_goals first
          | (rename_i r1 e1 r2 e2
             refine ⟨(r2, r1), by dsimp only; omega, ⟨by dsimp only; omega, by dsimp only; omega, hg2 r2 e2, by dsimp only; rw [e2, hnx]; omega, by dsimp only; omega, by dsimp only; omega⟩, rfl, by cbv; exact s_qA, by cbv; exact s_qA, by cbv⟩)
    · have hc2f : c2 = false := by
        rw [← hc2, List.any_eq_false]
        intro o ho
        obtain ⟨j, hj⟩ := List.mem_iff_getElem?.1 ho
        have := g2 j o (by have := (List.getElem?_eq_some_iff.1 hj).1; unfold ilen at a2; omega) hj
        rw [this]; decide
      have hm4 : m = c4 := by rw [g3, qcs (by omega), hc4]
      subst hm4 hc2f
      clear g0 g1 g2 g3 h'
      refine qad hS 1 I.qnf (fun x : Int => 0 ≤ x ∧ x ≤ ns ∧ ∀ (j : Nat) (s : St), j < x.toNat → ss[j]? = some s → ¬ 3000 < ilen s.o) (fun x => [(5, .i .i64 (.y x))]) (fun _ => []) (fun x => (ns - x).toNat) 0 rfl ⟨⟨Int.le_refl _, s0, fun j f hj => by simp at hj⟩, rfl, ?_, ?_, by cbv⟩ ?_
      · cbv; exact s_qA
      · cbv; exact s_qA
      intro x hx
      cbv
      obtain ⟨g0, g1, g2⟩ := hx
      refine s_br hS ?_ ?_ <;> intro h' <;> cbv <;> simp only [← hS, Int.ofNat_eq_natCast, cq, Bool.not_eq_true', Bool.not_eq_false', decide_eq_true_eq, decide_eq_false_iff_not, beq_iff_eq, beq_eq_false_iff_ne, ne_eq] at h'
      · obtain ⟨s, hy⟩ := qbi (l := ss) (i := x) (by omega) g0
        obtain ⟨D, hD⟩ : ∃ F, cellsB s.o = F := ⟨_, rfl⟩
        obtain ⟨dn, hdn⟩ : ∃ m, m = ilen s.o := ⟨_, rfl⟩
        have hmk := qdg s hD hdn
        have hmm := List.mem_of_getElem? hy
        cases hg : decide (3000 < ilen s.o) with
        | true =>
          have e : t = true := by rw [← ht, show c3 = true by rw [← hc3, List.any_eq_true]; exact ⟨s, hmm, hg⟩]; simp
          obtain ⟨id, sst, sse, sre, sow, an, en, o, ur, ic, sl⟩ := s
          repeat' (first | (refine s_ck hS ?_; try cbv) | (refine qac hS ?_ ?_ <;> intro h <;> (try cbv) <;> try exact s_ab h) | (refine qal hS (enc := stC) (l := ss) a6 hy (fun _ => rfl) g0 (by omega) hmk ?_; cbv) | (refine dgrs_u hS ⟨id, sst, sse, sre, sow, an, en, o, ur, ic, sl⟩ true hdn hg ?_; cbv) | fail)
          all_goals first
            | exact qay e
        | false =>
          have hg2 : ∀ r, r = x + 1 → ∀ (j : Nat) (p : St), j < r.toNat → ss[j]? = some p → ¬ 3000 < ilen p.o := fun r hr j p hj hp => by
            rcases Nat.lt_or_ge j x.toNat with h2 | h2
            · exact g2 j p h2 hp
            · have : j = x.toNat := by omega
              subst this
              rw [hy] at hp
              cases hp
              exact of_decide_eq_false hg
          obtain ⟨id, sst, sse, sre, sow, an, en, o, ur, ic, sl⟩ := s
          repeat' (first | (refine s_ck hS ?_; try cbv) | (refine qac hS ?_ ?_ <;> intro h <;> (try cbv) <;> try exact s_ab h) | (refine s_ad hS ?_; intro _ _; try cbv) | (refine qal hS (enc := stC) (l := ss) a6 hy (fun _ => rfl) g0 (by omega) hmk ?_; cbv) | (refine dgrs_u hS ⟨id, sst, sse, sre, sow, an, en, o, ur, ic, sl⟩ false hdn hg ?_; cbv) | fail)
          all_goals first
            | (rename_i r e; exact ⟨r, by omega, ⟨by omega, by omega, hg2 r e⟩, rfl, by cbv; exact s_qA, by cbv; exact s_qA, by cbv⟩)
      · have hc3f : c3 = false := by
          rw [← hc3, List.any_eq_false]
          intro s hs
          obtain ⟨j, hj⟩ := List.mem_iff_getElem?.1 hs
          have := g2 j s (by have := (List.getElem?_eq_some_iff.1 hj).1; unfold ilen at a7; omega) hj
          simpa using this
        subst hc3f
        have hcc : decide (150 < no ∨ 20 < ns ∨ 20 < nz) = false := by
          rw [decide_eq_false_iff_not]; omega
        rw [hcc] at ht
        skip
        all_goals first
          | (refine qgc ?_; subst hS; simp only [cr]; rw [← ht]; simp; done)
end
end Wr
end Cz
namespace Cz
open Go Go.RowKit Go.Proofs
namespace Wr
theorem qba {k:Pk}{ks:List Pk}{svs:List SV}(h:pkVs (k::ks) svs):∃ x xs,svs=x::xs/\pkV k x/\pkVs ks xs:=by
 cases svs with
 | nil=>simp [pkVs] at h
 | cons x xs=>simp only[pkVs] at h;exact⟨x,xs,rfl,h.1,h.2⟩
theorem qzarg {svs:List SV}(h:pkVs [] svs):svs=[]:=by
 cases svs with
 | nil=>rfl
 | cons x xs=>simp [pkVs] at h
theorem pl_i {k:IntKind}{x:SV}(h:pkV (.i k) x):∃ n,x=.i k (.y n)/\lo k<=n/\n<=Cz.hi k:=by
 simp only[pkV] at h;exact h
theorem pl_b {x:SV}(h:pkV .b x):∃ v,x=.b v:=by simp only[pkV] at h;exact h
theorem pl_by {x:SV}(h:pkV (.sl [.i .u8]) x):∃ b:List Int,x=.v false 1 (cellsB b) (.y (ilen b))/\ilen b<=140737488355328/\Hu.BOk b:=by
 obtain⟨l,h1,h2,h3⟩:=qzv (ec:=by1) (good:=λv=>0<=v/\v<256) (λsvs h=>by
  obtain⟨x,rfl,h'⟩:=qzanh h;obtain⟨n,rfl,a,b⟩:=pl_i h';simp only[lo,Cz.hi] at a b;exact⟨n,rfl,by omega,by omega⟩) h
 exact⟨l,h1,h2,h3⟩
theorem pl_fds {x:SV}(h:pkV (.sl [.s,.s]) x):∃ l:List Tb.Fd,x=.v false 2 (Tb.cellsF l) (.y (ilen l))/\ilen l<=140737488355328/\Tb.shortL l:=by
 obtain⟨l,h1,h2,h3⟩:=qzv (ec:=Tb.fdE) (good:=λf=>ilen f.1<=140737488355328/\ilen f.2<=140737488355328) (λsvs h=>by
  obtain⟨x,xs,rfl,h1,h⟩:=qba h;obtain⟨y,ys,rfl,h2,h⟩:=qba h;obtain rfl:=qzarg h;simp only[pkV] at h1 h2;obtain⟨a,rfl,ha⟩:=h1;obtain⟨b,rfl,hb⟩:=h2;exact⟨(a,b),rfl,ha,hb⟩) h
 exact⟨l,h1,h2,h3⟩
theorem pl_prs {x:SV}(h:pkV (.sl [.i .u16,.i .u32]) x):∃ l:List (Int×Int),x=.v false 2 (cellsP l) (.y (ilen l))/\ilen l<=140737488355328/\∀ p∈l,(0<=p.1/\p.1<=65535)/\(0<=p.2/\p.2<=4294967295):=by
 obtain⟨l,h1,h2,h3⟩:=qzv (ec:=pr1) (good:=λp=>(0<=p.1/\p.1<=65535)/\(0<=p.2/\p.2<=4294967295)) (λsvs h=>by
  obtain⟨x,xs,rfl,h1,h⟩:=qba h;obtain⟨y,ys,rfl,h2,h⟩:=qba h;obtain rfl:=qzarg h;obtain⟨a,rfl,a1,a2⟩:=pl_i h1;obtain⟨b,rfl,b1,b2⟩:=pl_i h2;simp only[lo,Cz.hi] at a1 a2 b1 b2;exact⟨(a,b),rfl,⟨by omega,by omega⟩,by omega,by omega⟩) h
 exact⟨l,h1,h2,h3⟩
theorem pl_is {x:SV}(h:pkV (.sl [.i .i64]) x):∃ l:List Int,x=.v false 1 (l.flatMap i1) (.y (ilen l))/\ilen l<=140737488355328/\∀ z∈l,Big z:=by
 obtain⟨l,h1,h2,h3⟩:=qzv (ec:=i1) (good:=Big) (λsvs h=>by
  obtain⟨x,rfl,h'⟩:=qzanh h;obtain⟨n,rfl,a,b⟩:=pl_i h';exact⟨n,rfl,a,b⟩) h
 exact⟨l,h1,h2,h3⟩
structure OtIn (o:Ot):Prop where
 k:0<=o.k/\o.k<=255
 st:Big o.st
 sz:Big o.sz
 co:0<=o.co/\o.co<=4294967295
 da:Hu.BOk o.da
 dl:ilen o.da<=140737488355328
 ps:∀ p∈o.ps,(0<=p.1/\p.1<=65535)/\(0<=p.2/\p.2<=4294967295)
 pl:ilen o.ps<=140737488355328
 ll:ilen o.li<=140737488355328
 lf:Tb.shortL o.li
structure StIn (s:St):Prop where
 id:Big s.id
 st:0<=s.st/\s.st<=255
 se:Big s.se
 re:Big s.re
 ow:Big s.ow
 o:Hu.BOk s.o
 len:ilen s.o<=140737488355328
 ur:0<=s.ur/\s.ur<=255
 sl:Big s.sl
theorem pl_outs {x:SV}(h:pkV (.sl [.i .u8,.i .i64,.i .i64,.i .u32,.sl [.i .u8],.sl [.i .u16,.i .u32],.sl [.s,.s]]) x):∃ os:List Ot,x=.v false 7 (cellsO os) (.y (ilen os))/\ilen os<=140737488355328/\∀ o∈os,OtIn o:=by
 obtain⟨l,h1,h2,h3⟩:=qzv (ec:=otC) (good:=OtIn) (λsvs h=>by
  obtain⟨x1,xs,rfl,h1,h⟩:=qba h;obtain⟨x2,xs,rfl,h2,h⟩:=qba h;obtain⟨x3,xs,rfl,h3,h⟩:=qba h;obtain⟨x4,xs,rfl,h4,h⟩:=qba h;obtain⟨x5,xs,rfl,h5,h⟩:=qba h;obtain⟨x6,xs,rfl,h6,h⟩:=qba h;obtain⟨x7,xs,rfl,h7,h⟩:=qba h;obtain rfl:=qzarg h;obtain⟨k,rfl,k1,k2⟩:=pl_i h1;obtain⟨st,rfl,st1,st2⟩:=pl_i h2;obtain⟨sz,rfl,sz1,sz2⟩:=pl_i h3;obtain⟨co,rfl,co1,co2⟩:=pl_i h4;obtain⟨da,rfl,da1,da2⟩:=pl_by h5;obtain⟨ps,rfl,ps1,ps2⟩:=pl_prs h6;obtain⟨li,rfl,li1,li2⟩:=pl_fds h7;simp only[lo,Cz.hi] at k1 k2 co1 co2;exact⟨⟨k,st,sz,co,da,ps,li⟩,rfl,⟨⟨k1,k2⟩,⟨st1,st2⟩,⟨sz1,sz2⟩,⟨co1,co2⟩,da2,da1,ps2,ps1,li1,li2⟩⟩) h
 exact⟨l,h1,h2,h3⟩
theorem pl_sts {x:SV}(h:pkV (.sl [.i .i64,.i .u8,.i .i64,.i .i64,.i .i64,.b,.b,.sl [.i .u8],.i .u8,.b,.i .i64]) x):∃ ss:List St,x=.v false 11 (cellsS ss) (.y (ilen ss))/\ilen ss<=140737488355328/\∀ s∈ss,StIn s:=by
 obtain⟨l,h1,h2,h3⟩:=qzv (ec:=stC) (good:=StIn) (λsvs h=>by
  obtain⟨x1,xs,rfl,h1,h⟩:=qba h;obtain⟨x2,xs,rfl,h2,h⟩:=qba h;obtain⟨x3,xs,rfl,h3,h⟩:=qba h;obtain⟨x4,xs,rfl,h4,h⟩:=qba h;obtain⟨x5,xs,rfl,h5,h⟩:=qba h;obtain⟨x6,xs,rfl,h6,h⟩:=qba h;obtain⟨x7,xs,rfl,h7,h⟩:=qba h;obtain⟨x8,xs,rfl,h8,h⟩:=qba h;obtain⟨x9,xs,rfl,h9,h⟩:=qba h;obtain⟨x10,xs,rfl,h10,h⟩:=qba h;obtain⟨x11,xs,rfl,h11,h⟩:=qba h;obtain rfl:=qzarg h;obtain⟨id,rfl,id1,id2⟩:=pl_i h1;obtain⟨st,rfl,st1,st2⟩:=pl_i h2;obtain⟨se,rfl,se1,se2⟩:=pl_i h3;obtain⟨re,rfl,re1,re2⟩:=pl_i h4;obtain⟨ow,rfl,ow1,ow2⟩:=pl_i h5;obtain⟨an,rfl⟩:=pl_b h6;obtain⟨en,rfl⟩:=pl_b h7;obtain⟨o,rfl,o1,o2⟩:=pl_by h8;obtain⟨ur,rfl,ur1,ur2⟩:=pl_i h9;obtain⟨ic,rfl⟩:=pl_b h10;obtain⟨sl,rfl,sl1,sl2⟩:=pl_i h11;simp only[lo,Cz.hi] at st1 st2 ur1 ur2;exact⟨⟨id,st,se,re,ow,an,en,o,ur,ic,sl⟩,rfl,⟨⟨id1,id2⟩,⟨st1,st2⟩,⟨se1,se2⟩,⟨re1,re2⟩,⟨ow1,ow2⟩,o2,o1,⟨ur1,ur2⟩,⟨sl1,sl2⟩⟩⟩) h
 exact⟨l,h1,h2,h3⟩
def h8 (a b c d e f g h:Int):Nat->Int
 | 0=>a
 | 1=>b
 | 2=>c
 | 3=>d
 | 4=>e
 | 5=>f
 | 6=>g
 | _=>h
structure LnIn (os:List Ot) (tm:Int) (tr:List Tb.Fd) (zs:List Int) (se re ow:Int) (ss:List St) (w:Int) (H:Nat->Int):Prop where
 on:ilen os<=140737488355328
 os:∀ o∈os,OtIn o
 tm:Big tm
 tn:ilen tr<=140737488355328
 tr:Tb.shortL tr
 zn:ilen zs<=140737488355328
 zs:∀ z∈zs,Big z
 se:Big se
 re:Big re
 ow:Big ow
 sn:ilen ss<=140737488355328
 ss:∀ s∈ss,StIn s
 w:0<=w/\w<=18446744073709551615
 H:∀ i,i<8->Big (H i)
theorem op_ln {svs:List SV}(h:pkVs [.sl [.i .u8,.i .i64,.i .i64,.i .u32,.sl [.i .u8],.sl [.i .u16,.i .u32],.sl [.s,.s]],.i .i64,.sl [.s,.s],.sl [.i .i64],.i .i64,.i .i64,.i .i64,.sl [.i .i64,.i .u8,.i .i64,.i .i64,.i .i64,.b,.b,.sl [.i .u8],.i .u8,.b,.i .i64],.i .u64,.i .i64,.i .i64,.i .i64,.i .i64,.i .i64,.i .i64,.i .i64,.i .i64,.b] svs):
  ∃ os tm tr zs se re ow ss w H sh,svs=lnK (cellsO os) (ilen os) tm (Tb.cellsF tr) (ilen tr) (zs.flatMap i1) (ilen zs) se re ow (cellsS ss) (ilen ss) w H sh/\LnIn os tm tr zs se re ow ss w H:=by
 obtain⟨x1,xs,rfl,h1,h⟩:=qba h;obtain⟨x2,xs,rfl,h2,h⟩:=qba h;obtain⟨x3,xs,rfl,h3,h⟩:=qba h;obtain⟨x4,xs,rfl,h4,h⟩:=qba h;obtain⟨x5,xs,rfl,h5,h⟩:=qba h;obtain⟨x6,xs,rfl,h6,h⟩:=qba h;obtain⟨x7,xs,rfl,h7,h⟩:=qba h;obtain⟨x8,xs,rfl,h8',h⟩:=qba h;obtain⟨x9,xs,rfl,h9,h⟩:=qba h;obtain⟨y0,xs,rfl,g0,h⟩:=qba h;obtain⟨y1,xs,rfl,g1,h⟩:=qba h;obtain⟨y2,xs,rfl,g2,h⟩:=qba h;obtain⟨y3,xs,rfl,g3,h⟩:=qba h;obtain⟨y4,xs,rfl,g4,h⟩:=qba h;obtain⟨y5,xs,rfl,g5,h⟩:=qba h;obtain⟨y6,xs,rfl,g6,h⟩:=qba h;obtain⟨y7,xs,rfl,g7,h⟩:=qba h;obtain⟨x10,xs,rfl,h10,h⟩:=qba h;obtain rfl:=qzarg h;obtain⟨os,rfl,os1,os2⟩:=pl_outs h1;obtain⟨tm,rfl,tm1,tm2⟩:=pl_i h2;obtain⟨tr,rfl,tr1,tr2⟩:=pl_fds h3;obtain⟨zs,rfl,zs1,zs2⟩:=pl_is h4;obtain⟨se,rfl,se1,se2⟩:=pl_i h5;obtain⟨re,rfl,re1,re2⟩:=pl_i h6;obtain⟨ow,rfl,ow1,ow2⟩:=pl_i h7;obtain⟨ss,rfl,ss1,ss2⟩:=pl_sts h8';obtain⟨w,rfl,w1,w2⟩:=pl_i h9;obtain⟨a0,rfl,a01,a02⟩:=pl_i g0;obtain⟨a1,rfl,a11,a12⟩:=pl_i g1;obtain⟨a2,rfl,a21,a22⟩:=pl_i g2;obtain⟨a3,rfl,a31,a32⟩:=pl_i g3;obtain⟨a4,rfl,a41,a42⟩:=pl_i g4;obtain⟨a5,rfl,a51,a52⟩:=pl_i g5;obtain⟨a6,rfl,a61,a62⟩:=pl_i g6;obtain⟨a7,rfl,a71,a72⟩:=pl_i g7;obtain⟨sh,rfl⟩:=pl_b h10;simp only[lo,Cz.hi] at w1 w2;refine⟨os,tm,tr,zs,se,re,ow,ss,w,h8 a0 a1 a2 a3 a4 a5 a6 a7,sh,rfl,⟨os1,os2,⟨tm1,tm2⟩,tr1,tr2,zs1,zs2,⟨se1,se2⟩,⟨re1,re2⟩,⟨ow1,ow2⟩,ss1,ss2,⟨w1,w2⟩,λi hi=>?_⟩⟩
 match i,hi with
 | 0,_=>exact⟨a01,a02⟩
 | 1,_=>exact⟨a11,a12⟩
 | 2,_=>exact⟨a21,a22⟩
 | 3,_=>exact⟨a31,a32⟩
 | 4,_=>exact⟨a41,a42⟩
 | 5,_=>exact⟨a51,a52⟩
 | 6,_=>exact⟨a61,a62⟩
 | 7,_=>exact⟨a71,a72⟩
end Wr
end Cz
namespace Cz
open Go Go.RowKit Go.Proofs
namespace Wr
theorem op_is {svs:List SV}(h:pkVs [.sl [.i .i64]] svs):∃ l:List Int,svs=[.v false 1 (l.flatMap i1) (.y (ilen l))]/\ilen l<=140737488355328/\∀ z∈l,Big z:=by
 obtain⟨x,rfl,h'⟩:=qzanh h;obtain⟨l,rfl,h1,h2⟩:=pl_is h';exact⟨l,rfl,h1,h2⟩
end Wr
end Cz
namespace Cz
open Go Go.RowKit Go.Proofs
namespace Wr
def ZOk (zs:List Int) (i:Nat):Prop:=∀ z,zs[i]?=some z->(0<=z/\z<=4096)/\∀ y,0<i->zs[i-1]?=some y->y<z
theorem zs_iff {zs:List Int}(h:ilen zs<=2):zsB zs=true↔∀ i,ZOk zs i:=by
 match zs,h with
 | [],_=>exact⟨λ_ i z hz=>by simp at hz,λ_=>by decide⟩
 | [a],_=>
  constructor
  ·intro h i z hz
   obtain⟨h1,h2⟩:=qzatn h
   match i,hz with
   | 0,hz=>exact⟨h2 z (List.mem_of_getElem? hz),λy h0=>absurd h0 (by omega)⟩
   | i+1,hz=>simp at hz
  ·intro h
   have:=h 0 a rfl
   unfold zsB;simp [ilen];exact this.1
 | [a,b],_=>
  constructor
  ·intro h i z hz
   obtain⟨h1,h2⟩:=qzatn h;have h3:a<b:=by
    unfold zsB at h;rw[Bool.and_eq_true] at h;exact of_decide_eq_true h.2
   match i,hz with
   | 0,hz=>exact⟨h2 z (List.mem_of_getElem? hz),λy h0=>absurd h0 (by omega)⟩
   | 1,hz=>
    refine⟨h2 z (List.mem_of_getElem? hz),λy _ hy=>?_⟩;simp at hz hy;omega
   | i+2,hz=>simp at hz
  ·intro h
   have h0:=h 0 a rfl;have h1:=h 1 b rfl;have h2:=h1.2 a (by omega) rfl;unfold zsB;simp [ilen];omega
 | _::_::_::r,h=>exact absurd h (by unfold ilen;simp only[List.length_cons];omega)
def DwP (o:Ot):Prop:=∀ D dn Q qn Lf ln,OtN o D dn Q qn Lf ln->∀ (bl:List Blk) (K:SV->List Blk->Prop),K (.b (waitB o)) bl->(S0 Tryz.prog).call 26 [.ag (otK o D dn Q qn Lf ln)] bl K
section
variable {os:List Ot}{tr:List Tb.Fd}{zs:List Int}{ss:List St}{Fo:List SV}{no tm:Int}{Fr:List SV}{nr:Int}{Fz:List SV}{nz se re ow:Int}{Fs:List SV}{ns w:Int}{H:Nat->Int}{sh:Bool}{S:Sy}{l:List Blk}{K:SV->List Blk->Prop}
theorem dstreams_u (hS:S0 Tryz.prog=S) {t:Bool}(hok:∀ s∈ss,StOk s) (hF:cellsS ss=Fs) (hn:ns=ilen ss) (hb:ns<=100000000) (ht:t=true↔GdS ss) (h:K (.b t) l):S.call 28 [.ag (lnK Fo no tm Fr nr Fz nz se re ow Fs ns w H sh)] l K:=by
 subst hS;exact qai (qae (dstreams_f hok hF hn hb ht) λx _ hx=>⟨_,hx,.rfl⟩) rfl rfl h
theorem dready_u (hS:S0 Tryz.prog=S) {t:Bool}(hg:GdS ss) (hF:cellsS ss=Fs) (hn:ns=ilen ss) (h0:0<=w) (h1:w<18446744073709551616) (ht:t=true↔∃ L,GdR ss se (L,H)/\w=wdI L) (h:K (.b t) l):S.call 29 [.ag (lnK Fo no tm Fr nr Fz nz se re ow Fs ns w H sh)] l K:=by
 subst hS;exact qai (qae (dready_f hg hF hn h0 h1 ht) λx _ hx=>⟨_,hx,.rfl⟩) rfl rfl h
theorem qzalm (hS:S0 Tryz.prog=S) {mx:Int}{F:List SV}{n:Int}(t:Bool) (hF:Tb.cellsF tr=F) (hn:n=ilen tr) (ht:Tb.rightL mx tr=t) (h:Tb.fullL tr<=100000000) (hK:K (.b t) l):S.call 25 [.ag [.i .i64 (.y mx),.v false 2 F (.y n)]] l K:=
 Tb.rright_g hS (.v rfl hF hn) ht h hK
theorem dRight_f {t:Bool}(hn:LnN os tr zs ss Fo no Fr nr Fz nz Fs ns) (hw0:0<=w) (hw1:w<18446744073709551616) (hdw:∀ o∈os,DwP o) (ht:t=true↔∃ L,w=wdI L/\GdL ⟨os,tm,tr,zs,se,re,ow,ss,L,H,sh⟩):
  (S0 Tryz.prog).call 8 [.ag (lnK Fo no tm Fr nr Fz nz se re ow Fs ns w H sh)] [] (λx _=>Sub x (.b t)):=by
 have o0:0<=no:=by rw[hn.on];exact qaj _
 have z0:0<=nz:=by rw[hn.zn];exact qaj _
 have hon:=hn.on;have hzn:=hn.zn;have hsb:=hn.sb;have hrf:=hn.rf;obtain⟨c2,hc2⟩:∃ b,Tb.rightL tm tr=b:=⟨_,rfl⟩;obtain⟨t1,ht1⟩:∃ b:Bool,(b=true↔GdS ss):=by
  by_cases h:GdS ss
  ·exact⟨true,by simp [h]⟩
  ·exact⟨false,by simp [h]⟩
 obtain⟨t2,ht2⟩:∃ b:Bool,(b=true↔∃ L,GdR ss se (L,H)/\w=wdI L):=by
  by_cases h:∃ L,GdR ss se (L,H)/\w=wdI L
  ·exact⟨true,by simp [h]⟩
  ·exact⟨false,by simp [h]⟩
 obtain⟨c5,hc5⟩:∃ b,wB se=b:=⟨_,rfl⟩;have hst:∀ (S:Sy),S0 Tryz.prog=S->∀ (bl:List Blk) (K:SV->List Blk->Prop),K (.b t1) bl->S.call 28 [.ag (lnK Fo no tm Fr nr Fz nz se re ow Fs ns w H sh)] bl K:=λS hS bl K h=>dstreams_u hS hn.so hn.s hn.sn (by omega) ht1 h;have hrd:t1=true->∀ (S:Sy),S0 Tryz.prog=S->∀ (bl:List Blk) (K:SV->List Blk->Prop),K (.b t2) bl->S.call 29 [.ag (lnK Fo no tm Fr nr Fz nz se re ow Fs ns w H sh)] bl K:=λh1 S hS bl K h=>dready_u hS (ht1.1 h1) hn.s hn.sn hw0 hw1 ht2 h;have hF:(¬ (no<=if sh=true then 129 else 128)∨c2=false∨2<nz∨(∃ o∈os,waitB o=false)∨(∃ i,¬ ZOk zs i)∨c5=false∨¬(0<=re/\re<=2147483647)∨¬(0<=ow/\ow<=2147483647)∨t1=false∨t2=false)->t=false:=λh=>Bool.eq_false_iff.2 λe=>by
  obtain⟨L,hL,hg⟩:=ht.1 e;rcases h with h|h|h|⟨o,ho,h⟩|⟨i,h⟩|h|h|h|h|h
  ·exact h (by rw[hon];exact hg.on)
  ·have:=hg.tab;dsimp only at this;rw[hc2,h] at this;cases this
  ·have:=(qzatn hg.zs).1;dsimp only at this;omega
  ·have:=(hg.os o ho).2;rw[h] at this;cases this
  ·exact h ((zs_iff (qzatn hg.zs).1).1 hg.zs i)
  ·have:=hg.se;dsimp only at this;rw[hc5,h] at this;cases this
  ·exact h hg.re
  ·exact h hg.ow
  ·rw[ht1.2 hg.ss] at h;cases h
  ·rw[ht2.2 ⟨L,hg.rd,hL⟩] at h;cases h
 have hT:no<=(if sh=true then 129 else 128)->c2=true->nz<=2->(∀ o∈os,waitB o=true)->(∀ i,ZOk zs i)->c5=true->(0<=re/\re<=2147483647)->(0<=ow/\ow<=2147483647)->t1=true->t2=true->t=true:=λh1 h2 h3 h4 h5 h6 h7 h8 h9 h10=>by
  obtain⟨L,q1,q2⟩:=ht2.1 h10;exact ht.2 ⟨L,q2,by rw[<-hon];exact h1,λo ho=>⟨hn.oo o ho,h4 o ho⟩,hc2.trans h2,(zs_iff (zs:=zs) (by omega)).2 h5,hc5.trans h6,h7,h8,ht1.1 h9,q1⟩
 clear ht ht1 ht2;unfold lnK at *;generalize hS:S0 Tryz.prog=S;refine qaa hS I.qss ?_;cbv;by_cases a1:no<=if sh=true then 129 else 128
 ·cases c2 with
  | false=>
   have e:=hF (.inr (.inl rfl));cases sh with
   | true=>
    rw[if_pos rfl] at a1
    repeat' (first|(refine qac hS ?_ ?_<;>intro h<;>(try cbv)<;>try exact s_ab h)|(refine qzalm hS false hn.r hn.rn hc2 (by omega) ?_;cbv)|fail)
    all_goals first
     | (exfalso;omega)
     | exact qao e
   | false=>
    rw[if_neg (by decide)] at a1
    repeat' (first|(refine qac hS ?_ ?_<;>intro h<;>(try cbv)<;>try exact s_ab h)|(refine qzalm hS false hn.r hn.rn hc2 (by omega) ?_;cbv)|fail)
    all_goals first
     | (exfalso;omega)
     | exact qao e
  | true=>
   by_cases a3:nz<=2
   ·have key:∀ _:True,True:=λ_=>trivial
    have a1':no<=129/\(sh=false->no<=128):=by
     constructor
     ·split at a1<;>omega
     ·intro h;rw[h,if_neg (by decide)] at a1;exact a1
    replace hT:=hT a1
    clear a1;obtain⟨a1,a2⟩:=a1';cases sh with
    | true=>
     repeat' (first|(refine qac hS ?_ ?_<;>intro h<;>(try cbv)<;>try exact s_ab h)|(refine qzalm hS true hn.r hn.rn hc2 (by omega) ?_;cbv)|fail)
     all_goals (try (exfalso;omega))
     all_goals
      refine qad hS 1 I.qev (λx:Int=>0<=x/\x<=no/\∀ (j:Nat) (o:Ot),j<x.toNat->os[j]?=some o->waitB o=true) (λx=>[(3,.i .i64 (.y x))]) (λ_=>[]) (λx=>(no-x).toNat) 0 rfl ⟨⟨Int.le_refl _,o0,λj o hj=>by simp at hj⟩,rfl,?_,?_,by cbv⟩ ?_
      ·cbv;exact s_qA
      ·cbv;exact s_qA
      intro x hx;cbv;obtain⟨g0,g1,g2⟩:=hx;refine s_br hS ?_ ?_<;>intro h'<;>cbv<;>simp only[<-hS,Int.ofNat_eq_natCast,cq,Bool.not_eq_true',Bool.not_eq_false',decide_eq_true_eq,decide_eq_false_iff_not,beq_iff_eq,beq_eq_false_iff_ne,ne_eq] at h'
      ·obtain⟨o,hy⟩:=qbi (l:=os) (i:=x) (by omega) g0
       obtain⟨D,dn,Q,qn,Lf,ln,hN⟩:=ot_n o;have hmk:=qzago o hN;have hom:=List.mem_of_getElem? hy;have hdo:=hdw o hom D dn Q qn Lf ln hN;cases hwo:waitB o with
       | true=>
        have hg2:∀ r,r=x+1->∀ (j:Nat) (p:Ot),j<r.toNat->os[j]?=some p->waitB p=true:=λr hr j p hj hp=>by
         rcases Nat.lt_or_ge j x.toNat with h2|h2
         ·exact g2 j p h2 hp
         ·have:j=x.toNat:=by omega
          subst this;rw[hy] at hp;cases hp;exact hwo
        rw[hwo] at hdo;obtain⟨k,ost,sz,co,da,ps,li⟩:=o;unfold otK at hdo;dsimp only at hdo;rw[hS] at hdo
        repeat' (first|(refine s_ck hS ?_;try cbv)|(refine qac hS ?_ ?_<;>intro h<;>(try cbv)<;>try exact s_ab h)|(refine s_ad hS ?_;intro _ _;try cbv)|(refine qal hS (enc:=otC) (l:=os) hn.o hy (λ_=>rfl) g0 (by omega) hmk ?_;cbv)|(refine hdo _ _ ?_;cbv)|fail)
        all_goals first
         | (exfalso;omega)
         | (rename_i r e;exact⟨r,by omega,⟨by omega,by omega,hg2 r e⟩,rfl,by cbv;exact s_qA,by cbv;exact s_qA,by cbv⟩)
       | false=>
        have e:=hF (.inr (.inr (.inr (.inl ⟨o,hom,hwo⟩))));rw[hwo] at hdo;obtain⟨k,ost,sz,co,da,ps,li⟩:=o;unfold otK at hdo;dsimp only at hdo;rw[hS] at hdo
        repeat' (first|(refine s_ck hS ?_;try cbv)|(refine qac hS ?_ ?_<;>intro h<;>(try cbv)<;>try exact s_ab h)|(refine qal hS (enc:=otC) (l:=os) hn.o hy (λ_=>rfl) g0 (by omega) hmk ?_;cbv)|(refine hdo _ _ ?_;cbv)|fail)
        all_goals first
         | (exfalso;omega)
         | exact qao e
      ·have hall:∀ o∈os,waitB o=true:=λo ho=>by
        obtain⟨j,hj⟩:=List.mem_iff_getElem?.1 ho;exact g2 j o (by have:=(List.getElem?_eq_some_iff.1 hj).1;unfold ilen at hon;omega) hj
       replace hT:=hT rfl a3 hall
       clear g0 g1 g2 h' hall hdw;refine qad hS 1 I.qew (λx:Int=>0<=x/\x<=nz/\∀ j:Nat,j<x.toNat->ZOk zs j) (λx=>[(4,.i .i64 (.y x))]) (λ_=>[]) (λx=>(nz-x).toNat) 0 rfl ⟨⟨Int.le_refl _,z0,λj hj=>by simp at hj⟩,rfl,?_,?_,by cbv⟩ ?_
       ·cbv;exact s_qA
       ·cbv;exact s_qA
       intro x hx;cbv;obtain⟨g0,g1,g2⟩:=hx;refine s_br hS ?_ ?_<;>intro h'<;>cbv<;>simp only[<-hS,Int.ofNat_eq_natCast,cq,Bool.not_eq_true',Bool.not_eq_false',decide_eq_true_eq,decide_eq_false_iff_not,beq_iff_eq,beq_eq_false_iff_ne,ne_eq] at h'
       ·obtain⟨z,hy⟩:=qbi (l:=zs) (i:=x) (by omega) g0
        obtain⟨y,hyy⟩:∃ y,0<x->zs[(x-1).toNat]?=some y:=by
         by_cases h0:0<x
         ·obtain⟨y,hy2⟩:=qbi (l:=zs) (i:=x-1) (by omega) (by omega)
          exact⟨y,λ_=>hy2⟩
         ·exact⟨z,λh1=>absurd h1 h0⟩
        have hzk:ZOk zs x.toNat↔(0<=z/\z<=4096)/\(0<x->y<z):=by
         constructor
         ·intro h
          have:=h z hy
          exact⟨this.1,λh0=>this.2 y (by omega) (by rw[show x.toNat-1=(x-1).toNat by omega];exact hyy h0)⟩
         ·rintro ⟨h1,h2⟩ z' hz'
          rw[hy] at hz';cases hz';refine⟨h1,λy' h0 hy'=>?_⟩;rw[show x.toNat-1=(x-1).toNat by omega,hyy (by omega)] at hy';cases hy';exact h2 (by omega)
        have hbad:¬((0<=z/\z<=4096)/\(0<x->y<z))->t=false:=λh=>hF (.inr (.inr (.inr (.inr (.inl ⟨x.toNat,λh2=>h (hzk.1 h2)⟩)))));have hg2:(0<=z/\z<=4096)/\(0<x->y<z)->∀ r,r=x+1->∀ j:Nat,j<r.toNat->ZOk zs j:=λh r hr j hj=>by
         rcases Nat.lt_or_ge j x.toNat with h2|h2
         ·exact g2 j h2
         ·have:j=x.toNat:=by omega
          subst this;exact hzk.2 h
        repeat' (first|(refine s_ck hS ?_;try cbv)|(refine qac hS ?_ ?_<;>intro h<;>(try cbv)<;>try exact s_ab h)|(refine s_ad hS ?_;intro _ _;try cbv)|(refine s_sb hS ?_;intro _ _;try cbv)|(refine qag hS rfl I.qfc (by decide +kernel) ?_;cbv)|(refine qal hS (enc:=i1) (l:=zs) hn.z hy (λ_=>rfl) g0 (by omega) rfl ?_;cbv)|(refine qfx hS (enc:=i1) (l:=zs) hn.z (hyy (by omega)) (by omega) (λ_=>rfl) (by omega) (by omega) rfl ?_;cbv)|fail)
        all_goals first
         | (exfalso;omega)
         | exact qao (hbad (by omega))
         | (rename_i r e;exact⟨r,by omega,⟨by omega,by omega,hg2 (by omega) r e⟩,rfl,by cbv;exact s_qA,by cbv;exact s_qA,by cbv⟩)
       ·have hall:∀ i,ZOk zs i:=λi=>by
         rcases Nat.lt_or_ge i x.toNat with h2|h2
         ·exact g2 i h2
         ·intro z hz
          have:=(List.getElem?_eq_some_iff.1 hz).1
          unfold ilen at hzn;omega
        replace hT:=hT hall
        clear g0 g1 g2 h' hall;cases c5 with
        | false=>
         have e:=hF (.inr (.inr (.inr (.inr (.inr (.inl rfl))))))
         repeat' (first|(refine qac hS ?_ ?_<;>intro h<;>(try cbv)<;>try exact s_ab h)|(refine quj hS false hc5 ?_;cbv)|fail)
         all_goals first
          | (exfalso;omega)
          | exact qao e
        | true=>
         by_cases hro:(0<=re/\re<=2147483647)/\(0<=ow/\ow<=2147483647)
         ·obtain⟨hr1,hr2⟩:=hro
          replace hT:=hT rfl hr1 hr2
          replace hst:=hst S hS
          cases t1 with
          | false=>
           have e:=hF (.inr (.inr (.inr (.inr (.inr (.inr (.inr (.inr (.inl rfl)))))))))
           repeat' (first|(refine qac hS ?_ ?_<;>intro h<;>(try cbv)<;>try exact s_ab h)|(refine quj hS true hc5 ?_;cbv)|(refine hst _ _ ?_;cbv)|fail)
           all_goals first
            | (exfalso;omega)
            | exact qao e
          | true=>
           replace hrd:=hrd rfl S hS
           have e:t=t2:=by
            cases t2 with
            | true=>exact hT rfl rfl
            | false=>exact hF (.inr (.inr (.inr (.inr (.inr (.inr (.inr (.inr (.inr rfl)))))))))
           subst e
           repeat' (first|(refine qac hS ?_ ?_<;>intro h<;>(try cbv)<;>try exact s_ab h)|(refine quj hS true hc5 ?_;cbv)|(refine hst _ _ ?_;cbv)|(refine hrd _ _ ?_;cbv)|fail)
           all_goals first
            | (exfalso;omega)
            | exact .rfl
         ·have e:t=false:=by
           by_cases hr1:0<=re/\re<=2147483647
           ·exact hF (.inr (.inr (.inr (.inr (.inr (.inr (.inr (.inl λh=>hro ⟨hr1,h⟩))))))))
           ·exact hF (.inr (.inr (.inr (.inr (.inr (.inr (.inl hr1)))))))
          repeat' (first|(refine qac hS ?_ ?_<;>intro h<;>(try cbv)<;>try exact s_ab h)|(refine quj hS true hc5 ?_;cbv)|fail)
          all_goals first
           | (exfalso;omega)
           | exact qao e
    | false=>
     replace a2:=a2 rfl
     repeat' (first|(refine qac hS ?_ ?_<;>intro h<;>(try cbv)<;>try exact s_ab h)|(refine qzalm hS true hn.r hn.rn hc2 (by omega) ?_;cbv)|fail)
     all_goals (try (exfalso;omega))
     refine qad hS 1 I.qev (λx:Int=>0<=x/\x<=no/\∀ (j:Nat) (o:Ot),j<x.toNat->os[j]?=some o->waitB o=true) (λx=>[(3,.i .i64 (.y x))]) (λ_=>[]) (λx=>(no-x).toNat) 0 rfl ⟨⟨Int.le_refl _,o0,λj o hj=>by simp at hj⟩,rfl,?_,?_,by cbv⟩ ?_
     ·cbv;exact s_qA
     ·cbv;exact s_qA
     intro x hx;cbv;obtain⟨g0,g1,g2⟩:=hx;refine s_br hS ?_ ?_<;>intro h'<;>cbv<;>simp only[<-hS,Int.ofNat_eq_natCast,cq,Bool.not_eq_true',Bool.not_eq_false',decide_eq_true_eq,decide_eq_false_iff_not,beq_iff_eq,beq_eq_false_iff_ne,ne_eq] at h'
     ·obtain⟨o,hy⟩:=qbi (l:=os) (i:=x) (by omega) g0
      obtain⟨D,dn,Q,qn,Lf,ln,hN⟩:=ot_n o;have hmk:=qzago o hN;have hom:=List.mem_of_getElem? hy;have hdo:=hdw o hom D dn Q qn Lf ln hN;cases hwo:waitB o with
      | true=>
       have hg2:∀ r,r=x+1->∀ (j:Nat) (p:Ot),j<r.toNat->os[j]?=some p->waitB p=true:=λr hr j p hj hp=>by
        rcases Nat.lt_or_ge j x.toNat with h2|h2
        ·exact g2 j p h2 hp
        ·have:j=x.toNat:=by omega
         subst this;rw[hy] at hp;cases hp;exact hwo
       rw[hwo] at hdo;obtain⟨k,ost,sz,co,da,ps,li⟩:=o;unfold otK at hdo;dsimp only at hdo;rw[hS] at hdo
       repeat' (first|(refine s_ck hS ?_;try cbv)|(refine qac hS ?_ ?_<;>intro h<;>(try cbv)<;>try exact s_ab h)|(refine s_ad hS ?_;intro _ _;try cbv)|(refine qal hS (enc:=otC) (l:=os) hn.o hy (λ_=>rfl) g0 (by omega) hmk ?_;cbv)|(refine hdo _ _ ?_;cbv)|fail)
       all_goals first
        | (exfalso;omega)
        | (rename_i r e;exact⟨r,by omega,⟨by omega,by omega,hg2 r e⟩,rfl,by cbv;exact s_qA,by cbv;exact s_qA,by cbv⟩)
      | false=>
       have e:=hF (.inr (.inr (.inr (.inl ⟨o,hom,hwo⟩))));rw[hwo] at hdo;obtain⟨k,ost,sz,co,da,ps,li⟩:=o;unfold otK at hdo;dsimp only at hdo;rw[hS] at hdo
       repeat' (first|(refine s_ck hS ?_;try cbv)|(refine qac hS ?_ ?_<;>intro h<;>(try cbv)<;>try exact s_ab h)|(refine qal hS (enc:=otC) (l:=os) hn.o hy (λ_=>rfl) g0 (by omega) hmk ?_;cbv)|(refine hdo _ _ ?_;cbv)|fail)
       all_goals first
        | (exfalso;omega)
        | exact qao e
     ·have hall:∀ o∈os,waitB o=true:=λo ho=>by
       obtain⟨j,hj⟩:=List.mem_iff_getElem?.1 ho;exact g2 j o (by have:=(List.getElem?_eq_some_iff.1 hj).1;unfold ilen at hon;omega) hj
      replace hT:=hT rfl a3 hall
      clear g0 g1 g2 h' hall hdw;refine qad hS 1 I.qew (λx:Int=>0<=x/\x<=nz/\∀ j:Nat,j<x.toNat->ZOk zs j) (λx=>[(4,.i .i64 (.y x))]) (λ_=>[]) (λx=>(nz-x).toNat) 0 rfl ⟨⟨Int.le_refl _,z0,λj hj=>by simp at hj⟩,rfl,?_,?_,by cbv⟩ ?_
      ·cbv;exact s_qA
      ·cbv;exact s_qA
      intro x hx;cbv;obtain⟨g0,g1,g2⟩:=hx;refine s_br hS ?_ ?_<;>intro h'<;>cbv<;>simp only[<-hS,Int.ofNat_eq_natCast,cq,Bool.not_eq_true',Bool.not_eq_false',decide_eq_true_eq,decide_eq_false_iff_not,beq_iff_eq,beq_eq_false_iff_ne,ne_eq] at h'
      ·obtain⟨z,hy⟩:=qbi (l:=zs) (i:=x) (by omega) g0
       obtain⟨y,hyy⟩:∃ y,0<x->zs[(x-1).toNat]?=some y:=by
        by_cases h0:0<x
        ·obtain⟨y,hy2⟩:=qbi (l:=zs) (i:=x-1) (by omega) (by omega)
         exact⟨y,λ_=>hy2⟩
        ·exact⟨z,λh1=>absurd h1 h0⟩
       have hzk:ZOk zs x.toNat↔(0<=z/\z<=4096)/\(0<x->y<z):=by
        constructor
        ·intro h
         have:=h z hy
         exact⟨this.1,λh0=>this.2 y (by omega) (by rw[show x.toNat-1=(x-1).toNat by omega];exact hyy h0)⟩
        ·rintro ⟨h1,h2⟩ z' hz'
         rw[hy] at hz';cases hz';refine⟨h1,λy' h0 hy'=>?_⟩;rw[show x.toNat-1=(x-1).toNat by omega,hyy (by omega)] at hy';cases hy';exact h2 (by omega)
       have hbad:¬((0<=z/\z<=4096)/\(0<x->y<z))->t=false:=λh=>hF (.inr (.inr (.inr (.inr (.inl ⟨x.toNat,λh2=>h (hzk.1 h2)⟩)))));have hg2:(0<=z/\z<=4096)/\(0<x->y<z)->∀ r,r=x+1->∀ j:Nat,j<r.toNat->ZOk zs j:=λh r hr j hj=>by
        rcases Nat.lt_or_ge j x.toNat with h2|h2
        ·exact g2 j h2
        ·have:j=x.toNat:=by omega
         subst this;exact hzk.2 h
       repeat' (first|(refine s_ck hS ?_;try cbv)|(refine qac hS ?_ ?_<;>intro h<;>(try cbv)<;>try exact s_ab h)|(refine s_ad hS ?_;intro _ _;try cbv)|(refine s_sb hS ?_;intro _ _;try cbv)|(refine qag hS rfl I.qfc (by decide +kernel) ?_;cbv)|(refine qal hS (enc:=i1) (l:=zs) hn.z hy (λ_=>rfl) g0 (by omega) rfl ?_;cbv)|(refine qfx hS (enc:=i1) (l:=zs) hn.z (hyy (by omega)) (by omega) (λ_=>rfl) (by omega) (by omega) rfl ?_;cbv)|fail)
       all_goals first
        | (exfalso;omega)
        | exact qao (hbad (by omega))
        | (rename_i r e;exact⟨r,by omega,⟨by omega,by omega,hg2 (by omega) r e⟩,rfl,by cbv;exact s_qA,by cbv;exact s_qA,by cbv⟩)
      ·have hall:∀ i,ZOk zs i:=λi=>by
        rcases Nat.lt_or_ge i x.toNat with h2|h2
        ·exact g2 i h2
        ·intro z hz
         have:=(List.getElem?_eq_some_iff.1 hz).1
         unfold ilen at hzn;omega
       replace hT:=hT hall
       clear g0 g1 g2 h' hall;cases c5 with
       | false=>
        have e:=hF (.inr (.inr (.inr (.inr (.inr (.inl rfl))))))
        repeat' (first|(refine qac hS ?_ ?_<;>intro h<;>(try cbv)<;>try exact s_ab h)|(refine quj hS false hc5 ?_;cbv)|fail)
        all_goals first
         | (exfalso;omega)
         | exact qao e
       | true=>
        by_cases hro:(0<=re/\re<=2147483647)/\(0<=ow/\ow<=2147483647)
        ·obtain⟨hr1,hr2⟩:=hro
         replace hT:=hT rfl hr1 hr2
         replace hst:=hst S hS
         cases t1 with
         | false=>
          have e:=hF (.inr (.inr (.inr (.inr (.inr (.inr (.inr (.inr (.inl rfl)))))))))
          repeat' (first|(refine qac hS ?_ ?_<;>intro h<;>(try cbv)<;>try exact s_ab h)|(refine quj hS true hc5 ?_;cbv)|(refine hst _ _ ?_;cbv)|fail)
          all_goals first
           | (exfalso;omega)
           | exact qao e
         | true=>
          replace hrd:=hrd rfl S hS
          have e:t=t2:=by
           cases t2 with
           | true=>exact hT rfl rfl
           | false=>exact hF (.inr (.inr (.inr (.inr (.inr (.inr (.inr (.inr (.inr rfl)))))))))
          subst e
          repeat' (first|(refine qac hS ?_ ?_<;>intro h<;>(try cbv)<;>try exact s_ab h)|(refine quj hS true hc5 ?_;cbv)|(refine hst _ _ ?_;cbv)|(refine hrd _ _ ?_;cbv)|fail)
          all_goals first
           | (exfalso;omega)
           | exact .rfl
        ·have e:t=false:=by
          by_cases hr1:0<=re/\re<=2147483647
          ·exact hF (.inr (.inr (.inr (.inr (.inr (.inr (.inr (.inl λh=>hro ⟨hr1,h⟩))))))))
          ·exact hF (.inr (.inr (.inr (.inr (.inr (.inr (.inl hr1)))))))
         repeat' (first|(refine qac hS ?_ ?_<;>intro h<;>(try cbv)<;>try exact s_ab h)|(refine quj hS true hc5 ?_;cbv)|fail)
         all_goals first
          | (exfalso;omega)
          | exact qao e
   ·have e:=hF (.inr (.inr (.inl (by omega))))
    cases sh with
    | true=>
     rw[if_pos rfl] at a1
     repeat' (first|(refine qac hS ?_ ?_<;>intro h<;>(try cbv)<;>try exact s_ab h)|(refine qzalm hS true hn.r hn.rn hc2 (by omega) ?_;cbv)|fail)
     all_goals first
      | (exfalso;omega)
      | exact qao e
    | false=>
     rw[if_neg (by decide)] at a1
     repeat' (first|(refine qac hS ?_ ?_<;>intro h<;>(try cbv)<;>try exact s_ab h)|(refine qzalm hS true hn.r hn.rn hc2 (by omega) ?_;cbv)|fail)
     all_goals first
      | (exfalso;omega)
      | exact qao e
 ·have e:=hF (.inl a1)
  cases sh with
  | true=>
   rw[if_pos rfl] at a1
   repeat' (first|(refine qac hS ?_ ?_<;>intro h<;>(try cbv)<;>try exact s_ab h)|fail)
   all_goals first
    | (exfalso;omega)
    | exact qao e
  | false=>
   rw[if_neg (by decide)] at a1
   repeat' (first|(refine qac hS ?_ ?_<;>intro h<;>(try cbv)<;>try exact s_ab h)|fail)
   all_goals first
    | (exfalso;omega)
    | exact qao e
end
end Wr
end Cz
namespace Cz
open Go Go.RowKit Go.Proofs
namespace Wr
def k1:St:=⟨1,1,100,50,0,true,true,[7,8,9],3,false,-1⟩
def k6:St:=⟨1,6,0,0,0,false,false,[],0,false,-1⟩
def wO:Ot:=⟨3,0,0,0,[],[],[]⟩
def kA:Ln:=(openL newL k1).1
def kB:Ln:=(stepL kA 16384 2).1
def kC:Ln:=(stepL kB 16384 2).1
def kD:Ln:=(gotL kC 100).1
def kE:Ln:=(putL kD wO).1
def kI:Ln:=(stepL kE 16384 2).1
def kP:Ln:=(shutL kC 1 2).1
def kQ:Ln:=(giveL kC 3).1
def kR:Ln:=(shiftL kC 3).1
def kU:Ln:=(changeL kC k6).1
def shS (s:St):List Int×List Int×List Bool:=([s.id,s.st,s.se,s.re,s.ow,s.ur,s.sl],s.o,[s.an,s.en,s.ic])
def shO (o:Ot):List Int×List Int:=([o.k,o.st,o.sz,o.co,ilen o.ps,ilen o.li],o.da)
theorem shS_inj {a b:St}(h:shS a=shS b):a=b:=by
 obtain⟨⟩:=a;obtain⟨⟩:=b;simp only[shS,Prod.mk.injEq,List.cons.injEq,and_true] at h;simp only[St.mk.injEq];simp [h]
theorem ilen_z {α:Type}{l:List α}(h:ilen l=0):l=[]:=by
 cases l with
 | nil=>rfl
 | cons a l=>unfold ilen at h;rw[List.length_cons] at h;omega
theorem shO_inj {a b:Ot}(hb:b.ps=[]/\b.li=[]) (h:shO a=shO b):a=b:=by
 obtain⟨k,st,sz,co,da,ps,li⟩:=a;obtain⟨k',st',sz',co',da',ps',li'⟩:=b;obtain⟨h1,h2⟩:=hb;dsimp only at h1 h2;subst h1 h2;simp only[shO,Prod.mk.injEq,List.cons.injEq,and_true] at h;obtain⟨⟨e1,e2,e3,e4,e5,e6⟩,e7⟩:=h;obtain rfl:=ilen_z e5;obtain rfl:=ilen_z e6;simp only[Ot.mk.injEq];simp [*]
theorem os_inj:∀ {l m:List Ot},(∀ o∈m,o.ps=[]/\o.li=[])->l.map shO=m.map shO->l=m
 | [],[],_,_=>rfl
 | [],_::_,_,h=>by simp at h
 | _::_,[],_,h=>by simp at h
 | a::l,b::m,hm,h=>by
  simp only[List.map_cons,List.cons.injEq] at h;rw[shO_inj (hm b (by simp)) h.1,os_inj (λo ho=>hm o (List.mem_cons_of_mem _ ho)) h.2]
theorem map_inj {α β:Type}{f:α->β}(hf:∀ a b,f a=f b->a=b):∀ {l m:List α},l.map f=m.map f->l=m
 | [],[],_=>rfl
 | [],_::_,h=>by simp at h
 | _::_,[],h=>by simp at h
 | a::l,b::m,h=>by
  simp only[List.map_cons,List.cons.injEq] at h;rw[hf a b h.1,map_inj hf h.2]
structure Is (X:Ln) (os:List Ot) (se re ow:Int) (ss:List St) (w h3:Int) (sh:Bool):Prop where
 os:X.os=os
 tm:X.tm=4096
 tr:X.tr=[]
 zs:X.zs=[]
 se:X.se=se
 re:X.re=re
 ow:X.ow=ow
 ss:X.ss=ss
 w:wdI X.L=w
 h0:X.H 0=-1
 h1:X.H 1=-1
 h2:X.H 2=-1
 h3:X.H 3=h3
 h4:X.H 4=-1
 h5:X.H 5=-1
 h6:X.H 6=-1
 h7:X.H 7=-1
 sh:X.sh=sh
def isB (X:Ln) (os:List Ot) (se re ow:Int) (ss:List St) (w h3:Int) (sh:Bool):Bool:=
 decide (X.os.map shO=os.map shO)&&decide (X.tm=4096/\X.tr=[]/\X.zs=[]/\X.se=se/\X.re=re/\X.ow=ow)&&decide (X.ss.map shS=ss.map shS)&&decide (wdI X.L=w/\X.H 0=-1/\X.H 1=-1/\X.H 2=-1/\X.H 3=h3/\X.H 4=-1)&&decide (X.H 5=-1/\X.H 6=-1/\X.H 7=-1/\X.sh=sh)
theorem qxy {X:Ln}{os:List Ot}{se re ow:Int}{ss:List St}{w h3:Int}{sh:Bool}(hm:∀ o∈os,o.ps=[]/\o.li=[]) (h:isB X os se re ow ss w h3 sh=true):Is X os se re ow ss w h3 sh:=by
 unfold isB at h;simp only[Bool.and_eq_true,decide_eq_true_eq] at h;obtain⟨⟨⟨⟨g1,g2,g3,g4,g5,g6,g7⟩,g8⟩,g9,a0,a1,a2,a3,a4⟩,a5,a6,a7,g10⟩:=h;exact⟨os_inj hm g1,g2,g3,g4,g5,g6,g7,map_inj (λ_ _=>shS_inj) g8,g9,a0,a1,a2,a3,a4,a5,a6,a7,g10⟩
def sA:St:=⟨1,1,100,50,0,true,true,[7,8,9],3,false,0⟩
def sB:St:=⟨1,1,98,50,0,true,true,[9],3,false,0⟩
def sC:St:=⟨1,3,97,50,0,true,false,[],3,false,-1⟩
def sR:St:=⟨1,3,100,50,0,true,false,[],3,false,-1⟩
def oP:Ot:=⟨5,1,0,2,[],[],[]⟩
theorem kA_is:Is kA [] 65535 65535 0 [sA] 1152921504606847064 (-1) false:=qxy (by simp [wO,oP]) (by decide +kernel)
theorem kB_is:Is kB [] 65533 65535 0 [sB] 0 0 false:=qxy (by simp [wO,oP]) (by decide +kernel)
theorem qob:Is kC [] 65532 65535 0 [sC] 0 (-1) false:=qxy (by simp [wO,oP]) (by decide +kernel)
theorem kD_is:Is kD [] 65532 65435 100 [sC] 0 (-1) false:=qxy (by simp [wO,oP]) (by decide +kernel)
theorem qzayv:Is kE [wO] 65532 65435 100 [sC] 0 (-1) false:=qxy (by simp [wO,oP]) (by decide +kernel)
theorem kF_is:Is (putL kE wO).1 [wO] 65532 65435 100 [sC] 0 (-1) false:=qxy (by simp [wO,oP]) (by decide +kernel)
theorem kI_is:Is kI [] 65532 65535 0 [sC] 0 (-1) false:=qxy (by simp [wO,oP]) (by decide +kernel)
theorem kP_is:Is kP [oP] 65532 65535 0 [sC] 0 (-1) true:=qxy (by simp [wO,oP]) (by decide +kernel)
theorem kQ_is:Is kQ [] 65535 65535 0 [sC] 0 (-1) false:=qxy (by simp [wO,oP]) (by decide +kernel)
theorem kR_is:Is kR [] 65532 65535 0 [sR] 0 (-1) false:=qxy (by simp [wO,oP]) (by decide +kernel)
theorem kU_is:Is kU [] 65532 65535 0 [] 0 (-1) false:=qxy (by simp [wO,oP]) (by decide +kernel)
theorem kN_is:Is newL [] 65535 65535 0 [] 0 (-1) false:=qxy (by simp [wO,oP]) (by decide +kernel)
theorem kA_t:(openL newL k1).2=true:=by decide +kernel
theorem kB_t:(stepL kA 16384 2).2.1=[0,0,2,0,0,0,0,0,1,7,8]/\(stepL kA 16384 2).2.2.1.k=0/\(stepL kA 16384 2).2.2.1.fl=0/\(stepL kA 16384 2).2.2.1.st=1/\(stepL kA 16384 2).2.2.1.many=2/\(stepL kA 16384 2).2.2.2=true:=by decide +kernel
theorem kC_t:(stepL kB 16384 2).2.1=[0,0,1,0,1,0,0,0,1,9]/\(stepL kB 16384 2).2.2.1.k=0/\(stepL kB 16384 2).2.2.1.fl=1/\(stepL kB 16384 2).2.2.1.st=1/\(stepL kB 16384 2).2.2.1.many=1/\(stepL kB 16384 2).2.2.2=true:=by decide +kernel
theorem kZ_t:(stepL kC 16384 2).2.1=[]/\(stepL kC 16384 2).2.2.1.k=0/\(stepL kC 16384 2).2.2.1.fl=0/\(stepL kC 16384 2).2.2.1.st=0/\(stepL kC 16384 2).2.2.1.many=0/\(stepL kC 16384 2).2.2.2=false:=by decide +kernel
theorem kZ_is:Is (stepL kC 16384 2).1 [] 65532 65535 0 [sC] 0 (-1) false:=qxy (by simp [wO,oP]) (by decide +kernel)
theorem kI_t:(stepL kE 16384 2).2.1=[0,0,4,8,0,0,0,0,0,0,0,0,100]/\(stepL kE 16384 2).2.2.1.k=8/\(stepL kE 16384 2).2.2.1.fl=0/\(stepL kE 16384 2).2.2.1.st=0/\(stepL kE 16384 2).2.2.1.many=100/\(stepL kE 16384 2).2.2.2=true:=by decide +kernel
theorem k_t:(gotL kC 100).2=true/\(putL kD wO).2=true/\(putL kE wO).2=true/\(shutL kC 1 2).2=true/\(putL kP wO).2=false/\(giveL kC 3).2=true/\(shiftL kC 3).2=true/\(changeL kC k6).2=true:=by decide +kernel
theorem kPP_is:Is (putL kP wO).1 [oP] 65532 65535 0 [sC] 0 (-1) true:=qxy (by simp [wO,oP]) (by decide +kernel)
theorem k1_ok:StOk k1:=by
 refine⟨?_,?_,?_,?_,?_,?_,?_,?_,?_⟩<;>first|(unfold Big;decide)|decide|(unfold Hu.BOk;decide)
theorem k6_ok:StOk k6:=by
 refine⟨?_,?_,?_,?_,?_,?_,?_,?_,?_⟩<;>first|(unfold Big;decide)|decide|(unfold Hu.BOk;decide)
theorem wO_ok:OtOk wO:=by
 refine⟨?_,?_,?_,?_,?_,?_,?_,?_,?_,?_⟩<;>first|(unfold Big;decide)|decide|(unfold Hu.BOk;decide)
theorem gA:GdL kA:=open_gd new_gd k1_ok
theorem gB:GdL kB:=(qzauw gA).1
theorem gC:GdL kC:=(qzauw gB).1
theorem gD:GdL kD:=got_gd gC
theorem gE:GdL kE:=put_gd gD wO_ok
theorem gP:GdL kP:=shut_gd gC (by decide)
end Wr
end Cz
namespace Cz
open Go Go.RowKit Go.Proofs
namespace Wr
structure BI (X:Ln) (all owed:Int) (more:Bool):Prop where
 gd:GdL X
 sum:X.re+X.ow=all
 ow:X.ow=owed
 sh:X.sh=false
 os:X.os=if more=true then [wO] else []
 le:all<=2147483647
theorem bi_gotT {X:Ln}{all owed c:Int}{m:Bool}(h:BI X all owed m) (hc:0<=c/\c<=X.re):gotL X c=({ X with re:=X.re-c,ow:=X.ow+c },true)/\BI { X with re:=X.re-c,ow:=X.ow+c } all (owed+c) m:=by
 obtain⟨h1,h2,h3,h4,h5,h6⟩:=h;have hg:=got_gd (n:=c) h1;have hre:=h1.re;have how:=h1.ow;have e:gotL X c=({ X with re:=X.re-c,ow:=X.ow+c },true):=by
  unfold gotL;rw[if_pos hc,show min (X.ow+c) 2147483647=X.ow+c by omega]
 rw[e] at hg;exact⟨e,hg,by dsimp only;omega,by dsimp only;omega,h4,h5,h6⟩
theorem bi_gotF {X:Ln}{all owed c:Int}{m:Bool}(h:BI X all owed m) (hc:¬(0<=c/\c<=X.re)):gotL X c=(X,false):=by
 unfold gotL;rw[if_neg hc]
theorem bi_put {X:Ln}{all owed:Int}{m:Bool}(h:BI X all owed m):putL X wO=({ X with os:=[wO] },true)/\BI { X with os:=[wO] } all owed true:=by
 obtain⟨h1,h2,h3,h4,h5,h6⟩:=h;have hg:=put_gd h1 wO_ok;have hw:waitB wO=true:=by decide
 have e:putL X wO=({ X with os:=[wO] },true):=by
  obtain⟨os,tm,tr,zs,se,re,ow,ss,L,H,sh⟩:=X;dsimp only at h4 h5 ⊢;subst h4 h5;unfold putL;cases m with
  | true=>simp [ilen,wO,sameW];decide
  | false=>simp [ilen,wO];decide
 rw[e] at hg;exact⟨e,⟨hg,h2,h3,h4,rfl,h6⟩⟩
theorem step_0 {X Y:Ln}{b:List Int}{g:Gn}{t:Bool}{m c:Int}(ho:X.os=[]) (h:stepL X m c=(Y,b,g,t)) (hg:GdL X):g.k=0:=by
 unfold stepL at h;rw[ho] at h;simp only[popL] at h;split at h
 ·cases h;rfl
 ·split at h
  ·cases h;rfl
  ·rename_i hd
   cases h;have hX:({ X with os:=[] }:Ln)=X:=by rw[<-ho]
   rw[hX] at hd;exact (qzabc hg hd).2.2.2
theorem goes_win (X:Ln):goesL X wO=((backL X 0).1,if (backL X 0).2=0 then [] else [⟨8,0,0,[],0,(backL X 0).2,0,[]⟩]):=by
 have e:goesL X wO=((backL X wO.st).1,if (backL X wO.st).2=0 then [] else [⟨8,0,wO.st,[],0,(backL X wO.st).2,0,[]⟩]):=by
  unfold goesL;rw[if_neg (by decide),if_neg (by decide),if_neg (by decide),if_pos (by decide)]
 exact e
theorem bi_end {X:Ln}{all owed:Int}{m:Bool}(h:BI X all owed m):∃ (Y:Ln) (b:List Int) (g:Gn) (t:Bool),stepL X 1 1=(Y,b,g,t)/\GdL Y/\0<=owed/\owed<=2147483647 /\
  ((m=false∨owed=0)->t=true->g.k=0) /\
  (m=true->owed≠0->t=true/\Y.os=[]/\b=putB ⟨8,0,0,[],0,owed,0,[]⟩/\g=⟨8,0,0,owed⟩/\Y.re=all/\Y.ow=0):=by
 obtain⟨h1,h2,h3,h4,h5,h6⟩:=h;have hre:=h1.re;have how:=h1.ow;have hs:=(qzauw (most:=1) (cut:=1) h1).1;obtain⟨⟨Y,b,g,t⟩,hst⟩:∃ r,stepL X 1 1=r:=⟨_,rfl⟩;rw[hst] at hs;refine⟨Y,b,g,t,hst,hs,by omega,by omega,λhm ht=>?_,λhm h0=>?_⟩
 ·cases m with
  | false=>exact step_0 h5 hst h1
  | true=>
   have h0:owed=0:=by
    rcases hm with h|h
    ·cases h
    ·exact h
   have hb:backL X 0=({ X with ow:=0,re:=min (X.re+X.ow) 2147483647 },0):=by
    unfold backL;rw[if_pos rfl];rw[h3,h0]
   have hgo:goesL X wO=({ X with ow:=0,re:=min (X.re+X.ow) 2147483647 },[]):=by
    rw[goes_win,hb,if_pos rfl]
   have hpop:popL X.os X=({ X with ow:=0,re:=min (X.re+X.ow) 2147483647,os:=[] },[]):=by
    rw[h5,if_pos rfl];simp only[popL];rw[hgo];rfl
   have hk:GdL { X with ow:=0,re:=min (X.re+X.ow) 2147483647,os:=[] }:=by
    have:=(pop_gd (os:=X.os) (X:=X) h1 (λ_ h=>h) (Nat.le_refl _)).1
    rw[hpop] at this;exact this
   unfold stepL at hst;rw[hpop] at hst;dsimp only at hst;split at hst
   ·cases hst;rfl
   ·split at hst
    ·cases hst;rfl
    ·rename_i hd
     cases hst;exact (qzabc hk hd).2.2.2
 ·have hb:backL X 0=({ X with ow:=0,re:=min (X.re+X.ow) 2147483647 },owed):=by
   unfold backL;rw[if_pos rfl];rw[h3]
  have hgo:goesL X wO=({ X with ow:=0,re:=min (X.re+X.ow) 2147483647 },[⟨8,0,0,[],0,owed,0,[]⟩]):=by
   rw[goes_win,hb,if_neg h0]
  have hpop:popL X.os X=({ X with ow:=0,re:=min (X.re+X.ow) 2147483647,os:=[] },[⟨8,0,0,[],0,owed,0,[]⟩]):=by
   rw[h5,if_pos hm];simp only[popL];rw[hgo];rfl
  unfold stepL at hst;rw[hpop] at hst;dsimp only at hst;cases hst;exact⟨rfl,rfl,by simp,rfl,by dsimp only;omega,rfl⟩
end Wr
end Cz
