/- What the claims of this group lean on: WrG WrH WrI WrJ WrK WrL WrM. No condition. -/
import Derived.Test.YtfijlhdheiebcaaGreatDoorKB18
import Derived.Test.YtfijlhdheiebcaaGreatDoorKB19
set_option linter.unusedSimpArgs false
set_option linter.unusedVariables false
set_option maxRecDepth 100000
set_option maxHeartbeats 4000000
namespace Cz
open Go Go.RowKit Go.Proofs
namespace Wr
section
variable {S:Sy}{l:List Blk}{K:SV->List Blk->Prop}
theorem wpush_u (hS:S0 Tryz.prog=S) {w s u:Int}{L:List (Int×Int)}(hw:w=wdI L) (hL:Good L) (hs:0<=s/\s<=7) (hu:0<=u/\u<=7) (w':Int) (ht:findB L s=false) (hw':w'=wdI (insL L (s,u))) (h:K (.tp [.i .u64 (.y w'),.tt]) l):S.call 191 [.i .u64 (.y w),.i .i64 (.y s),.i .i64 (.y u)] l K:=by
 subst hS;exact qai (qae (wpush_f (t:=true) hL hw hs hu ht hw') λx _ hx=>⟨.tp [.i .u64 (.y w'),.tt],hx.trans (qpw (.cons .rfl (.cons (qbt rfl) .nil))),.rfl⟩) rfl rfl h
end
theorem rpush_f {L:List (Int×Int)}{H:Nat->Int}{w w' s u:Int}(hR:GoodR L H) (hw:w=wdI L) (hs:0<=s/\s<=7) (hu:0<=u/\u<=7) (hn:ofB (allR L H) s=false) (hw':w'=wdI (insL L (s,u))):
  (S0 Tryz.prog).call 135 [rdyV w H,.i .i64 (.y s),.i .i64 (.y u)] [] (λx _=>Sub x (.tp [rdyV w' H,.tt])):=by
 obtain⟨k,hk⟩:∃ k,ofK (allR L H) s=k:=⟨_,rfl⟩;have hf:=(qya hR hs hu hn).1;unfold rdyV rdyC;generalize hS:S0 Tryz.prog=S;refine qaa hS I.qzasw ?_;cbv
 repeat' (first|(refine qac hS ?_ ?_<;>intro h<;>(try cbv)<;>try exact s_ab h)|(refine qzajf hS (H:=H) hR hw k false hk hn ?_;cbv)|(refine wpush_u hS hw hR.w hs hu w' hf hw' ?_;cbv)|(refine qkv hS (H:=H) hR hw ?_;cbv)|fail)
 all_goals exact s_qA
section
variable {S:Sy}{l:List Blk}{K:SV->List Blk->Prop}
theorem qzavb (hS:S0 Tryz.prog=S) {L:List (Int×Int)}{H:Nat->Int}{w s u:Int}(hR:GoodR L H) (hw:w=wdI L) (hs:0<=s/\s<=7) (hu:0<=u/\u<=7) (hn:ofB (allR L H) s=false) (w':Int) (hw':w'=wdI (insL L (s,u))) (h:K (.tp [.ag (rdyC w' H),.tt]) l):
  S.call 135 [.ag (rdyC w H),.i .i64 (.y s),.i .i64 (.y u)] l K:=by
 subst hS;exact qai (qae (rpush_f hR hw hs hu hn hw') λx _ hx=>⟨_,hx,.rfl⟩) rfl rfl h
end
theorem rturn_f {L L':List (Int×Int)}{H H':Nat->Int}{w w' s u k:Int}(hR:GoodR L H) (hw:w=wdI L) (hs:0<=s/\s<=7) (hu:0<=u/\u<=7) (hk:ofK (allR L H) s=k) (hb:ofB (allR L H) s=true) (hne:k≠u) (ho:outR L H s=((L',H'),true)) (hw':w'=wdI (insL L' (s,u))):
  (S0 Tryz.prog).call 136 [rdyV w H,.i .i64 (.y s),.i .i64 (.y u)] [] (λx _=>Sub x (.tp [rdyV w' H',.tt])):=by
 obtain⟨q1,q2,q3⟩:=out_r hR ho;have hn:ofB (allR L' H') s=false:=by
  cases e:ofB (allR L' H') s with
  | false=>rfl
  | true=>
   obtain⟨y,hy,hys⟩:=List.mem_map.1 (qwy.1 e);rw[q3] at hy;exact absurd hys (qzagm.1 hy).2
 obtain⟨w1,hw1⟩:∃ w1,w1=wdI L':=⟨_,rfl⟩;unfold rdyV rdyC;generalize hS:S0 Tryz.prog=S;refine qaa hS I.qzasv ?_;cbv
 repeat' (first|(refine qac hS ?_ ?_<;>intro h<;>(try cbv)<;>try exact s_ab h)|(refine qzajf hS (H:=H) hR hw k true hk hb ?_;cbv)|(refine rout_u hS (H:=H) hR hw ho hw1 ?_;cbv)|(refine qzavb hS (H:=H') q2 hw1 hs hu hn w' hw' ?_;cbv)|(refine qaa hS I.qdb ?_;cbv)|(refine qbd hS (c:=8) rfl ?_;intro _ _;cbv)|fail)
 all_goals first
  | exact s_qA
  | (exfalso;omega)
theorem rbegin_f {L L':List (Int×Int)}{H H':Nat->Int}{w w' s k:Int}{t t':Bool}(hR:GoodR L H) (hw:w=wdI L) (hn:nxtR (allR L H)=((s,k),t)) (ho:outR L H s=((L',H'),t')) (hw':w'=wdI L'):
  (S0 Tryz.prog).call 104 [rdyV w H] [] (λx _=>Sub x (.tp [rdyV w' H',.i .i64 (.y s),.i .i64 (.y k),.b t])):=by
 cases t with
 | false=>
  have hA:allR L H=[]:=by
   cases e:allR L H with
   | nil=>rfl
   | cons y A=>rw[e] at hn;cases hn
  have hb:ofB (allR L H) s=false:=by rw[hA];rfl
  unfold outR at ho;rw[hb,if_neg (by decide)] at ho;cases ho
  have:w'=w:=by rw[hw',hw]
  subst this;unfold rdyV rdyC;generalize hS:S0 Tryz.prog=S;refine qaa hS I.qyj ?_;cbv
  repeat' (first|(refine qac hS ?_ ?_<;>intro h<;>(try cbv)<;>try exact s_ab h)|(refine rnext_u hS (H:=H) hR hw s k false hn ?_;cbv)|fail)
  all_goals exact s_qA
 | true=>
  unfold rdyV rdyC;generalize hS:S0 Tryz.prog=S;refine qaa hS I.qyj ?_;cbv
  repeat' (first|(refine qac hS ?_ ?_<;>intro h<;>(try cbv)<;>try exact s_ab h)|(refine rnext_u hS (H:=H) hR hw s k true hn ?_;cbv)|(refine rout_u hS (H:=H) hR hw ho hw' ?_;cbv)|fail)
  all_goals exact s_qA
def overR (L:List (Int×Int)) (H:Nat->Int) (s u:Int) (inc rd:Bool):List (Int×Int)×(Nat->Int):=
 if rd=true then (if inc=true∨0<=H u.toNat then (insL L (s,u),H) else (L,up H u.toNat s)) else (L,H)
theorem rover_f {L L' : List (Int × Int)} {H H' : Nat → Int} {w w' s u : Int} {inc rd : Bool} (hR : GoodR L H) (hw : w = wdI L) (hs : 0 ≤ s ∧ s ≤ 7) (hu : 0 ≤ u ∧ u ≤ 7) (hn : ofB (allR L H) s = false) (ho : overR L H s u inc rd = (L', H')) (hw' : w' = wdI L') :
    (S0 Tryz.prog).call 111 [rdyV w H, .i .i64 (.y s), .i .i64 (.y u), .b inc, .b rd] [] (fun x _ => Sub x (.tp [rdyV w' H', .tt])) := by
  obtain ⟨k, hk⟩ : ∃ k, ofK (allR L H) s = k := ⟨_, rfl⟩
  have hkc : u = 0 ∨ u = 1 ∨ u = 2 ∨ u = 3 ∨ u = 4 ∨ u = 5 ∨ u = 6 ∨ u = 7 := by omega
  unfold overR at ho
  unfold rdyV rdyC
  cases rd with
  | false =>
    rw [if_neg (by decide)] at ho
    cases ho
    have : w' = w := by rw [hw', hw]
    subst this
    generalize hS : S0 Tryz.prog = S
    refine qaa hS I.qqx ?_
    cbv
    repeat' (first | (refine qac hS ?_ ?_ <;> intro h <;> (try cbv) <;> try exact s_ab h) | (refine qzajf hS (H := H) hR hw k false hk hn ?_; cbv) | (refine qkv hS (H := H) hR hw ?_; cbv) | (refine qaa hS I.qdb ?_; cbv) | (refine qbd hS (c := 8) rfl ?_; intro _ _; cbv) | fail)
    all_goals first
      | exact s_qA
      | (exfalso; omega)
  | true =>
    rw [if_pos rfl] at ho
    by_cases hi : inc = true ∨ 0 ≤ H u.toNat
    · rw [if_pos hi] at ho
      cases ho
      generalize hS : S0 Tryz.prog = S
      refine qaa hS I.qqx ?_
      cbv
      rcases hkc with rfl | rfl | rfl | rfl | rfl | rfl | rfl | rfl
      all_goals
        dsimp only [Int.toNat] at hi
        cases inc <;> cbv
      all_goals
        repeat' (first | (refine s_ck hS ?_; try cbv) | (refine qac hS ?_ ?_ <;> intro h <;> (try cbv) <;> try exact s_ab h) | (refine qzajf hS (H := H) hR hw k false hk hn ?_; cbv) | (refine qzavb hS (H := H) hR hw hs hu hn w' hw' ?_; cbv) | (refine qkv hS (H := H) hR hw ?_; cbv) | (refine qaa hS I.qdb ?_; cbv) | (refine qbd hS (c := 8) rfl ?_; intro _ _; cbv) | fail)
      all_goals first
        | (exfalso; rcases hi with hi | hi <;> first | omega | exact absurd hi (by decide))
        | exact s_qA
    · rw [if_neg hi] at ho
      cases ho
      have : w' = w := by rw [hw', hw]
      subst this
      have hi1 : inc = false := by cases inc; · rfl
                                   · exact absurd (.inl rfl) hi
      have hi2 : H u.toNat < 0 := by by_cases h0 : 0 ≤ H u.toNat; · exact absurd (.inr h0) hi
                                     · omega
      subst hi1
      clear hi
      generalize hS : S0 Tryz.prog = S
      refine qaa hS I.qqx ?_
      cbv
      rcases hkc with rfl | rfl | rfl | rfl | rfl | rfl | rfl | rfl
      all_goals
        dsimp only [Int.toNat] at hi2
        repeat' (first | (refine s_ck hS ?_; try cbv) | (refine qac hS ?_ ?_ <;> intro h <;> (try cbv) <;> try exact s_ab h) | (refine qzajf hS (H := H) hR hw k false hk hn ?_; cbv) | (refine qkv hS (H := H) hR hw ?_; cbv) | (refine qaa hS I.qdb ?_; cbv) | (refine qbd hS (c := 8) rfl ?_; intro _ _; cbv) | fail)
      all_goals first
        | exact s_qA
        | (exfalso; omega)
end Wr
end Cz
namespace Cz
open Go Go.RowKit Go.Proofs
namespace Wr
def Big (w:Int):Prop:=-9223372036854775808<=w/\w<=9223372036854775807
def wB (w:Int):Bool:=decide (-2147483647<=w/\w<=2147483647)
def canI (w:Int):Int:=if 0<=w/\w<=2147483647 then w else 0
def movI (w by':Int) (so:Bool):Int×Bool:=if so=true/\wB w=true/\wB (w+by')=true then (w+by',true) else (w,false)
def cutI (a b c d e:Int):Int:=max (min (min (min (min (canI a) (canI b)) c) d) e) 0
section
variable {P:Program}{S:Sy}
theorem s_ng {w:Int}{K:Int->Prop}(hS:S0 P=S) (h0:-9223372036854775808<=w) (h1:w<=9223372036854775807) (h:∀ r,r=-w∨(w=-9223372036854775808/\r=-9223372036854775808)->K r):S.ar .sub .i64 0 w K:=by
 by_cases e:w=-9223372036854775808
 ·subst e
  exact qcg hS (-9223372036854775808) (by decide) (h _ (.inr ⟨rfl,rfl⟩))
 ·exact s_sub hS (λr hr=>h r (.inl (by omega))) (by simp only[lo];omega) (by simp only[hi];omega)
end
theorem winR_f {w:Int}{t:Bool}(hw:Big w) (ht:wB w=t):(S0 Tryz.prog).call 133 [.i .i64 (.y w)] [] (λx _=>Sub x (.b t)):=by
 obtain⟨h0,h1⟩:=hw;unfold wB at ht;generalize hS:S0 Tryz.prog=S;refine qaa hS I.qqw ?_;cbv
 repeat' (first|(refine qac hS ?_ ?_<;>intro h<;>(try cbv)<;>try exact s_ab h)|(refine qbd hS (c:=2147483648) rfl ?_;intro _ _;cbv)|(refine s_ng hS h0 h1 ?_;intro _ _;cbv)|fail)
 all_goals
  subst ht
  first
   | (refine qay (decide_eq_true ?_);omega)
   | (refine qao (decide_eq_false ?_);omega)
   | (refine qgc ?_;subst hS;simp only[cr];rw[decide_eq_decide];omega)
theorem can_f {w r:Int}(hw:Big w) (hr:canI w=r):(S0 Tryz.prog).call 163 [.i .i64 (.y w)] [] (λx _=>Sub x (.i .i64 (.y r))):=by
 obtain⟨h0,h1⟩:=hw;unfold canI at hr;generalize hS:S0 Tryz.prog=S;refine qaa hS I.qzaop ?_;cbv
 repeat' (first|(refine qac hS ?_ ?_<;>intro h<;>(try cbv)<;>try exact s_ab h)|(refine qbd hS (c:=2147483648) rfl ?_;intro _ _;cbv)|fail)
 all_goals
  split at hr
  all_goals first
   | (refine qau ?_;simp only[Z.v];omega)
   | (exfalso;omega)
section
variable {S:Sy}{l:List Blk}{K:SV->List Blk->Prop}
theorem winR_u (hS:S0 Tryz.prog=S) {w:Int}(t:Bool) (hw:Big w) (ht:wB w=t) (h:K (.b t) l):S.call 133 [.i .i64 (.y w)] l K:=by
 subst hS;exact qai (qae (winR_f hw ht) λx _ hx=>⟨_,hx,.rfl⟩) rfl rfl h
theorem qzaqc (hS:S0 Tryz.prog=S) {w:Int}(hw:wB w=true) (h:K .tt l):S.call 133 [.i .i64 (.y w)] l K:=by
 subst hS
 have:=of_decide_eq_true hw
 exact qai (qae (winR_f (w:=w) (t:=true) ⟨by omega,by omega⟩ hw) λx _ hx=>⟨.tt,hx.trans (qbt rfl),.rfl⟩) rfl rfl h
theorem winR_n (hS:S0 Tryz.prog=S) {w:Int}(hb:Big w) (hw:wB w=false) (h:K .ff l):S.call 133 [.i .i64 (.y w)] l K:=by
 subst hS;exact qai (qae (winR_f (w:=w) (t:=false) hb hw) λx _ hx=>⟨.ff,hx.trans (qkt rfl),.rfl⟩) rfl rfl h
theorem can_u (hS:S0 Tryz.prog=S) {w:Int}(r:Int) (hw:Big w) (hr:canI w=r) (h:K (.i .i64 (.y r)) l):S.call 163 [.i .i64 (.y w)] l K:=by
 subst hS;exact qai (qae (can_f hw hr) λx _ hx=>⟨_,hx,.rfl⟩) rfl rfl h
end
theorem mov_f {w b r : Int} {so t : Bool} (hw : Big w) (hb : so = true → wB b = true) (hr : movI w b so = (r, t)) : (S0 Tryz.prog).call 138 [.i .i64 (.y w), .i .i64 (.y b), .b so] [] (fun x _ => Sub x (.tp [.i .i64 (.y r), .b t])) := by
  unfold movI at hr
  cases so with
  | false =>
    rw [if_neg (fun h => by cases h.1)] at hr
    cases hr
    generalize hS : S0 Tryz.prog = S
    refine qaa hS I.qdq ?_
    cbv
    repeat' (first | (refine qac hS ?_ ?_ <;> intro h <;> (try cbv) <;> try exact s_ab h) | (refine qtk hS rfl ?_; cbv) | fail)
    all_goals exact s_qA
  | true =>
    have hb2 := of_decide_eq_true (hb rfl)
    by_cases h1 : wB w = true
    · have h2 := of_decide_eq_true h1
      obtain ⟨c, hc⟩ : ∃ c, w + b = c := ⟨_, rfl⟩
      rw [hc] at hr
      have hcb : Big c := ⟨by omega, by omega⟩
      cases h3 : wB c with
      | true =>
        rw [if_pos ⟨rfl, h1, h3⟩] at hr
        cases hr
        generalize hS : S0 Tryz.prog = S
        refine qaa hS I.qdq ?_
        cbv
        repeat' (first | (refine qac hS ?_ ?_ <;> intro h <;> (try cbv) <;> try exact s_ab h) | (refine s_ad hS ?_; intro _ _; try cbv) | (refine qzaqc hS h1 ?_; cbv) | (refine qzaqc hS (by rename_i q hq; rw [hq, hc]; exact h3) ?_; cbv) | fail)
        all_goals exact s_qA
      | false =>
        rw [if_neg (by rw [h3]; exact fun h => by (cases h.2.2))] at hr
        cases hr
        generalize hS : S0 Tryz.prog = S
        refine qaa hS I.qdq ?_
        cbv
        repeat' (first | (refine qac hS ?_ ?_ <;> intro h <;> (try cbv) <;> try exact s_ab h) | (refine s_ad hS ?_; intro _ _; try cbv) | (refine qzaqc hS h1 ?_; cbv) | (refine qtk hS rfl ?_; cbv) | (refine winR_n hS (by rename_i q hq; rw [hq, hc]; exact hcb) (by rename_i q hq; rw [hq, hc]; exact h3) ?_; cbv) | fail)
        all_goals exact s_qA
    · have h2 : wB w = false := by cases e : wB w; · rfl
                                   · exact absurd e h1
      rw [if_neg (by rw [h2]; exact fun h => by (cases h.2.1))] at hr
      cases hr
      generalize hS : S0 Tryz.prog = S
      refine qaa hS I.qdq ?_
      cbv
      repeat' (first | (refine qac hS ?_ ?_ <;> intro h <;> (try cbv) <;> try exact s_ab h) | (refine winR_n hS hw h2 ?_; cbv) | (refine qtk hS rfl ?_; cbv) | fail)
      all_goals exact s_qA
end Wr
end Cz
namespace Cz
open Go Go.RowKit Go.Proofs
namespace Wr
section
variable {S:Sy}{l:List Blk}{K:SV->List Blk->Prop}
theorem mov_u (hS:S0 Tryz.prog=S) {w b:Int}{so:Bool}(r:Int) (t:Bool) (hw:Big w) (hb:so=true->wB b=true) (hr:movI w b so=(r,t)) (h:K (.tp [.i .i64 (.y r),.b t]) l):S.call 138 [.i .i64 (.y w),.i .i64 (.y b),.b so] l K:=by
 subst hS;exact qai (qae (mov_f hw hb hr) λx _ hx=>⟨_,hx,.rfl⟩) rfl rfl h
theorem mov_v (hS:S0 Tryz.prog=S) {w b:Int}(so x:Bool) (r:Int) (t:Bool) (hx:x=so) (hw:Big w) (hb:so=true->wB b=true) (hr:movI w b so=(r,t)) (h:K (.tp [.i .i64 (.y r),.b t]) l):S.call 138 [.i .i64 (.y w),.i .i64 (.y b),.b x] l K:=by
 subst hx;exact mov_u hS r t hw hb hr h
theorem mov_n (hS:S0 Tryz.prog=S) {w b:Int}(h:K (.tp [.i .i64 (.y w),.ff]) l):S.call 138 [.i .i64 (.y w),.i .i64 (.y b),.ff] l K:=by
 refine qaa hS I.qdq ?_;cbv
 repeat' (first|(refine qtk hS rfl ?_;cbv)|fail)
 exact h
theorem s_mn {k:IntKind}{a b:Int}{K:Int->Prop}(hS:S0 Tryz.prog=S) (h:∀ r,r=min a b->K r):S.ar .min k a b K:=qcg hS (min a b) (by simp only[arS];split<;>omega) (h _ rfl)
theorem s_mx {k:IntKind}{a b:Int}{K:Int->Prop}(hS:S0 Tryz.prog=S) (h:∀ r,r=max a b->K r):S.ar .max k a b K:=qcg hS (max a b) (by simp only[arS];split<;>omega) (h _ rfl)
end
theorem shift_f {w b r:Int}{t:Bool}(hw:Big w) (hb:Big b) (hr:movI w b (wB b)=(r,t)):(S0 Tryz.prog).call 140 [.i .i64 (.y w),.i .i64 (.y b)] [] (λx _=>Sub x (.tp [.i .i64 (.y r),.b t])):=by
 obtain⟨so,hso⟩:∃ so,wB b=so:=⟨_,rfl⟩;rw[hso] at hr;have hbs:so=true->wB b=true:=λh=>hso.trans h;generalize hS:S0 Tryz.prog=S;refine qaa hS I.qzahq ?_;cbv
 repeat' (first|(refine winR_u hS so hb hso ?_;cbv)|(refine mov_u hS r t hw hbs hr ?_;cbv)|fail)
 exact s_qA
def givB (n:Int):Bool:=decide (0<n/\n<=2147483647)
theorem give_f {w b r:Int}{t:Bool}(hw:Big w) (hb:Big b) (hr:movI w b (givB b)=(r,t)):(S0 Tryz.prog).call 74 [.i .i64 (.y w),.i .i64 (.y b)] [] (λx _=>Sub x (.tp [.i .i64 (.y r),.b t])):=by
 cases hso:givB b with
 | true=>
  rw[hso] at hr;have h1:=of_decide_eq_true hso;have hbs:true=true->wB b=true:=λ_=>decide_eq_true (by omega);generalize hS:S0 Tryz.prog=S;refine qaa hS I.quf ?_;cbv
  repeat' (first|(refine qac hS ?_ ?_<;>intro h<;>(try cbv)<;>try exact s_ab h)|(refine mov_v hS true _ r t (by subst hS;exact decide_eq_true h1.2) hw hbs hr ?_;cbv)|fail)
  all_goals exact s_qA
 | false=>
  rw[hso] at hr;have h1:=of_decide_eq_false hso;have hr2:=hr;unfold movI at hr2;rw[if_neg (λh=>by cases h.1)] at hr2;cases hr2;generalize hS:S0 Tryz.prog=S;refine qaa hS I.quf ?_;cbv
  repeat' (first|(refine qac hS ?_ ?_<;>intro h<;>(try cbv)<;>try exact s_ab h)|(refine mov_v hS false _ w false (by subst hS;exact decide_eq_false (by omega)) hw (λh=>by cases h) hr ?_;cbv)|(refine mov_n hS ?_;cbv)|fail)
  all_goals exact s_qA
theorem cut_f {a b c d e r:Int}(ha:Big a) (hb:Big b) (hr:cutI a b c d e=r):(S0 Tryz.prog).call 107 [.i .i64 (.y a),.i .i64 (.y b),.i .i64 (.y c),.i .i64 (.y d),.i .i64 (.y e)] [] (λx _=>Sub x (.i .i64 (.y r))):=by
 obtain⟨p,hp⟩:∃ p,canI a=p:=⟨_,rfl⟩;obtain⟨q,hq⟩:∃ q,canI b=q:=⟨_,rfl⟩;unfold cutI at hr;rw[hp,hq] at hr;generalize hS:S0 Tryz.prog=S;refine qaa hS I.qzaoo ?_;cbv
 repeat' (first|(refine can_u hS p ha hp ?_;cbv)|(refine can_u hS q hb hq ?_;cbv)|(refine qaa hS I.qzakk ?_;cbv)|(refine qbq hS I.qzadv ?_;cbv)|(refine qax hS ?_;cbv)|(refine qfw hS rfl rfl ?_;cbv)|(refine s_mn hS ?_;intro _ _;cbv)|(refine s_mx hS ?_;intro _ _;cbv)|fail)
 refine qau ?_;simp only[Z.v];omega
end Wr
end Cz
namespace Cz
open Go Go.RowKit Go.Proofs
namespace Wr
structure St where
 id:Int
 st:Int
 se:Int
 re:Int
 ow:Int
 an:Bool
 en:Bool
 o:List Int
 ur:Int
 ic:Bool
 sl:Int
def stC (s:St):List SV:=[.i .i64 (.y s.id),.i .u8 (.y s.st),.i .i64 (.y s.se),.i .i64 (.y s.re),.i .i64 (.y s.ow),.b s.an,.b s.en,.v false 1 (cellsB s.o) (.y (ilen s.o)),.i .u8 (.y s.ur),.b s.ic,.i .i64 (.y s.sl)]
structure StOk (s:St):Prop where
 id:Big s.id
 st:0<=s.st/\s.st<=255
 se:Big s.se
 re:Big s.re
 ow:Big s.ow
 o:Hu.BOk s.o
 len:ilen s.o<=100000000
 ur:0<=s.ur/\s.ur<=255
 sl:Big s.sl
def ansB (x:Int):Bool:=decide (x=1∨x=2)
def livB (x:Int):Bool:=decide (x=1∨x=2∨x=3)
def stB (s:St):Bool:=decide (s.id%2=1/\0<=s.id/\s.id<=2147483647/\s.st≠0/\s.st<7/\wB s.se=true/\0<=s.re/\s.re<=2147483647/\0<=s.ow/\s.ow<=2147483647/\ilen s.o<=65535/\s.ur<=7/\-1<=s.sl/\s.sl<=7/\(ansB s.st=true∨(ilen s.o=0/\s.en=false)))
def sh1 (x:Int):Int:=arS .shl .i64 1 x
theorem sh6:∀ n:Nat,n<256->(arS .and .i64 (sh1 n) 6≠0↔n=1∨n=2):=by decide +kernel
theorem sh14:∀ n:Nat,n<256->(arS .and .i64 (sh1 n) 14≠0↔n=1∨n=2∨n=3):=by decide +kernel
section
variable {P:Program}{S:Sy}
theorem s_sh1 (hS:S0 P=S) {x:Int}{K:Int->Prop}(h:∀ r,r=sh1 x->K r):S.ar .shl .i64 1 x K:=qcg hS _ rfl (h _ rfl)
theorem s_an6 (hS:S0 P=S) {x r0:Int}{K:Int->Prop}(hr:r0=sh1 x) (h0:0<=x/\x<=255) (h:∀ r,(r≠0↔x=1∨x=2)->K r):S.ar .and .i64 r0 6 K:=by
 subst hr;refine qcg hS _ rfl (h _ ?_)
 have:=sh6 x.toNat (by omega)
 rw[show ((x.toNat:Nat):Int)=x by omega] at this;rw[this];omega
theorem s_an14 (hS:S0 P=S) {x r0:Int}{K:Int->Prop}(hr:r0=sh1 x) (h0:0<=x/\x<=255) (h:∀ r,(r≠0↔x=1∨x=2∨x=3)->K r):S.ar .and .i64 r0 14 K:=by
 subst hr;refine qcg hS _ rfl (h _ ?_)
 have:=sh14 x.toNat (by omega)
 rw[show ((x.toNat:Nat):Int)=x by omega] at this;rw[this];omega
end
theorem qzaim {x:Int}{t:Bool}(h0:0<=x/\x<=255) (ht:ansB x=t):(S0 Tryz.prog).call 67 [.i .u8 (.y x)] [] (λy _=>Sub y (.b t)):=by
 unfold ansB at ht;subst ht;generalize hS:S0 Tryz.prog=S;refine qaa hS I.qzaan ?_;cbv
 repeat' (first|(refine s_ck hS ?_;try cbv)|(refine s_sh1 hS ?_;intro _ _;cbv)|(refine s_an6 hS (by assumption) h0 ?_;intro _ _;cbv)|fail)
 refine qgc ?_;subst hS;simp only[cr];rename_i h;rw[<-decide_not,decide_eq_decide];exact h
theorem live_f {x:Int}{t:Bool}(h0:0<=x/\x<=255) (ht:livB x=t):(S0 Tryz.prog).call 81 [.i .u8 (.y x)] [] (λy _=>Sub y (.b t)):=by
 unfold livB at ht;subst ht;generalize hS:S0 Tryz.prog=S;refine qaa hS I.qzakm ?_;cbv
 repeat' (first|(refine s_ck hS ?_;try cbv)|(refine s_sh1 hS ?_;intro _ _;cbv)|(refine s_an14 hS (by assumption) h0 ?_;intro _ _;cbv)|fail)
 refine qgc ?_;subst hS;simp only[cr];rename_i h;rw[<-decide_not,decide_eq_decide];exact h
section
variable {S:Sy}{l:List Blk}{K:SV->List Blk->Prop}
theorem qcd (hS:S0 Tryz.prog=S) {x:Int}(t:Bool) (h0:0<=x/\x<=255) (ht:ansB x=t) (h:K (.b t) l):S.call 67 [.i .u8 (.y x)] l K:=by
 subst hS;exact qai (qae (qzaim h0 ht) λx _ hx=>⟨_,hx,.rfl⟩) rfl rfl h
theorem qzale (hS:S0 Tryz.prog=S) {x:Int}(t:Bool) (h0:0<=x/\x<=255) (ht:livB x=t) (h:K (.b t) l):S.call 81 [.i .u8 (.y x)] l K:=by
 subst hS;exact qai (qae (live_f h0 ht) λx _ hx=>⟨_,hx,.rfl⟩) rfl rfl h
end
theorem val_fz {l':List Blk}{k:Nat}{lit:Bool}{st z n:Z}{F G:List SV}(hB:l'[k]?=some (.r false lit st 1 G)) (hG:G=F) (hp:plains F=true) (hz:z.v=n.v) (hl:ilen F=n.v) (g:Nat->Nat):Fz l' g [] (.sl k 1 (.l 0) z none) (.v false 1 F n):=by
 subst hG;refine .row hB rfl (.fsub ?_ hp) hp hz;rw[show (Z.l 0).v.toNat*1=0 from rfl,List.drop_zero,List.take_of_length_le]
 ·exact .rfl
 ·unfold ilen at hl;omega
theorem cln_f {b:List Int}{F:List SV}{n:Int}(hF:cellsB b=F) (hn:n=ilen b) (hb:n<=100000000):(S0 Tryz.prog).call 108 [.v false 1 F (.y n)] [] (Tell (.v false 1 F (.y n))):=by
 have hpl:plains F=true:=hF▸qbv b;have hlen:(ilen F:Int)=n:=by rw[<-hF,hn,qsg]
 have h0:=qaj b;generalize hS:S0 Tryz.prog=S;refine qaa hS I.qui ?_;cbv;refine s_nil hS (λh=>?_) ?_
 ·cbv
  have:F=[]:=by rw[<-hF,List.eq_nil_of_length_eq_zero (l:=b) (by unfold ilen at hn;omega)];rfl
  subst this;exact λg=>.nil (by decide) h
 ·cbv
  repeat' (first|(refine s_ck hS ?_;try cbv)|fail)
  have e1:S.app [] F=F:=by subst hS;rw[qfv];rfl
  exact λg=>val_fz (n:=.y n) rfl e1 hpl rfl hlen g
section
variable {S:Sy}{l:List Blk}{K:SV->List Blk->Prop}
theorem qzapa (hS:S0 Tryz.prog=S) {b:List Int}{F:List SV}{n:Int}(hF:cellsB b=F) (hn:n=ilen b) (hb:n<=100000000) (hK:K (.v false 1 F (.y n)) l):S.call 108 [.v false 1 F (.y n)] l K:=
 qaq hS (cln_f hF hn hb) (.cons .rfl .nil) rfl hK
end
theorem sown_f {s:St}(ok:StOk s):(S0 Tryz.prog).call 68 [.ag (stC s)] [] (Tell (.ag (stC s))):=by
 obtain⟨id,st,se,re,ow,an,en,o,ur,ic,sl⟩:=s;have hlen:=ok.len;dsimp only at hlen;obtain⟨F,hF⟩:∃ F,cellsB o=F:=⟨_,rfl⟩;obtain⟨n,hn⟩:∃ n,n=ilen o:=⟨_,rfl⟩;unfold stC;dsimp only;rw[hF,<-hn];generalize hS:S0 Tryz.prog=S;refine qaa hS I.qzaos ?_;cbv
 repeat' (first|(refine qzapa hS hF hn (by omega) ?_;cbv)|fail)
 exact λg=>.sub .rfl rfl
theorem qzamx {s:St}{t:Bool}(ok:StOk s) (ht:stB s=t):(S0 Tryz.prog).call 66 [.ag (stC s)] [] (λx _=>Sub x (.b t)):=by
 obtain⟨id,st,se,re,ow,an,en,o,ur,ic,sl⟩:=s;obtain⟨k1,k2,k3,k4,k5,k6,k7,k8,k9⟩:=ok;unfold stB at ht;dsimp only at *;obtain⟨F,hF⟩:∃ F,cellsB o=F:=⟨_,rfl⟩;obtain⟨n,hn⟩:∃ n,n=ilen o:=⟨_,rfl⟩;have hn0:=qaj o;obtain⟨a,ha⟩:∃ a,ansB st=a:=⟨_,rfl⟩;obtain⟨w,hw⟩:∃ a,wB se=a:=⟨_,rfl⟩;unfold stC;dsimp only;rw[<-hn] at hn0 k7 ht;rw[ha,hw] at ht;rw[hF,<-hn];generalize hS:S0 Tryz.prog=S;refine qaa hS I.qzahr ?_;cbv
 repeat' (first|(refine qac hS ?_ ?_<;>intro h<;>(try cbv)<;>try exact s_ab h)|(refine qku hS (c:=2) (m:=1) (by decide) ?_;intro _ _;cbv)|(refine qaa hS I.qzadw ?_;cbv)|(refine winR_u hS w k3 hw ?_;cbv)|(refine qcd hS a k2 ha ?_;cbv)|(refine qbd hS (c:=8) rfl ?_;intro _ _;cbv)|(refine qtk hS rfl ?_;cbv)|fail)
 all_goals
  subst ht
  first
   | (refine qao (decide_eq_false ?_);omega)
   | (refine qao (decide_eq_false ?_);simp_all;done)
   | (refine qay (decide_eq_true ?_);simp_all;omega)
   | skip
 refine qgc ?_;subst hS;show (!en)=_;cases en with
 | false=>
  refine (decide_eq_true ?_).symm;refine⟨by omega,by omega,by omega,by omega,by omega,by assumption,by omega,by omega,by omega,by omega,by omega,by omega,by omega,by omega,.inr ⟨by omega,rfl⟩⟩
 | true=>
  refine (decide_eq_false ?_).symm;rintro ⟨-,-,-,-,-,-,-,-,-,-,-,-,-,-,h|⟨-,h⟩⟩
  ·simp_all
  ·cases h
section
variable {S:Sy}{l:List Blk}{K:SV->List Blk->Prop}
theorem sown_u (hS:S0 Tryz.prog=S) {s:St}(ok:StOk s) (h:K (.ag (stC s)) l):S.call 68 [.ag (stC s)] l K:=qaq hS (sown_f ok) (.cons .rfl .nil) rfl h
theorem sright_u (hS:S0 Tryz.prog=S) {s:St}(t:Bool) (ok:StOk s) (ht:stB s=t) (h:K (.b t) l):S.call 66 [.ag (stC s)] l K:=by
 subst hS;exact qai (qae (qzamx ok ht) λx _ hx=>⟨_,hx,.rfl⟩) rfl rfl h
end
end Wr
end Cz
namespace Cz
open Go Go.RowKit Go.Proofs
namespace Wr
def sendB (s:St) (all:Int):Bool:=s.an&&ansB s.st&&(if 0<ilen s.o then decide (0<canI s.se)&&decide (0<canI all) else s.en)
theorem sendable_f {s:St}{all:Int}{t:Bool}(ok:StOk s) (ha:Big all) (ht:sendB s all=t):(S0 Tryz.prog).call 112 [.ag (stC s),.i .i64 (.y all)] [] (λx _=>Sub x (.b t)):=by
 obtain⟨id,st,se,re,ow,an,en,o,ur,ic,sl⟩:=s;obtain⟨k1,k2,k3,k4,k5,k6,k7,k8,k9⟩:=ok;unfold sendB at ht;dsimp only at *;obtain⟨F,hF⟩:∃ F,cellsB o=F:=⟨_,rfl⟩;obtain⟨n,hn⟩:∃ n,n=ilen o:=⟨_,rfl⟩;have hn0:=qaj o;obtain⟨a,haa⟩:∃ a,ansB st=a:=⟨_,rfl⟩;obtain⟨p,hp⟩:∃ a,canI se=a:=⟨_,rfl⟩;obtain⟨q,hq⟩:∃ a,canI all=a:=⟨_,rfl⟩;unfold stC;dsimp only;rw[<-hn] at hn0 k7 ht;rw[haa,hp,hq] at ht;rw[hF,<-hn];generalize hS:S0 Tryz.prog=S;refine qaa hS I.qzaak ?_;cbv
 repeat' (first|(refine qac hS ?_ ?_<;>intro h<;>(try cbv)<;>try exact s_ab h)|(refine qcd hS a k2 haa ?_;cbv)|(refine can_u hS p k3 hp ?_;cbv)|(refine can_u hS q ha hq ?_;cbv)|fail)
 all_goals subst ht
 all_goals clear hn hF haa hp hq
 all_goals first
  | (refine qao ?_;simp [*];done)
  | (refine qgc ?_;subst hS;simp only[cmp_gt];simp [*];done)
  | (refine qgc ?_;simp [*];done)
def stK (s:St) (F:List SV) (n:Int):List SV:=[.i .i64 (.y s.id),.i .u8 (.y s.st),.i .i64 (.y s.se),.i .i64 (.y s.re),.i .i64 (.y s.ow),.b s.an,.b s.en,.v false 1 F (.y n),.i .u8 (.y s.ur),.b s.ic,.i .i64 (.y s.sl)]
section
variable {S:Sy}{l:List Blk}{K:SV->List Blk->Prop}{F:List SV}{n:Int}
theorem qeq (hS:S0 Tryz.prog=S) (s:St) (ok:StOk s) (hF:cellsB s.o=F) (hn:n=ilen s.o) (h:K (.ag (stK s F n)) l):S.call 68 [.ag (stK s F n)] l K:=by
 subst hF hn;exact sown_u hS ok h
theorem qci (hS:S0 Tryz.prog=S) (s:St) (t:Bool) (ok:StOk s) (hF:cellsB s.o=F) (hn:n=ilen s.o) (ht:stB s=t) (h:K (.b t) l):S.call 66 [.ag (stK s F n)] l K:=by
 subst hF hn;exact sright_u hS t ok ht h
theorem qcl (hS:S0 Tryz.prog=S) (s:St) {all:Int}(t:Bool) (ok:StOk s) (ha:Big all) (hF:cellsB s.o=F) (hn:n=ilen s.o) (ht:sendB s all=t) (h:K (.b t) l):S.call 112 [.ag (stK s F n),.i .i64 (.y all)] l K:=by
 subst hF hn hS;exact qai (qae (sendable_f ok ha ht) λx _ hx=>⟨_,hx,.rfl⟩) rfl rfl h
end
def overS (s:St) (x:Int):St:=if stB s=true/\x<7/\x≠0 then (if ansB x=true then { s with st:=x } else { s with st:=x,o:=[],en:=false,sl:=-1 }) else s
theorem over_f {s s':St}{x:Int}(ok:StOk s) (hx:0<=x/\x<=255) (hs:overS s x=s'):(S0 Tryz.prog).call 110 [.ag (stC s),.i .u8 (.y x)] [] (Tell (.ag (stC s'))):=by
 obtain⟨t,ht⟩:∃ t,stB s=t:=⟨_,rfl⟩;obtain⟨a,haa⟩:∃ a,ansB x=a:=⟨_,rfl⟩;obtain⟨F,hF⟩:∃ F,cellsB s.o=F:=⟨_,rfl⟩;obtain⟨n,hn⟩:∃ n,n=ilen s.o:=⟨_,rfl⟩;have e1:stC s=stK s F n:=by subst hF hn;rfl
 unfold overS at hs;rw[ht,haa] at hs;rw[e1];by_cases hc:t=true/\x<7/\x≠0
 ·rw[if_pos hc] at hs
  obtain⟨ht1,hx1,hx2⟩:=hc;subst ht1;cases a with
  | true=>
   rw[if_pos rfl] at hs;have e2:stC s'=stK s' F n:=by subst hs hF hn;rfl
   rw[e2];subst hs;obtain⟨id,st,se,re,ow,an,en,o,ur,ic,sl⟩:=s;unfold stK;dsimp only at *;generalize hS:S0 Tryz.prog=S;refine qaa hS I.qlz ?_;cbv
   repeat' (first|(refine qac hS ?_ ?_<;>intro h<;>(try cbv)<;>try exact s_ab h)|(refine qeq hS ⟨id,st,se,re,ow,an,en,o,ur,ic,sl⟩ ok hF hn ?_;cbv)|(refine qci hS ⟨id,st,se,re,ow,an,en,o,ur,ic,sl⟩ true ok hF hn ht ?_;cbv)|(refine qcd hS true hx haa ?_;cbv)|fail)
   exact λg=>.sub .rfl rfl
  | false=>
   rw[if_neg (by decide)] at hs;subst hs;obtain⟨id,st,se,re,ow,an,en,o,ur,ic,sl⟩:=s;unfold stK stC;dsimp only at *;rw[show cellsB []=[] from rfl];generalize hS:S0 Tryz.prog=S;refine qaa hS I.qlz ?_;cbv
   repeat' (first|(refine qac hS ?_ ?_<;>intro h<;>(try cbv)<;>try exact s_ab h)|(refine qeq hS ⟨id,st,se,re,ow,an,en,o,ur,ic,sl⟩ ok hF hn ?_;cbv)|(refine qci hS ⟨id,st,se,re,ow,an,en,o,ur,ic,sl⟩ true ok hF hn ht ?_;cbv)|(refine qcd hS false hx haa ?_;cbv)|fail)
   exact λg=>.ag (.cons (.sub .rfl rfl) (.cons (.sub .rfl rfl) (.cons (.sub .rfl rfl) (.cons (.sub .rfl rfl) (.cons (.sub .rfl rfl) (.cons (.sub .rfl rfl) (.cons (.sub (qao rfl) rfl) (.cons (.nil (by decide) rfl) (.cons (.sub .rfl rfl) (.cons (.sub .rfl rfl) (.cons (.sub (qau rfl) rfl) .nil)))))))))))
 ·rw[if_neg hc] at hs
  subst hs;rw[e1];obtain⟨id,st,se,re,ow,an,en,o,ur,ic,sl⟩:=s;unfold stK;dsimp only at *;generalize hS:S0 Tryz.prog=S;refine qaa hS I.qlz ?_;cbv
  repeat' (first|(refine qac hS ?_ ?_<;>intro h<;>(try cbv)<;>try exact s_ab h)|(refine qeq hS ⟨id,st,se,re,ow,an,en,o,ur,ic,sl⟩ ok hF hn ?_;cbv)|(refine qci hS ⟨id,st,se,re,ow,an,en,o,ur,ic,sl⟩ t ok hF hn ht ?_;cbv)|(refine qcd hS a hx haa ?_;cbv)|fail)
  all_goals first
   | (exfalso;exact hc ⟨by assumption,by omega,by assumption⟩)
   | exact λg=>.sub .rfl rfl
def backS (s:St):St×Int:=if stB s=true then (if s.st=1∨s.st=3 then ({ s with ow:=0,re:=min (s.re+s.ow) 2147483647 },s.ow) else ({ s with ow:=0 },0)) else (s,0)
theorem back_f {s s':St}{k:Int}(ok:StOk s) (hs:backS s=(s',k)):(S0 Tryz.prog).call 161 [.ag (stC s)] [] (Tell (.tp [.ag (stC s'),.i .i64 (.y k)])):=by
 obtain⟨t,ht⟩:∃ t,stB s=t:=⟨_,rfl⟩;obtain⟨F,hF⟩:∃ F,cellsB s.o=F:=⟨_,rfl⟩;obtain⟨n,hn⟩:∃ n,n=ilen s.o:=⟨_,rfl⟩;have e1:stC s=stK s F n:=by subst hF hn;rfl
 have e2:stC s'=stK s' F n:=by
  unfold backS at hs;split at hs
  ·split at hs
   ·cases hs;subst hF hn;rfl
   ·cases hs;subst hF hn;rfl
  ·cases hs;exact e1
 rw[e1,e2];unfold backS at hs;rw[ht] at hs;obtain⟨id,st,se,re,ow,an,en,o,ur,ic,sl⟩:=s;cases t with
 | false=>
  rw[if_neg (by decide)] at hs;cases hs;unfold stK;dsimp only at *;generalize hS:S0 Tryz.prog=S;refine qaa hS I.qma ?_;cbv
  repeat' (first|(refine qac hS ?_ ?_<;>intro h<;>(try cbv)<;>try exact s_ab h)|(refine qeq hS ⟨id,st,se,re,ow,an,en,o,ur,ic,sl⟩ ok hF hn ?_;cbv)|(refine qci hS ⟨id,st,se,re,ow,an,en,o,ur,ic,sl⟩ false ok hF hn ht ?_;cbv)|fail)
  exact λg=>.tp (.cons (.sub .rfl rfl) (.cons (.sub (qau rfl) rfl) .nil))
 | true=>
  have hb:=of_decide_eq_true ht;dsimp only at hb hs;rw[if_pos rfl] at hs;by_cases hc:st=1∨st=3
  ·rw[if_pos hc] at hs
   obtain⟨hs1,hs2⟩:=Prod.mk.inj hs;subst hs1;subst hs2;unfold stK;dsimp only at *;obtain⟨r,hr⟩:∃ r,min (re+ow) 2147483647=r:=⟨_,rfl⟩;rw[hr];generalize hS:S0 Tryz.prog=S;refine qaa hS I.qma ?_;cbv
   repeat' (first|(refine qac hS ?_ ?_<;>intro h<;>(try cbv)<;>try exact s_ab h)|(refine s_ad hS ?_;intro _ _;try cbv)|(refine qeq hS ⟨id,st,se,re,ow,an,en,o,ur,ic,sl⟩ ok hF hn ?_;cbv)|(refine qci hS ⟨id,st,se,re,ow,an,en,o,ur,ic,sl⟩ true ok hF hn ht ?_;cbv)|(refine s_mn hS ?_;intro _ _;cbv)|fail)
   all_goals first
    | (exfalso;omega)
    | exact λg=>.tp (.cons (.sub s_qA rfl) (.cons (.sub s_qA rfl) .nil))
  ·rw[if_neg hc] at hs
   cases hs;unfold stK;dsimp only at *;generalize hS:S0 Tryz.prog=S;refine qaa hS I.qma ?_;cbv
   repeat' (first|(refine qac hS ?_ ?_<;>intro h<;>(try cbv)<;>try exact s_ab h)|(refine qeq hS ⟨id,st,se,re,ow,an,en,o,ur,ic,sl⟩ ok hF hn ?_;cbv)|(refine qci hS ⟨id,st,se,re,ow,an,en,o,ur,ic,sl⟩ true ok hF hn ht ?_;cbv)|fail)
   all_goals first
    | (exfalso;omega)
    | exact λg=>.tp (.cons (.sub s_qA rfl) (.cons (.sub s_qA rfl) .nil))
section
variable {S:Sy}{l:List Blk}{K:SV->List Blk->Prop}{F:List SV}{n:Int}
theorem over_w (hS:S0 Tryz.prog=S) (s:St) {s':St}{x:Int}{F':List SV}{n':Int}(ok:StOk s) (hx:0<=x/\x<=255) (hF:cellsB s.o=F) (hn:n=ilen s.o) (hs:overS s x=s') (hF':cellsB s'.o=F') (hn':n'=ilen s'.o) (h:K (.ag (stK s' F' n')) l):S.call 110 [.ag (stK s F n),.i .u8 (.y x)] l K:=by
 subst hF hn hF' hn';exact qaq hS (over_f ok hx hs) (.cons .rfl (.cons .rfl .nil)) rfl h
theorem back_w (hS:S0 Tryz.prog=S) (s:St) {s':St}{k:Int}{F':List SV}{n':Int}(ok:StOk s) (hF:cellsB s.o=F) (hn:n=ilen s.o) (hs:backS s=(s',k)) (hF':cellsB s'.o=F') (hn':n'=ilen s'.o) (h:K (.tp [.ag (stK s' F' n'),.i .i64 (.y k)]) l):S.call 161 [.ag (stK s F n)] l K:=by
 subst hF hn hF' hn';exact qaq hS (back_f ok hs) (.cons .rfl .nil) rfl h
end
end Wr
end Cz
namespace Cz
open Go Go.RowKit Go.Proofs
namespace Wr
section
variable {S:Sy}{l:List Blk}{K:SV->List Blk->Prop}{F:List SV}{n:Int}
theorem shift_u (hS:S0 Tryz.prog=S) {w b:Int}(r:Int) (t:Bool) (hw:Big w) (hb:Big b) (hr:movI w b (wB b)=(r,t)) (h:K (.tp [.i .i64 (.y r),.b t]) l):S.call 140 [.i .i64 (.y w),.i .i64 (.y b)] l K:=by
 subst hS;exact qai (qae (shift_f hw hb hr) λx _ hx=>⟨_,hx,.rfl⟩) rfl rfl h
theorem give_u (hS:S0 Tryz.prog=S) {w b:Int}(r:Int) (t:Bool) (hw:Big w) (hb:Big b) (hr:movI w b (givB b)=(r,t)) (h:K (.tp [.i .i64 (.y r),.b t]) l):S.call 74 [.i .i64 (.y w),.i .i64 (.y b)] l K:=by
 subst hS;exact qai (qae (give_f hw hb hr) λx _ hx=>⟨_,hx,.rfl⟩) rfl rfl h
theorem cut_u (hS:S0 Tryz.prog=S) {a b c d e:Int}(r:Int) (ha:Big a) (hb:Big b) (hr:cutI a b c d e=r) (h:K (.i .i64 (.y r)) l):S.call 107 [.i .i64 (.y a),.i .i64 (.y b),.i .i64 (.y c),.i .i64 (.y d),.i .i64 (.y e)] l K:=by
 subst hS;exact qai (qae (cut_f ha hb hr) λx _ hx=>⟨_,hx,.rfl⟩) rfl rfl h
end
def shiftS (s:St) (b:Int):St×Bool:=if stB s=true then ({ s with se:=(movI s.se b (wB b)).1 },(movI s.se b (wB b)).2) else (s,false)
theorem sshift_f {s s':St}{b:Int}{q:Bool}(ok:StOk s) (hb:Big b) (hs:shiftS s b=(s',q)):(S0 Tryz.prog).call 76 [.ag (stC s),.i .i64 (.y b)] [] (Tell (.tp [.ag (stC s'),.b q])):=by
 obtain⟨t,ht⟩:∃ t,stB s=t:=⟨_,rfl⟩;obtain⟨F,hF⟩:∃ F,cellsB s.o=F:=⟨_,rfl⟩;obtain⟨n,hn⟩:∃ n,n=ilen s.o:=⟨_,rfl⟩;obtain⟨⟨r,u⟩,hr⟩:∃ r,movI s.se b (wB b)=r:=⟨_,rfl⟩;have hse:=ok.se;have e1:stC s=stK s F n:=by subst hF hn;rfl
 unfold shiftS at hs;rw[ht,hr] at hs;have e2:stC s'=stK s' F n:=by
  split at hs
  ·cases hs;subst hF hn;rfl
  ·cases hs;exact e1
 rw[e1,e2];obtain⟨id,st,se,re,ow,an,en,o,ur,ic,sl⟩:=s;dsimp only at hse hr;cases t with
 | false=>
  rw[if_neg (by decide)] at hs;obtain⟨hs1,hs2⟩:=Prod.mk.inj hs;subst hs1;subst hs2;unfold stK;dsimp only at *;generalize hS:S0 Tryz.prog=S;refine qaa hS I.qra ?_;cbv
  repeat' (first|(refine qac hS ?_ ?_<;>intro h<;>(try cbv)<;>try exact s_ab h)|(refine qaa hS I.qqz ?_;cbv)|(refine qeq hS ⟨id,st,se,re,ow,an,en,o,ur,ic,sl⟩ ok hF hn ?_;cbv)|(refine qci hS ⟨id,st,se,re,ow,an,en,o,ur,ic,sl⟩ false ok hF hn ht ?_;cbv)|(refine qtk hS rfl ?_;cbv)|fail)
  all_goals first
   | (exfalso;assumption)
   | exact λg=>.tp (.cons (.sub s_qA rfl) (.cons (.sub s_qA rfl) .nil))
 | true=>
  rw[if_pos rfl] at hs;obtain⟨hs1,hs2⟩:=Prod.mk.inj hs;subst hs1;subst hs2;unfold stK;dsimp only at *;generalize hS:S0 Tryz.prog=S;refine qaa hS I.qra ?_;cbv
  repeat' (first|(refine qac hS ?_ ?_<;>intro h<;>(try cbv)<;>try exact s_ab h)|(refine qaa hS I.qqz ?_;cbv)|(refine qeq hS ⟨id,st,se,re,ow,an,en,o,ur,ic,sl⟩ ok hF hn ?_;cbv)|(refine qci hS ⟨id,st,se,re,ow,an,en,o,ur,ic,sl⟩ true ok hF hn ht ?_;cbv)|(refine shift_u hS r u hse hb hr ?_;cbv)|fail)
  all_goals exact λg=>.tp (.cons (.sub s_qA rfl) (.cons (.sub s_qA rfl) .nil))
section
variable {S:Sy}{l:List Blk}{K:SV->List Blk->Prop}{F:List SV}{n:Int}
theorem qzamw (hS:S0 Tryz.prog=S) (s:St) {s':St}{b:Int}{q:Bool}{F':List SV}{n':Int}(ok:StOk s) (hb:Big b) (hF:cellsB s.o=F) (hn:n=ilen s.o) (hs:shiftS s b=(s',q)) (hF':cellsB s'.o=F') (hn':n'=ilen s'.o) (h:K (.tp [.ag (stK s' F' n'),.b q]) l):S.call 76 [.ag (stK s F n),.i .i64 (.y b)] l K:=by
 subst hF hn hF' hn';exact qaq hS (sshift_f ok hb hs) (.cons .rfl (.cons .rfl .nil)) rfl h
end
end Wr
end Cz
namespace Cz
open Go Go.RowKit Go.Proofs
namespace Wr
theorem sends_1:(S0 Tryz.prog).call 109 [.i .u8 (.l 1),.i .u8 (.l 0),.tt] [] (Tell (.tp [.i .u8 (.y 3),.tt])):=by
 generalize hS:S0 Tryz.prog=S;refine qaa hS I.qrb ?_;cbv
 repeat' (first|(refine qax hS ?_;cbv)|(refine s_lk hS ?_;try cbv)|(refine s_mu hS ?_;try cbv)|fail)
 exact λg=>.sub s_qA rfl
theorem sends_2:(S0 Tryz.prog).call 109 [.i .u8 (.l 2),.i .u8 (.l 0),.tt] [] (Tell (.tp [.i .u8 (.y 4),.tt])):=by
 generalize hS:S0 Tryz.prog=S;refine qaa hS I.qrb ?_;cbv
 repeat' (first|(refine qax hS ?_;cbv)|(refine s_lk hS ?_;try cbv)|(refine s_mu hS ?_;try cbv)|fail)
 exact λg=>.sub s_qA rfl
def endS (x:Int):Int:=if x=1 then 3 else 4
section
variable {S:Sy}{l:List Blk}{K:SV->List Blk->Prop}
theorem sends_u (hS:S0 Tryz.prog=S) {x:Int}(y:Int) (hx:ansB x=true) (hy:endS x=y) (h:K (.tp [.i .u8 (.y y),.tt]) l):S.call 109 [.i .u8 (.y x),.i .u8 (.l 0),.tt] l K:=by
 have:=of_decide_eq_true hx
 unfold endS at hy;by_cases h1:x=1
 ·rw[if_pos h1] at hy
  subst h1 hy;exact qaq hS sends_1 (.cons (qau rfl) (.cons .rfl (.cons .rfl .nil))) rfl h
 ·rw[if_neg h1] at hy
  obtain rfl:x=2:=by omega
  subst hy;exact qaq hS sends_2 (.cons (qau rfl) (.cons .rfl (.cons .rfl .nil))) rfl h
end
end Wr
end Cz
