/- What the claims of this group lean on: Wr9. No condition. -/
import Derived.Test.YtfijlhdheiebcaaGreatDoorKB17
set_option linter.unusedSimpArgs false
set_option linter.unusedVariables false
set_option maxRecDepth 100000
set_option maxHeartbeats 4000000
namespace Cz
open Go Go.RowKit Go.Proofs
namespace Wr
section
variable {S:Sy}{l:List Blk}{K:SV->List Blk->Prop}
theorem rof_l (hS:S0 Tryz.prog=S) {L:List (Int×Int)}{H:Nat->Int}{w s:Int}(hR:GoodR L H) (hw:w=wdI L) (k:Int) (t:Bool) (hk:ofK (allR L H) s=k) (ht:ofB (allR L H) s=t) (h:K (.tp [.i .i64 (.l k),.b t]) l):S.call 83 [.ag (rdyC w H),.i .i64 (.y s)] l K:=by
 subst hS;exact qai (qae (rof_f hR hw hk ht) λx _ hx=>⟨.tp [.i .i64 (.l k),.b t],hx.trans (qpw (.cons (qau rfl) (.cons .rfl .nil))),.rfl⟩) rfl rfl h
theorem wout_u (hS:S0 Tryz.prog=S) {w s:Int}{L:List (Int×Int)}(hw:w=wdI L) (hL:Good L) (w':Int) (t:Bool) (hw':w'=wdI (outL L s)) (ht:findB L s=t) (h:K (.tp [.i .u64 (.y w'),.b t]) l):S.call 190 [.i .u64 (.y w),.i .i64 (.y s)] l K:=by
 subst hS;exact qai (qae (wout_f hL hw hw' ht) λx _ hx=>⟨_,hx,.rfl⟩) rfl rfl h
end
theorem rout_f {L L':List (Int×Int)}{H H':Nat->Int}{w w' s:Int}{t:Bool}(hR:GoodR L H) (hw:w=wdI L) (ho:outR L H s=((L',H'),t)) (hw':w'=wdI L'):
  (S0 Tryz.prog).call 134 [rdyV w H,.i .i64 (.y s)] [] (λx _=>Sub x (.tp [rdyV w' H',.b t])):=by
 have hL:=hR.w;obtain⟨k,hk⟩:∃ k,ofK (allR L H) s=k:=⟨_,rfl⟩;obtain⟨b,hb⟩:∃ b,ofB (allR L H) s=b:=⟨_,rfl⟩;unfold outR at ho;rw[hk,hb] at ho;unfold rdyV;cases b with
 | false=>
  rw[if_neg (by decide)] at ho;cases ho
  have:w'=w:=by rw[hw',hw]
  subst this;unfold rdyC;generalize hS:S0 Tryz.prog=S;refine qaa hS I.qux ?_;cbv
  repeat' (first|(refine qac hS ?_ ?_<;>intro h<;>(try cbv)<;>try exact s_ab h)|(refine qzajf hS (H:=H) hR hw k false hk hb ?_;cbv)|fail)
  all_goals exact s_sA
 | true=>
  rw[if_pos rfl] at ho;have hm:=qzatl hR (qzaac hk hb);dsimp only at hm;have hkc:k=0∨k=1∨k=2∨k=3∨k=4∨k=5∨k=6∨k=7:=by omega
  by_cases hh:H k.toNat=s
  ·rw[if_pos hh] at ho
   cases ho
   have:w'=w:=by rw[hw',hw]
   subst this;unfold rdyC;generalize hS:S0 Tryz.prog=S;refine qaa hS I.qux ?_;cbv;rcases hkc with rfl|rfl|rfl|rfl|rfl|rfl|rfl|rfl
   all_goals
    dsimp only[Int.toNat] at hh
    repeat' (first|(refine qac hS ?_ ?_<;>intro h<;>(try cbv)<;>try exact s_ab h)|(refine rof_l hS (H:=H) hR hw _ true hk hb ?_;cbv)|fail)
    all_goals first
     | exact s_qA
     | (exfalso;contradiction)
  ·rw[if_neg hh] at ho
   cases ho;have hfb:findB L s=true:=by
    rcases (qzaae hL).1 (qzaac hk hb) with ⟨v,h1,h2,h3⟩|h3
    ·injection h3 with h3 h4
     rw[h4] at hh;exact absurd h3.symm hh
    ·exact qzaff.2 (List.mem_map.2 ⟨_,h3,rfl⟩)
   unfold rdyC;generalize hS:S0 Tryz.prog=S;refine qaa hS I.qux ?_;cbv;rcases hkc with rfl|rfl|rfl|rfl|rfl|rfl|rfl|rfl
   all_goals
    dsimp only[Int.toNat] at hh
    repeat' (first|(refine qac hS ?_ ?_<;>intro h<;>(try cbv)<;>try exact s_ab h)|(refine rof_l hS (H:=H) hR hw _ true hk hb ?_;cbv)|(refine wout_u hS hw hL w' true hw' hfb ?_;cbv)|fail)
    all_goals first
     | exact s_qA
     | (exfalso;contradiction)
section
variable {S:Sy}{l:List Blk}{K:SV->List Blk->Prop}
theorem rout_u (hS:S0 Tryz.prog=S) {L L':List (Int×Int)}{H H':Nat->Int}{w w' s:Int}{t:Bool}(hR:GoodR L H) (hw:w=wdI L) (ho:outR L H s=((L',H'),t)) (hw':w'=wdI L') (h:K (.tp [.ag (rdyC w' H'),.b t]) l):S.call 134 [.ag (rdyC w H),.i .i64 (.y s)] l K:=by
 subst hS;exact qai (qae (rout_f hR hw ho hw') λx _ hx=>⟨_,hx,.rfl⟩) rfl rfl h
end
end Wr
end Cz
