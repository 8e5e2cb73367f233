/- What came is given back, all of it, at once, by one WINDOW_UPDATE, however often it is to be: the law WriteBack returns true for every input. No condition. -/
import Derived.Test.YtfijlhdheiebcaaGreatDoorKB50
import Derived.Test.YtfijlhdheiebcaaGreatDoorKB51
import Derived.LaidMore
import Derived.Lay
import Derived.SevenTiedAt
import Derived.Stop.Joined
import Derived.Test.YtfijlhdheiebcaaGreatDoorRows
import Derived.Test.YtfijlhdheiebcaaGreatDoorCards
import Derived.Test.YtfijlhdheiebcaaGreatDoorTie
set_option linter.unusedSimpArgs false
set_option linter.unusedVariables false
namespace Go.Proofs.YtfijlhdheiebcaaGreatDoor
open Go Cz Go.ChangeShapes Go.WideShapes Go.ChangeAt Go.RowKit
theorem own:ownKnob Tryz.prog.godebug=Option.none:=by kernel_rfl
theorem laidOut:laidOutB Tryz.prog=true:=by kernel_rfl
theorem pk_ln:pks Tryz.prog 6 33=some [.sl [.i .u8,.i .i64,.i .i64,.i .u32,.sl [.i .u8],.sl [.i .u16,.i .u32],.sl [.s,.s]],.i .i64,.sl [.s,.s],.sl [.i .i64],.i .i64,.i .i64,.i .i64,.sl [.i .i64,.i .u8,.i .i64,.i .i64,.i .i64,.b,.b,.sl [.i .u8],.i .u8,.b,.i .i64],.i .u64,.i .i64,.i .i64,.i .i64,.i .i64,.i .i64,.i .i64,.i .i64,.i .i64,.b]:=by kernel_rfl
theorem pk_is:pks Tryz.prog 4 26=some [.sl [.i .i64]]:=by kernel_rfl
set_option maxRecDepth 100000 in
theorem qzayw (os:Os) (started:os.Started) (H:Type) (enc:TypeId×Value->H):
  ReturnsInHanded {} Tryz.checked os 5 .any (λw args=>(Rows.writeBackSpec.pre enc Tryz.prog Tryz.f5 Rows.writeBackRow.domain false w args/\laidMetH Tryz.prog Rows.writeBackRow.laid w)/\sizedMet enc Tryz.prog Tryz.f5 (OpenSpec.ofChange Rows.writeBackSpec) false w args)
   (Rows.writeBackSpec.post enc Tryz.prog Tryz.f5 false true false false):=by
 refine returnsInHanded_of_change_and (C:=Tryz.checked) (X:=λw _=>laidMetH Tryz.prog Rows.writeBackRow.laid w) (λ_ _ _ hh h=>h.of_heap hh) own started (by kernel_rfl) Tryz.func5
  (ChangeSpec.witness_shaped (enc:=enc) (C:=Tryz.checked) (os:=os) (X:=λw _=>laidMetH Tryz.prog Rows.writeBackRow.laid w) false (World.laidAll Tryz.prog os Rows.writeBackRow.laid) #[.agg #[.slice none 0 0,.int .i64 0,.slice none 0 0,.slice none 0 0,.int .i64 0,.int .i64 0,.int .i64 0,.slice none 0 0,.int .u64 0,.int .i64 0,.int .i64 0,.int .i64 0,.int .i64 0,.int .i64 0,.int .i64 0,.int .i64 0,.int .i64 0,.bool false],.slice none 0 0] 8 (World.laidAll_os _ _ _)
   (World.shaped_of_ZipB (by kernel_rfl) (by kernel_rfl)) (by kernel_rfl) (by kernel_rfl) (by kernel_rfl)
   (by rw[MakeChecks.laidMetH_plain _ _ _ (by kernel_rfl)];exact laidMet_laidAll _ (by kernel_rfl) (by kernel_rfl))) ?_
 intro W base args ds gs before hval0 hW _ hsz _ _;have hval:∀ (j:Nat) t v,Tryz.f5.params[j]?=some t->args[j]?=some v->Value.okWide Tryz.prog W .any base t v:=hval0;have hW':=hW;obtain⟨p,q,hA0,hV,hbef,hfz,hnd⟩:=hW;have hA:DataW.TrodAll enc Tryz.prog W 0 (λ_=>true) true Tryz.f5.params.toList args.toList ds p:=hA0;rw[Tryz.params5] at hA hval;obtain⟨v0,vs0,d0,ds0,p0,q0,hargs,rfl,rfl,h0,r0⟩:=trodAll_cons hA;obtain⟨v1,vs1,d1,ds1,p1,q1,rfl,rfl,rfl,h1,r1⟩:=trodAll_cons r0;obtain⟨rfl,rfl,rfl⟩:=trodAll_nil r1;obtain rfl:args=#[v0,v1]:=by cases args;simp_all
 obtain⟨rfl,rfl⟩:=trodVars_none hV;obtain⟨c0,rfl,_⟩:=okWide_struct Tryz.underlying33 (hval 0 33 v0 rfl rfl);obtain⟨fu0,hf0⟩:=h0;obtain⟨c1,len1,cap1,rfl⟩:=okWide_slice Tryz.underlying26 (hval 1 26 v1 rfl rfl);obtain⟨fu1,hf1⟩:=h1;obtain⟨s0,hk0,hd0⟩:=qrv 6 33 _ fu0 _ _ pk_ln hf0 λn hn=>of_decide_eq_true (List.all_eq_true.1 hsz n (DataW.weights_mem_each (j:=0) (by kernel_rfl) (by first|rfl|simp) n hn));obtain⟨os,tm,tr,zs,se,re,ow,ss,w,H,sh,rfl,hin⟩:=Wr.op_ln hk0;obtain⟨s1,hk1,hd1⟩:=qrv 4 26 _ fu1 _ _ pk_is hf1 λn hn=>of_decide_eq_true (List.all_eq_true.1 hsz n (DataW.weights_mem_each (j:=1) (by kernel_rfl) (by first|rfl|simp) n hn));obtain⟨came,rfl,hl_came,hb_came⟩:=Wr.op_is hk1;have hd':denL (nmW W) [.ag (Wr.lnK (Wr.cellsO os) (ilen os) tm (Tb.cellsF tr) (ilen tr) (zs.flatMap Wr.i1) (ilen zs) se re ow (Wr.cellsS ss) (ilen ss) w H sh),.v false 1 (came.flatMap Wr.i1) (.y (ilen came))] [Value.agg c0,Value.slice c1 len1 cap1]:=by
  simp only[denL];exact⟨(by simp only[Tb.tabV,den];exact⟨c0,rfl,hd0⟩),qzaow hd1,trivial⟩
 refine (law_calls I.qzaws (Wr.backs_f hin hb_came) hd').mono λe W' ⟨he,hb⟩=>?_;subst he;exact⟨_,rfl,post_law laidOut hW' rfl (by kernel_rfl) rfl Tryz.underlying4 rfl hb⟩
theorem back_row:Rows.WriteBackSaid:=
 OpenClaim.holds_of_wide 5 Tryz.f5 rfl rfl rfl rfl rfl rfl rfl ⟨rfl,rfl,rfl,rfl,rfl⟩ rfl rfl rfl rfl rfl (by kernel_rfl) Tryz.func5 joinedB
  (of_decide_eq_true (by kernel_rfl)) (by unfold Func.isWrapper;first|(rw[if_pos (by decide +kernel)];kernel_rfl)|(rw[if_neg (by decide +kernel)];exact⟨rfl,rfl⟩))
  (λos started H enc _=>qzayw os started H enc)
theorem back_holds:Rows.WriteBackCardSaid:=
 Claim7.holds_tied_plain_at .later [] _ _ _ _ back_row (λ_ h=>by cases h) (by kernel_rfl) (λ_ h=>by cases h) writeBack_row_tie rfl ⟨rfl,rfl⟩ (by kernel_rfl) rfl
  (λf fn hf hfn=>by
   obtain rfl:f=5:=Option.some.inj ((show Tryz.prog.funcNamed "causey/causeylaw26.WriteBack"=some 5 by kernel_rfl).symm.trans hf) |>.symm
   obtain rfl:fn=Tryz.f5:=(Option.some.inj (Tryz.func5.symm.trans hfn)).symm;exact⟨by kernel_rfl,λj t ht=>by
    rw[Tryz.params5] at ht;have hm:t∈[33,26]:=by simpa using Array.mem_of_getElem? ht
    have hall:([33,26].all λu=>!Tryz.prog.wantsStandIn u)=true:=by kernel_rfl
    exact (show Tryz.prog.wantsStandIn t=false by simpa using List.all_eq_true.1 hall t hm)⟩)
  (by kernel_rfl)
#print axioms back_holds
end Go.Proofs.YtfijlhdheiebcaaGreatDoor
