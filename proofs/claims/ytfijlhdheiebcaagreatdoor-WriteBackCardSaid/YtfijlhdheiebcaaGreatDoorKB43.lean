/- What the claims of this group lean on: WtD. No condition. -/
import Derived.Test.YtfijlhdheiebcaaGreatDoorKB42
import Derived.Test.YtfijlhdheiebcaaGreatDoorKB37
set_option linter.unusedSimpArgs false
set_option linter.unusedVariables false
set_option maxRecDepth 100000
set_option maxHeartbeats 4000000
namespace Cz
open Go Go.RowKit Go.Proofs
namespace Wr
structure SI (X:Ln) (no ns:Int) (Y:Ln) (off n:Int) (Fr:List SV) (nr:Int) (Fz:List SV) (nz:Int) (Fs:List SV):Prop where
 o0:0<=off
 on:off+n=no
 os:X.os.drop off.toNat=Y.os
 n:n=ilen Y.os
 gd:GdL Y
 pop:popL X.os X=popL Y.os Y
 sh:Y.sh=X.sh
 se:Y.se=X.se
 L:Y.L=X.L
 H:Y.H=X.H
 r:Tb.cellsF Y.tr=Fr
 rn:nr=ilen Y.tr
 z:cellsI Y.zs=Fz
 zn:nz=ilen Y.zs
 s:cellsS Y.ss=Fs
 sn:ns=ilen Y.ss
theorem SI.next {X Y:Ln}{no ns off n off' n':Int}{Fr:List SV}{nr:Int}{Fz:List SV}{nz:Int}{Fs:List SV}(h:SI X no ns Y off n Fr nr Fz nz Fs) {o:Ot}{r:List Ot}(hY:Y.os=o::r) {Z:Ln}(hz:goesL Y o=(Z,[])) (h1:off'=off+1) (h2:n'=n-1):
  SI X no ns { Z with os:=r } off' n' (Tb.cellsF Z.tr) (ilen Z.tr) (cellsI Z.zs) (ilen Z.zs) (cellsS Z.ss):=by
 have ho:o∈Y.os:=by rw[hY];simp
 obtain⟨g1,g2,g3⟩:=qzavr h.gd (h.gd.os o ho).2;obtain⟨k1,k2,k3,k4⟩:=qzasf (X:=Y) (o:=o);rw[hz] at g1 g2 g3 k1 k2 k3 k4;dsimp only at g1 g2 g3 k1 k2 k3 k4;have h0:=h.o0;refine⟨by omega,by have:=h.on;omega,?_,?_,gdl_os g1 (by rw[g2,hY];simp) (λx hx=>by rw[g2,hY];exact List.mem_cons_of_mem _ hx),?_,g3.trans h.sh,k1.trans h.se,k2.trans h.L,k3.trans h.H,rfl,rfl,rfl,rfl,rfl,by rw[h.sn];exact k4.symm⟩
 ·dsimp only
  rw[h1,show (off+1).toNat=off.toNat+1 by omega,<-List.drop_drop,h.os,hY];rfl
 ·have:=h.n
  rw[hY] at this;unfold ilen at *;simp only[List.length_cons] at this;dsimp only;omega
 ·rw[h.pop,hY]
  show popL (o::r) Y=_;rw[popL,hz,if_pos rfl];exact pop_os.symm
theorem SI.out {X Y:Ln}{no ns off n:Int}{Fr:List SV}{nr:Int}{Fz:List SV}{nz:Int}{Fs:List SV}(h:SI X no ns Y off n Fr nr Fz nz Fs) {o:Ot}{r:List Ot}(hY:Y.os=o::r) {Z:Ln}{f:Fm}{fs:List Fm}(hz:goesL Y o=(Z,f::fs)):popL X.os X=({ Z with os:=r },f::fs):=by
 rw[h.pop,hY];show popL (o::r) Y=_;rw[popL,hz,if_neg (by simp)]
theorem SI.done {X Y:Ln}{no ns off n:Int}{Fr:List SV}{nr:Int}{Fz:List SV}{nz:Int}{Fs:List SV}(h:SI X no ns Y off n Fr nr Fz nz Fs) (hn:n<=0):Y.os=[]/\popL X.os X=(Y,[]):=by
 have h1:Y.os=[]:=List.eq_nil_of_length_eq_zero (by have:=h.n;unfold ilen at this;omega);refine⟨h1,?_⟩;rw[h.pop,h1];show ({ Y with os:=[] },[])=_;rw[os_nil h1]
theorem put_ps (f:Fm):1<=ilen (putB f):=by
 rw[Wf.putB_len]
 have:=qaj (payB f)
 omega
theorem puts_pos (f:Fm) (fs:List Fm):1<=ilen ((f::fs).flatMap putB):=by
 rw[List.flatMap_cons];have h1:=put_ps f;unfold ilen at *;rw[List.length_append];omega
theorem st_fst {X:Ln}{most cut:Int}{f:Fm}{r:List Fm}{Y:Ln}(h:popL X.os X=(Y,f::r)):stepL X most cut=(Y,(f::r).flatMap putB,⟨f.k,f.fl,f.st,f.inc⟩,true):=by
 unfold stepL;rw[h]
theorem st_shut {X:Ln}{most cut:Int}{Y:Ln}(h:popL X.os X=(Y,[])) (hs:X.sh=true):stepL X most cut=(Y,[],⟨0,0,0,0⟩,false):=by
 unfold stepL;rw[h];dsimp only;rw[if_pos hs]
theorem st_none {X:Ln}{most cut:Int}{Y:Ln}(h:popL X.os X=(Y,[])) (hs:X.sh=false) (hd:dataL Y most cut=none):stepL X most cut=(Y,[],⟨0,0,0,0⟩,false):=by
 unfold stepL;rw[h];dsimp only;rw[if_neg (by rw[hs];decide),hd]
theorem st_data {X:Ln}{most cut:Int}{Y Z:Ln}{f:Fm}(h:popL X.os X=(Y,[])) (hs:X.sh=false) (hd:dataL Y most cut=some (Z,f)):stepL X most cut=(Z,putB f,⟨f.k,f.fl,f.st,ilen f.da⟩,true):=by
 unfold stepL;rw[h];dsimp only;rw[if_neg (by rw[hs];decide),hd]
theorem drop_cells {os r:List Ot}{off:Int}(h:os.drop off.toNat=r) {Fo:List SV}(hF:cellsO os=Fo) (h0:0<=off):(Fo.drop ((Z.y off).v.toNat*7)).take ((Z.y (ilen r)).v.toNat*7)=cellsO r:=by
 subst hF h;have e:(cellsO os).drop (off.toNat*7)=cellsO (os.drop off.toNat):=by
  unfold cellsO
  induction os generalizing off with
  | nil=>simp
  | cons o os ih=>
   by_cases hz:off=0
   ·subst hz;simp
   ·have:off.toNat=(off-1).toNat+1:=by omega
    rw[this,List.flatMap_cons,Nat.add_mul,Nat.one_mul,List.drop_succ_cons]
    have:=ih (off:=off-1) (by omega)
    have h7:(otC o).length=7:=rfl;rw[List.drop_append,List.drop_of_length_le (by rw[h7];omega),List.nil_append,h7,Nat.add_sub_cancel];exact this
 show ((cellsO os).drop (off.toNat*7)).take ((ilen (os.drop off.toNat)).toNat*7)=_;rw[e,List.take_of_length_le];rw[qzabd];unfold ilen
 simp
theorem data_keep {X Y:Ln}{f:Fm}{most cut:Int}(hd:dataL X most cut=some (Y,f)):Y.tm=X.tm/\Y.tr=X.tr/\Y.zs=X.zs/\Y.re=X.re/\Y.ow=X.ow/\f.inc=0:=by
 unfold dataL at hd;cases ha:allR X.L X.H with
 | nil=>rw[ha] at hd;cases hd
 | cons y r=>
  obtain⟨sl,u⟩:=y;rw[ha] at hd;dsimp only at hd;cases h1:slI X.ss sl with
  | none=>rw[h1] at hd;cases hd
  | some i=>
   rw[h1] at hd;dsimp only at hd;cases h2:X.ss[i]? with
   | none=>rw[h2] at hd;cases hd
   | some s=>
    rw[h2] at hd;dsimp only at hd;split at hd
    ·cases hd
    ·simp only[Option.some.injEq,Prod.mk.injEq] at hd
     obtain⟨h3,h4⟩:=hd;subst h3 h4;exact⟨rfl,rfl,rfl,rfl,rfl,rfl⟩
theorem step_f {X X' : Ln} {most cut : Int} {b : List Int} {g : Gn} {t : Bool} {Fo : List SV} {no : Int} {Fr : List SV} {nr : Int} {Fz : List SV} {nz : Int} {Fs : List SV} {ns w : Int} {Fo' : List SV} {no' : Int} {Fr' : List SV} {nr' : Int} {Fz' : List SV} {nz' : Int} {Fs' : List SV} {ns' w' : Int} {B : List SV} {bn : Int}
    (hn : LnN X.os X.tr X.zs X.ss Fo no Fr nr Fz nz Fs ns) (hg : GdL X) (hw : w = wdI X.L) (hwt : ∀ o ∈ X.os, WtP o) (hgo : ∀ o ∈ X.os, GoP o) (hdt : DtP) (hm : Big most) (hc : Big cut) (hr : stepL X most cut = (X', b, g, t)) (hn' : LnN X'.os X'.tr X'.zs X'.ss Fo' no' Fr' nr' Fz' nz' Fs' ns') (hw' : w' = wdI X'.L) (hB : cellsB b = B) (hbn : bn = ilen b) :
    (S0 Tryz.prog).call 13 [.ag (lnK Fo no X.tm Fr nr Fz nz X.se X.re X.ow Fs ns w X.H X.sh), .i .i64 (.y most), .i .i64 (.y cut)] [] (Tell (.tp [.ag (lnK Fo' no' X'.tm Fr' nr' Fz' nz' X'.se X'.re X'.ow Fs' ns' w' X'.H X'.sh), .v false 1 B (.y bn), .ag [.i .u8 (.y g.k), .i .u8 (.y g.fl), .i .i64 (.y g.st), .i .i64 (.y g.many)], .b t])) := by
  obtain ⟨f1, f2, f3, f4, f5, f6⟩ := hn.lo
  obtain ⟨f1', f2', f3', f4', f5', f6'⟩ := hn'.lo
  have hrt : ∀ (bl : List Blk) (K : SV → List Blk → Prop), K .tt bl → (S0 Tryz.prog).call 36 [.ag (lnK Fo no X.tm Fr nr Fz nz X.se X.re X.ow Fs ns w X.H X.sh)] bl K := fun bl K h => qlr rfl hn hg hw hwt h
  have hse := hg.se
  have hns8 : ns ≤ 8 := by rw [hn.sn]; exact hg.ss.len
  have hno := hn.on
  have hinit : SI X no ns X 0 no Fr nr Fz nz Fs := ⟨Int.le_refl _, by omega, by simp, hn.on, hg, rfl, rfl, rfl, rfl, rfl, hn.r, hn.rn, hn.z, hn.zn, hn.s, hn.sn⟩
  have hgod : ∀ (Y : Ln) (off n : Int) (Fr : List SV) (nr : Int) (Fz : List SV) (nz : Int) (Fs : List SV), SI X no ns Y off n Fr nr Fz nz Fs → ∀ o ∈ Y.os, GoP o := fun Y off n Fr nr Fz nz Fs h o ho => hgo o (by rw [← h.os] at ho; exact List.mem_of_mem_drop ho)
  generalize hX : X = X0 at *
  obtain ⟨os, tm, tr, zs, se, re, ow, ss, L, H, sh⟩ := X0
  obtain ⟨gk, gf, gs, gm⟩ := g
  dsimp only at *
  clear hgo hwt
  unfold lnK at *
  generalize hS : S0 Tryz.prog = S at *
  refine qaa hS I.qzaom ?_
  cbv
  repeat' (first | (refine qkk hS (H := H) hn ?_; intro st0; cbv) | (refine hrt _ _ ?_; cbv) | fail)
  refine qad hS 6 I.qzaaz (fun x : Ln × Int × Int × List SV × Int × List SV × Int × List SV => SI ⟨os, tm, tr, zs, se, re, ow, ss, L, H, sh⟩ no ns x.1 x.2.1 x.2.2.1 x.2.2.2.1 x.2.2.2.2.1 x.2.2.2.2.2.1 x.2.2.2.2.2.2.1 x.2.2.2.2.2.2.2) (fun _ => [])
    (fun x => [(1, .c (bxK 4 5 x.2.1 x.2.2.1 x.1.tm x.2.2.2.1 x.2.2.2.2.1 x.2.2.2.2.2.1 x.2.2.2.2.2.2.1 se x.1.re x.1.ow ns w H sh)), (3, .c [.any, .any, .any, .any, .any, .any, .any, .any, .any, .any, .any, .any, .any]), (5, .r false false (.y 0) 11 x.2.2.2.2.2.2.2)])
    (fun x => x.2.2.1.toNat) (⟨os, tm, tr, zs, se, re, ow, ss, L, H, sh⟩, 0, no, Fr, nr, Fz, nz, Fs) rfl ⟨hinit, rfl, ?_, ?_, by cbv⟩ ?_
  · cbv; exact s_qA
  · cbv; exact s_qA
  intro x
  obtain ⟨Y, off, n, Fr1, nr1, Fz1, nz1, Fs1⟩ := x
  intro hx
  dsimp only at hx
  have hgoY := hgod Y off n Fr1 nr1 Fz1 nz1 Fs1 hx
  obtain ⟨os1, tm1, tr1, zs1, se1, re1, ow1, ss1, L1, H1, sh1⟩ := Y
  obtain rfl : se1 = se := hx.se
  obtain rfl : L1 = L := hx.L
  obtain rfl : H1 = H := hx.H
  obtain rfl : sh1 = sh := hx.sh
  clear hgod hinit
  have hoff := hx.o0
  have honn := hx.on
  have hxn := hx.n
  dsimp only at hxn hgoY
  cbv
  refine s_br hS ?_ ?_ <;> intro h' <;> cbv <;> simp only [← hS, Int.ofNat_eq_natCast, cq, Bool.not_eq_true', Bool.not_eq_false', decide_eq_true_eq, decide_eq_false_iff_not, beq_iff_eq, beq_eq_false_iff_ne, ne_eq] at h'
  · obtain ⟨o, r, rfl⟩ : ∃ o r, os1 = o :: r := by
      cases os1 with
      | nil => exfalso; unfold ilen at hxn; simp at hxn; omega
      | cons o r => exact ⟨o, r, rfl⟩
    have hgo := hgoY o (by simp)
    obtain ⟨D, dn, Q, qn, Lf, ln, hN⟩ := ot_n o
    have hmk := qzago o hN
    have hyo : os[off.toNat]? = some o := by
      have := hx.os
      dsimp only at this
      have h2 := congrArg (fun l => l[0]?) this
      simpa [List.getElem?_drop] using h2
    obtain ⟨⟨⟨os2, tm2, tr2, zs2, se2, re2, ow2, ss2, L2, H2, sh2⟩, fs⟩, hz⟩ : ∃ r', goesL ⟨o :: r, tm1, tr1, zs1, se1, re1, ow1, ss1, L1, H1, sh1⟩ o = r' := ⟨_, rfl⟩
    have hkp := qzasf (X := ⟨o :: r, tm1, tr1, zs1, se1, re1, ow1, ss1, L1, H1, sh1⟩) (o := o)
    have hgs := (qzavr hx.gd (hx.gd.os o (by simp)).2).2.2
    rw [hz] at hkp hgs
    dsimp only at hkp hgs
    obtain ⟨k1, k2, k3, k4⟩ := hkp
    subst k1 k2 k3 hgs
    have hn1 : S.mi n 1 = n - 1 := by subst hS; rfl
    have ho1 : S.pl off 1 = off + 1 := by subst hS; rfl
    have hdr : os.drop (off + 1).toNat = r := by
      have := hx.os
      dsimp only at this
      rw [show (off + 1).toNat = off.toNat + 1 by omega, ← List.drop_drop, this]
      rfl
    have hnr : n - 1 = ilen r := by rw [hxn]; unfold ilen; simp
    have hsn := hx.sn
    dsimp only at hsn
    cases fs with
    | nil =>
      have hnx := hx.next rfl hz ho1 hn1
      dsimp only at hnx
      obtain ⟨Fr2, hFr2⟩ : ∃ F, Tb.cellsF tr2 = F := ⟨_, rfl⟩
      obtain ⟨nr2, hnr2⟩ : ∃ m, m = ilen tr2 := ⟨_, rfl⟩
      obtain ⟨Fz2, hFz2⟩ : ∃ F, cellsI zs2 = F := ⟨_, rfl⟩
      obtain ⟨nz2, hnz2⟩ : ∃ m, m = ilen zs2 := ⟨_, rfl⟩
      obtain ⟨Fs2, hFs2⟩ : ∃ F, cellsS ss2 = F := ⟨_, rfl⟩
      rw [hFr2, ← hnr2, hFz2, ← hnz2, hFs2] at hnx
      obtain ⟨k, ost, sz, co, da, ps, li⟩ := o
      repeat' (first | (refine s_ck hS ?_; try cbv) | (refine qfx hS (enc := otC) (l := os) hn.o hyo (by first | rfl | assumption) (fun _ => rfl) hoff (by omega) hmk ?_; cbv) | fail)
      refine goes_u hS 1 4 5 (o := ⟨k, ost, sz, co, da, ps, li⟩) (X := ⟨⟨k, ost, sz, co, da, ps, li⟩ :: r, tm1, tr1, zs1, se2, re1, ow1, ss1, L2, H2, sh2⟩) (fs := []) (off := S.pl off 1) (no := S.mi n 1) (B := []) (bn := 0) hgo rfl rfl rfl rfl rfl s_qA hN hx.gd hz hx.r hx.rn hx.z hx.zn hx.s hx.sn hFr2 hnr2 hFz2 hnz2 hFs2 f1 rfl rfl ?_
      intro q1 q2 q3 D1 d1 q4 q5 q6 P1 p1 hq
      cbv
      repeat' (first | (refine qac hS ?_ ?_ <;> intro h <;> (try cbv) <;> try exact s_ab h) | fail)
      all_goals first
        | (exfalso; omega)
        | exact ⟨(⟨r, tm2, tr2, zs2, _, re2, ow2, ss2, _, _, _⟩, S.pl off 1, S.mi n 1, Fr2, nr2, Fz2, nz2, Fs2), by dsimp only; omega, hnx, rfl, by cbv; exact s_qA, by cbv; exact s_qA, by cbv⟩
    | cons f fs =>
      rw [st_fst (hx.out rfl hz)] at hr
      simp only [Prod.mk.injEq, Gn.mk.injEq] at hr
      obtain ⟨rfl, rfl, ⟨rfl, rfl, rfl, rfl⟩, rfl⟩ := hr
      dsimp only at hn' hw' ⊢
      have hpos := puts_pos f fs
      rw [← hbn] at hpos
      obtain rfl : w' = w := hw'.trans hw.symm
      have eN : S.mi n 1 = no' := by rw [hn1, hnr]; exact hn'.on.symm
      have eS : ns = ns' := by rw [hsn, hn'.sn]; exact k4.symm
      have hn2 : LnN r tr2 zs2 ss2 Fo' (S.mi n 1) Fr' nr' Fz' nz' Fs' ns := by rw [eN, eS]; exact hn'
      have hp1 : (Fo.drop ((Z.y (S.pl off 1)).v.toNat * 7)).take ((Z.y (S.mi n 1)).v.toNat * 7) = Fo' := by
        have := drop_cells (off := off + 1) hdr hn.o (by omega)
        rw [← hnr] at this
        rw [ho1, hn1, this]
        exact hn'.o
      have hp2 : (Fs'.drop ((Z.l 0).v.toNat * 11)).take ((Z.y ns).v.toNat * 11) = Fs' := by
        rw [eS]
        exact qzacj (n := ns') f5'
      obtain ⟨fk, ffl, fst, fda, fla, finc, fco, fps⟩ := f
      obtain ⟨k, ost, sz, co, da, ps, li⟩ := o
      dsimp only at *
      repeat' (first | (refine s_ck hS ?_; try cbv) | (refine qfx hS (enc := otC) (l := os) hn.o hyo (by first | rfl | assumption) (fun _ => rfl) hoff (by omega) hmk ?_; cbv) | fail)
      refine goes_u hS 1 4 5 (o := ⟨k, ost, sz, co, da, ps, li⟩) (X := ⟨⟨k, ost, sz, co, da, ps, li⟩ :: r, tm1, tr1, zs1, se2, re1, ow1, ss1, L2, H2, sh2⟩) (fs := ⟨fk, ffl, fst, fda, fla, finc, fco, fps⟩ :: fs) (off := S.pl off 1) (no := S.mi n 1) hgo rfl rfl rfl rfl rfl s_qA hN hx.gd hz hx.r hx.rn hx.z hx.zn hx.s hx.sn hn'.r hn'.rn hn'.z hn'.zn hn'.s f1 hB hbn ?_
      intro q1 q2 q3 D1 d1 q4 q5 q6 P1 p1 hq
      obtain ⟨rfl, rfl, rfl, rfl⟩ := hq _ _ rfl
      dsimp only
      cbv
      repeat' (first | (refine qac hS ?_ ?_ <;> intro h <;> (try cbv) <;> try exact s_ab h) | (refine qag hS rfl I.qzadl (by decide +kernel) ?_; cbv) | (refine own_z hS 4 5 (H := H2) rfl rfl rfl rfl hn2 hp1 hp2 ?_; intro st1; cbv) | fail)
      all_goals first
        | (exfalso; omega)
        | skip
      all_goals
        intro g
        refine .tp (.cons (.ag ?_) (.cons ?_ (.cons (.ag ?_) (.cons ?_ .nil))))
        all_goals (repeat' (first | exact .nil | refine .cons ?_ ?_ | exact .sub .rfl rfl | exact qdc (n := .y no') (z := .y (S.mi n 1)) rfl rfl f1' eN f2' g | exact qdc (n := .y ns') (z := .y ns) rfl rfl f4' eS f5' g | exact .sub (qau rfl) rfl | exact .sub (qay rfl) rfl | exact .sub (qao rfl) rfl | exact .nil (by decide) rfl))
  · obtain ⟨hos, hpop⟩ := hx.done (by omega)
    dsimp only at hos
    subst hos
    have hn0 : n = 0 := by rw [hxn]; rfl
    subst hn0
    have hsn := hx.sn
    have hgY := hx.gd
    have hdr : os.drop off.toNat = [] := hx.os
    have hp0 : (Fo.drop ((Z.y off).v.toNat * 7)).take ((Z.y 0).v.toNat * 7) = [] := by
      show (Fo.drop (off.toNat * 7)).take (0 * 7) = []
      simp
    cases hsh : sh1 with
    | true =>
      subst hsh
      rw [st_shut hpop rfl] at hr
      simp only [Prod.mk.injEq, Gn.mk.injEq] at hr
      obtain ⟨rfl, rfl, ⟨rfl, rfl, rfl, rfl⟩, rfl⟩ := hr
      dsimp only at hn' hw' hsn ⊢
      obtain rfl : w' = w := hw'.trans hw.symm
      have hB0 : B = [] := hB.symm
      have hb0 : bn = 0 := hbn
      subst hB0 hb0
      have eF : Fo' = [] := hn'.o.symm
      have eN : no' = 0 := hn'.on
      have eS : ns = ns' := by rw [hsn, hn'.sn]
      have hn2 : LnN [] tr1 zs1 ss1 [] 0 Fr1 nr1 Fz1 nz1 Fs1 ns := ⟨rfl, rfl, by decide, fun o h => (by cases h), hx.r, hx.rn, by rw [show nr1 = nr' from hx.rn.trans hn'.rn.symm]; exact hn'.rb, hn'.rf, hx.z, hx.zn, by rw [show nz1 = nz' from hx.zn.trans hn'.zn.symm]; exact hn'.zb, hx.s, hsn, by rw [eS]; exact hn'.sb, hn'.so⟩
      obtain ⟨rfl, e2, rfl, rfl, rfl, rfl, rfl, e8⟩ := LnN.eq hn2 hn'
      subst e2
      have hp2 : (Fs'.drop ((Z.l 0).v.toNat * 11)).take ((Z.y ns).v.toNat * 11) = Fs' := by
        rw [eS]
        exact qzacj (n := ns') f5'
      repeat' (first | (refine qac hS ?_ ?_ <;> intro h <;> (try cbv) <;> try exact s_ab h) | (refine qtk hS rfl ?_; cbv) | (refine own_z hS 4 5 (H := H1) rfl rfl rfl rfl hn2 hp0 hp2 ?_; intro st1; cbv) | fail)
      all_goals first
        | (exfalso; omega)
        | (intro g
           refine .tp (.cons (.ag ?_) (.cons ?_ (.cons (.ag ?_) (.cons ?_ .nil)))) <;> (repeat' (first | exact .nil | refine .cons ?_ ?_ | exact .sub .rfl rfl | exact qdc (n := .y 0) (z := .y 0) rfl rfl rfl rfl rfl g | exact qdc (n := .y ns') (z := .y ns) rfl rfl f4' eS f5' g | exact .sub (qau rfl) rfl | exact .sub (qay rfl) rfl | exact .sub (qao rfl) rfl | exact .nil (by decide) rfl)))
    | false =>
      subst hsh
      cases hd : dataL ⟨[], tm1, tr1, zs1, se1, re1, ow1, ss1, L1, H1, false⟩ most cut with
      | none =>
        rw [st_none hpop rfl hd] at hr
        simp only [Prod.mk.injEq, Gn.mk.injEq] at hr
        obtain ⟨rfl, rfl, ⟨rfl, rfl, rfl, rfl⟩, rfl⟩ := hr
        dsimp only at hn' hw' hsn ⊢
        obtain rfl : w' = w := hw'.trans hw.symm
        have hB0 : B = [] := hB.symm
        have hb0 : bn = 0 := hbn
        subst hB0 hb0
        have eF : Fo' = [] := hn'.o.symm
        have eN : no' = 0 := hn'.on
        have eS : ns = ns' := by rw [hsn, hn'.sn]
        have hn2 : LnN [] tr1 zs1 ss1 [] 0 Fr1 nr1 Fz1 nz1 Fs1 ns := ⟨rfl, rfl, by decide, fun o h => (by cases h), hx.r, hx.rn, by rw [show nr1 = nr' from hx.rn.trans hn'.rn.symm]; exact hn'.rb, hn'.rf, hx.z, hx.zn, by rw [show nz1 = nz' from hx.zn.trans hn'.zn.symm]; exact hn'.zb, hx.s, hsn, by rw [eS]; exact hn'.sb, hn'.so⟩
        obtain ⟨rfl, e2, rfl, rfl, rfl, rfl, rfl, e8⟩ := LnN.eq hn2 hn'
        subst e2
        have hp2 : (Fs'.drop ((Z.l 0).v.toNat * 11)).take ((Z.y ns).v.toNat * 11) = Fs' := by
          rw [eS]
          exact qzacj (n := ns') f5'
        repeat' (first | (refine qac hS ?_ ?_ <;> intro h <;> (try cbv) <;> try exact s_ab h) | fail)
        refine data_v hS 1 4 5 (X := ⟨[], tm1, tr1, zs1, se1, re1, ow1, ss1, L1, H1, false⟩) (off := off) (no := 0) rfl rfl rfl rfl rfl s_qA hgY hx.s hsn hw hm hc hd f1 ?_
        cbv
        repeat' (first | (refine own_z hS 4 5 (H := H1) rfl rfl rfl rfl hn2 hp0 hp2 ?_; intro st1; cbv) | fail)
        all_goals first
          | (exfalso; omega)
          | (intro g
             refine .tp (.cons (.ag ?_) (.cons ?_ (.cons (.ag ?_) (.cons ?_ .nil)))) <;> (repeat' (first | exact .nil | refine .cons ?_ ?_ | exact .sub .rfl rfl | exact qdc (n := .y 0) (z := .y 0) rfl rfl rfl rfl rfl g | exact qdc (n := .y ns') (z := .y ns) rfl rfl f4' eS f5' g | exact .sub (qau rfl) rfl | exact .sub (qay rfl) rfl | exact .sub (qao rfl) rfl | exact .nil (by decide) rfl)))
      | some q =>
        obtain ⟨Y, f⟩ := q
        rw [st_data hpop rfl hd] at hr
        simp only [Prod.mk.injEq, Gn.mk.injEq] at hr
        obtain ⟨rfl, rfl, ⟨rfl, rfl, rfl, rfl⟩, rfl⟩ := hr
        obtain ⟨d1, d2, d3, d4⟩ := qzabc hgY hd
        obtain ⟨m1, m2, m3, m4, m5, m6⟩ := data_fm hgY hd
        obtain ⟨x1, x2, x3, x4, x5, x6⟩ := data_keep hd
        obtain ⟨D, hD⟩ : ∃ D, cellsB f.da = D := ⟨_, rfl⟩
        obtain ⟨dn, hdn⟩ : ∃ m, m = ilen f.da := ⟨_, rfl⟩
        obtain ⟨ex, hcall⟩ := data_f (st1 := st0) (off := off) (no := 0) (Fr := Fr1) (nr := nr1) (Fz := Fz1) (nz := nz1) (Fo := Fo) hgY hx.s hsn hw hm hc hd hw' f1 hD hdn hn'.sn
        obtain ⟨Fx, hFx⟩ : ∃ F, cellsS (Y.ss ++ ex) = F := ⟨_, rfl⟩
        have hps : plains Fs1 = true := by rw [← hx.s]; exact qak _
        rw [← hdn]
        obtain ⟨fk, ffl, fst, fda, fla, finc, fco, fps⟩ := f
        obtain ⟨osY, tmY, trY, zsY, seY, reY, owY, ssY, LY, HY, shY⟩ := Y
        dsimp only at *
        obtain rfl : fk = 0 := d4
        subst d2 d3 x1 x2 x3 x4 x5
        have hput := hdt.h (fl := ffl) (id := fst) m2 m3 m4 m5 m6 hD hdn (B := B) (bn := bn) (by rw [m1] at hB; exact hB) (by rw [m1] at hbn; exact hbn)
        obtain ⟨rfl, e2, rfl, rfl, rfl, rfl⟩ : Fo' = [] ∧ no' = 0 ∧ Fr1 = Fr' ∧ nr1 = nr' ∧ Fz1 = Fz' ∧ nz1 = nz' := ⟨hn'.o.symm, hn'.on, hx.r.symm.trans hn'.r, hx.rn.trans hn'.rn.symm, hx.z.symm.trans hn'.z, hx.zn.trans hn'.zn.symm⟩
        subst e2
        have hp2 : (Fx.drop ((Z.l 0).v.toNat * 11)).take ((Z.y ns').v.toNat * 11) = Fs' := by
          rw [← hFx, ← hn'.s, hn'.sn]
          show ((cellsS (ssY ++ ex)).drop (0 * 11)).take ((ilen ssY).toNat * 11) = cellsS ssY
          rw [Nat.zero_mul, List.drop_zero]
          have hl := qcq ssY
          unfold cellsS at hl ⊢
          rw [List.flatMap_append, List.take_append_of_le_length (by rw [hl]; unfold ilen; simp), List.take_of_length_le (by rw [hl]; unfold ilen; simp)]
        repeat' (first | (refine qac hS ?_ ?_ <;> intro h <;> (try cbv) <;> try exact s_ab h) | fail)
        refine data_u hS 1 4 5 (X := ⟨[], tmY, trY, zsY, se1, reY, owY, ss1, L1, H1, false⟩) (Y := ⟨[], tmY, trY, zsY, seY, reY, owY, ssY, LY, HY, false⟩) (f := ⟨0, ffl, fst, fda, fla, finc, fco, fps⟩) (off := off) (no := 0) rfl rfl rfl rfl rfl s_qA f1 hps hFx hcall ?_
        cbv
        repeat' (first | (refine qaq hS hput (.cons .rfl .nil) rfl ?_; cbv) | (refine qag hS rfl I.qzadk (by decide +kernel) ?_; cbv) | (refine own_z hS 4 5 (H := HY) rfl rfl rfl rfl hn' hp0 hp2 ?_; intro st1; cbv) | fail)
        all_goals first
          | (exfalso; omega)
          | (intro g
             refine .tp (.cons (.ag ?_) (.cons ?_ (.cons (.ag ?_) (.cons ?_ .nil)))) <;> (repeat' (first | exact .nil | refine .cons ?_ ?_ | exact .sub .rfl rfl | exact qdc (n := .y 0) (z := .y 0) rfl rfl rfl rfl rfl g | exact qdc (n := .y ns') (z := .y ns') rfl rfl f4' rfl f5' g | exact .sub (qau rfl) rfl | exact .sub (qay rfl) rfl | exact .sub (qao rfl) rfl | exact .nil (by decide) rfl)))
end Wr
end Cz
