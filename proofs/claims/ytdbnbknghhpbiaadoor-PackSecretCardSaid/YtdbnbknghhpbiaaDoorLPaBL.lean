/- A secret field is in no table behind a block, if it was in none ahead, and a field that is known whole is told by its index: the law PackSecret returns true for every input. No condition. -/
import Derived.Test.YtdbnbknghhpbiaaDoorKT7
import Derived.LaidMore
import Derived.Lay
import Derived.SevenTiedAt
import Derived.Stop.Joined
import Derived.Test.YtdbnbknghhpbiaaDoorRows
import Derived.Test.YtdbnbknghhpbiaaDoorCards
import Derived.Test.YtdbnbknghhpbiaaDoorTie
set_option linter.unusedSimpArgs false
set_option linter.unusedVariables false
set_option maxRecDepth 100000
set_option maxHeartbeats 4000000
namespace Cz
open Go Go.RowKit Go.Proofs
namespace Pa
open Tb
def hasS (l : List Tb.Fd) : Bool := l.any fun f => decide (f.1 = ckN)
theorem has_next {l : List Tb.Fd} {i : Int} {a b : List UInt8} {s : Bool} (hf : l[i.toNat]? = some (a, b)) (h0 : 0 ≤ i) (hs : hasS (l.take i.toNat) = s) : hasS (l.take (i + 1).toNat) = (s || decide (a = ckN)) := by
  have e : l.take (i + 1).toNat = l.take i.toNat ++ [(a, b)] := by rw [show (i + 1).toNat = i.toNat + 1 by omega, List.take_add_one, hf]; rfl
  rw [e, ← hs]
  unfold hasS
  rw [List.any_append]
  simp
theorem has_iff {l : List Tb.Fd} : hasS l = true ↔ ∃ f ∈ l, f.1 = ckN := by
  unfold hasS
  rw [List.any_eq_true]
  exact ⟨fun ⟨f, h1, h2⟩ => ⟨f, h1, of_decide_eq_true h2⟩, fun ⟨f, h1, h2⟩ => ⟨f, h1, decide_eq_true h2⟩⟩
theorem has_field {mx : Int} {l : List Tb.Fd} {f : Tb.Fd} (h : hasS (fieldL mx l f) = true) : hasS l = true := by
  unfold fieldL at h
  split at h
  · rename_i ha
    have ha := of_decide_eq_true ha
    obtain ⟨g, h1, h2⟩ := has_iff.1 h
    unfold evL at h1
    have h3 := List.mem_of_mem_take h1
    rcases List.mem_cons.1 h3 with h3 | h3
    · exfalso
      have hw := ha.2
      unfold wayP at hw
      rw [← h3, if_pos h2] at hw
      exact absurd hw (by decide)
    · exact has_iff.2 ⟨g, h3, h2⟩
  · exact h
theorem qzacv {mx : Int} : ∀ {q l : List Tb.Fd}, hasS (blockL mx l q) = true → hasS l = true
  | [], _, h => h
  | _ :: _, _, h => has_field (qzacv (q := _) h)
theorem ridx_o {i : Int} (h0 : 0 ≤ i) (h1 : i < 2147483648) : (S0 Tryd.prog).call 45 [.i .i64 (.y i)] [] (OwnB (C1 0) (idxB i)) := by
  obtain ⟨L, hL⟩ : ∃ L, idxB i = L := ⟨_, rfl⟩
  rw [hL]
  generalize hS : S0 Tryd.prog = S
  refine qaa hS I.qjb ?_
  cbv
  repeat' (first
    | (refine qbl hS rfl ?_; try cbv)
    | (refine s_ck hS ?_; try cbv)
    | (refine qad hS ?_ ?_ <;> intro h <;> (try cbv) <;> try exact s_ab h)
    | (refine s_ad hS ?_; intro _ _; try cbv)
    | (refine s_sb hS ?_; intro _ _; try cbv)
    | (refine qaq hS ?_; intro _ _; try cbv)
    | (refine qaf hS ?_; try cbv)
    | (refine rpput_u hS i 7 128 128 rfl rfl rfl h0 h1 (by decide) (by decide) rfl (by decide) (by decide) fun F2 n2 st hF2 hn2 => ?_; cbv)
    | (refine qbk hS ?_; try cbv)
    | (refine s_lk hS ?_; try cbv)
    | (refine s_mu hS ?_; try cbv)
    | fail)
  exact qub (z := .y n2) .rfl rfl (hL ▸ hF2.symm) (hL ▸ hn2)
theorem ridx_g {S : Sy} {bl : List Blk} {K : SV → List Blk → Prop} {F : List SV} {n i : Int} (hS : S0 Tryd.prog = S) {zi : Z} (hi : zi.v = i) (h0 : 0 ≤ i) (h1 : i < 2147483648) (hF : cellsB (idxB i) = F) (hn : n = ilen (idxB i)) (hK : K (.tp [.v false 1 F (.y n), .i .i64 (.y 0)]) bl) : S.call 45 [.i .i64 zi] bl K :=
  qdb hS (own_t1 (ridx_o h0 h1) hF hn) (.cons (qan hi) .nil) rfl hK
theorem secrets_f {mx : Int} {l q : List Tb.Fd} (hs : shortL l) (hm0 : ilen l ≤ 140737488355328) (hs2 : shortL q) (hm2 : ilen q ≤ 140737488355328) :
    (S0 Tryd.prog).call 9 [tabV mx l, .v false 2 (cellsF q) (.y (ilen q))] [] (fun y _ => Sub y .tt) := by
  unfold tabV
  generalize hF : cellsF l = F
  obtain ⟨m, hm⟩ : ∃ m, m = ilen l := ⟨_, rfl⟩
  generalize hG : cellsF q = G
  obtain ⟨n, hn⟩ : ∃ m, m = ilen q := ⟨_, rfl⟩
  rw [← hm, ← hn]
  generalize hS : S0 Tryd.prog = S
  refine qaa hS I.qdk ?_
  cbv
  refine pgreat_u hS (l := l) (q := q) (.cons (tab_fz rfl hF hm) (.cons (.sub (qav hG.symm hn) rfl) .nil)) hs hm0 hs2 hm2 ?_ (fun g1 g2 g3 g4 => ?_) <;> cbv
  · refine qgq hS ?_
    cbv
    exact .rfl
  have hn0 := qah q
  by_cases hR : rightL mx l = true
  · refine qko hS (.v (z := .y mx) (n := .y m) rfl hF hm) hR (by omega) ?_
    cbv
    have hm1 := qdi hR
    obtain ⟨Lb, hLb⟩ : ∃ r, blockB mx l q = r := ⟨_, rfl⟩
    obtain ⟨lb, hlb⟩ : ∃ r, blockL mx l q = r := ⟨_, rfl⟩
    obtain ⟨FB, hFB⟩ : ∃ r, cellsB Lb = r := ⟨_, rfl⟩
    obtain ⟨nb, hnb⟩ : ∃ r, r = ilen Lb := ⟨_, rfl⟩
    obtain ⟨RB, hRB⟩ : ∃ r, cellsF lb = r := ⟨_, rfl⟩
    obtain ⟨mb, hmb⟩ : ∃ r, r = ilen lb := ⟨_, rfl⟩
    have hRl := qfu (fs := q) hR
    rw [hlb] at hRl
    have hlbl := qdi hRl
    have hmb0 : 0 ≤ mb := hmb ▸ qah _
    have hm00 : 0 ≤ m := hm ▸ qah _
    have hbk : hasS lb = true → hasS l = true := fun h => qzacv (hlb ▸ h)
    repeat' (first
      | (refine qbl hS rfl ?_; try cbv)
      | (refine s_ck hS ?_; try cbv)
      | (refine qad hS ?_ ?_ <;> intro h <;> (try cbv) <;> try exact s_ab h)
      | (refine s_ad hS ?_; intro _ _; try cbv)
      | (refine s_sb hS ?_; intro _ _; try cbv)
      | (refine qaq hS ?_; intro _ _; try cbv)
      | (refine qaf hS ?_; try cbv)
      | (refine qzafj hS (.v (z := .y mx) (n := .y m) rfl hF hm) (qav (n := .y n) hG.symm hn) hR hLb hlb hFB hnb hRB hmb (by omega) ?_; cbv)
      | (refine qbk hS ?_; try cbv)
      | (refine s_lk hS ?_; try cbv)
      | (refine s_mu hS ?_; try cbv)
      | fail)
    refine qau hS 2 I.qeu (fun x : Int × Bool => 0 ≤ x.1 ∧ x.1 ≤ m ∧ hasS (l.take x.1.toNat) = x.2) (fun x => [(8, .b x.2), (10, .i .i64 (.y x.1))]) (fun _ => []) (fun x => (m - x.1).toNat) (0, false) rfl
      ⟨⟨Int.le_refl _, hm00, rfl⟩, rfl, ?_, ?_, by cbv⟩ ?_
    · cbv; exact s_qA
    · cbv; exact s_qA
    intro x
    obtain ⟨i, s⟩ := x
    intro hx
    dsimp only at hx
    cbv
    obtain ⟨k0, k1, k2⟩ := hx
    refine qad hS ?_ ?_ <;> intro h <;> cbv
    · obtain ⟨⟨a, b⟩, hp⟩ := qfe (l := l) (i := i) (by omega) k0
      obtain ⟨u, hu⟩ : ∃ u, decide (a = ckN) = u := ⟨_, rfl⟩
      have hnx := has_next hp k0 k2
      rw [hu] at hnx
      cases s <;> cbv
      all_goals
        repeat' (first
          | (refine qbl hS rfl ?_; try cbv)
          | (refine s_ck hS ?_; try cbv)
          | (refine qad hS ?_ ?_ <;> intro h <;> (try cbv) <;> try exact s_ab h)
          | (refine s_ad hS ?_; intro _ _; try cbv)
          | (refine s_sb hS ?_; intro _ _; try cbv)
          | (refine qaq hS ?_; intro _ _; try cbv)
          | (refine qaf hS ?_; try cbv)
          | (refine rowF hS hF hp k0 ?_; cbv)
          | (refine qgi hS hu ?_; cbv)
          | (refine qbk hS ?_; try cbv)
          | (refine s_lk hS ?_; try cbv)
          | (refine s_mu hS ?_; try cbv)
          | fail)
        rename_i i2 hi2
      · refine ⟨(i2, u), by dsimp only; omega, ⟨by dsimp only; omega, by dsimp only; omega, by dsimp only; rw [hi2]; exact hnx⟩, rfl, ?_, ?_, by cbv⟩
        · cbv; exact s_qA
        · cbv; exact s_qA
      · refine ⟨(i2, true), by dsimp only; omega, ⟨by dsimp only; omega, by dsimp only; omega, by dsimp only; rw [hi2]; exact hnx⟩, rfl, ?_, ?_, by cbv⟩
        · cbv; exact s_qA
        · cbv; exact s_qA
    cbv
    have hl1 : l.take i.toNat = l := qbx (by omega)
    rw [hl1] at k2
    clear h k0 k1
    refine qau hS 2 I.qev (fun x : Int × Bool => 0 ≤ x.1 ∧ x.1 ≤ mb ∧ hasS (lb.take x.1.toNat) = x.2) (fun x => [(9, .b x.2), (11, .i .i64 (.y x.1))]) (fun _ => []) (fun x => (mb - x.1).toNat) (0, false) rfl
      ⟨⟨Int.le_refl _, hmb0, rfl⟩, rfl, ?_, ?_, by cbv⟩ ?_
    · cbv; exact s_qA
    · cbv; exact s_qA
    intro x
    obtain ⟨j, r⟩ := x
    intro hx
    dsimp only at hx
    cbv
    obtain ⟨k0, k1, k3⟩ := hx
    refine qad hS ?_ ?_ <;> intro h <;> cbv
    · obtain ⟨⟨a, b⟩, hp⟩ := qfe (l := lb) (i := j) (by omega) k0
      obtain ⟨u, hu⟩ : ∃ u, decide (a = ckN) = u := ⟨_, rfl⟩
      have hnx := has_next hp k0 k3
      rw [hu] at hnx
      cases r <;> cbv
      all_goals
        repeat' (first
          | (refine qbl hS rfl ?_; try cbv)
          | (refine s_ck hS ?_; try cbv)
          | (refine qad hS ?_ ?_ <;> intro h <;> (try cbv) <;> try exact s_ab h)
          | (refine s_ad hS ?_; intro _ _; try cbv)
          | (refine s_sb hS ?_; intro _ _; try cbv)
          | (refine qaq hS ?_; intro _ _; try cbv)
          | (refine qaf hS ?_; try cbv)
          | (refine rowF hS hRB hp k0 ?_; cbv)
          | (refine qgi hS hu ?_; cbv)
          | (refine qbk hS ?_; try cbv)
          | (refine s_lk hS ?_; try cbv)
          | (refine s_mu hS ?_; try cbv)
          | fail)
        rename_i i2 hi2
      · refine ⟨(i2, u), by dsimp only; omega, ⟨by dsimp only; omega, by dsimp only; omega, by dsimp only; rw [hi2]; exact hnx⟩, rfl, ?_, ?_, by cbv⟩
        · cbv; exact s_qA
        · cbv; exact s_qA
      · refine ⟨(i2, true), by dsimp only; omega, ⟨by dsimp only; omega, by dsimp only; omega, by dsimp only; rw [hi2]; exact hnx⟩, rfl, ?_, ?_, by cbv⟩
        · cbv; exact s_qA
        · cbv; exact s_qA
    cbv
    have hl2 : lb.take j.toNat = lb := qbx (by omega)
    rw [hl2] at k3
    clear h k0 k1
    have hrs : r = true → s = true := fun h => k2 ▸ hbk (k3.trans h)
    have hn00 : 0 ≤ n := by omega
    have key : r = false ∨ (r = true ∧ s = true) := by
      cases r with
      | false => exact .inl rfl
      | true => exact .inr ⟨rfl, hrs rfl⟩
    rcases key with rfl | ⟨rfl, rfl⟩ <;> cbv
    all_goals
      repeat' (first
        | (refine qbl hS rfl ?_; try cbv)
        | (refine s_ck hS ?_; try cbv)
        | (refine qad hS ?_ ?_ <;> intro h <;> (try cbv) <;> try exact s_ab h)
        | (refine s_ad hS ?_; intro _ _; try cbv)
        | (refine s_sb hS ?_; intro _ _; try cbv)
        | (refine qaq hS ?_; intro _ _; try cbv)
        | (refine qaf hS ?_; try cbv)
        | (refine qbk hS ?_; try cbv)
        | (refine s_lk hS ?_; try cbv)
        | (refine s_mu hS ?_; try cbv)
        | fail)
    all_goals
      refine qau hS 2 I.qew (fun x : Int => 0 ≤ x ∧ x ≤ n) (fun x => [(12, .i .i64 (.y x))]) (fun _ => []) (fun x => (n - x).toNat) 0 rfl
        ⟨⟨Int.le_refl _, hn00⟩, rfl, ?_, ?_, by cbv⟩ ?_
      · cbv; exact s_qA
      · cbv; exact s_qA
      intro x hx
      cbv
      obtain ⟨q0, q1⟩ := hx
      refine qad hS ?_ ?_ <;> intro h <;> cbv
      · obtain ⟨⟨a, b⟩, hp⟩ := qfe (l := q) (i := x) (by omega) q0
        have hsz := qmw hp
        have hsz' : szF (a, b) = ilen a + ilen b + 32 := rfl
        have h0a := qah a
        have h0b := qah b
        obtain ⟨Lf, hLf⟩ : ∃ L, fieldB mx l (a, b) = L := ⟨_, rfl⟩
        obtain ⟨lf, hlf⟩ : ∃ L, fieldL mx l (a, b) = L := ⟨_, rfl⟩
        obtain ⟨Ff, hFf⟩ : ∃ F, cellsB Lf = F := ⟨_, rfl⟩
        obtain ⟨nf, hnf⟩ : ∃ n, n = ilen Lf := ⟨_, rfl⟩
        obtain ⟨Rf, hRf⟩ : ∃ F, cellsF lf = F := ⟨_, rfl⟩
        obtain ⟨mf, hmf⟩ : ∃ n, n = ilen lf := ⟨_, rfl⟩
        have hok : Hu.BOk Lf := hLf ▸ qvs mx l (a, b)
        have hrg := qst l (a, b)
        obtain ⟨⟨fi, ft⟩, hfi⟩ : ∃ r, Tb.findR l (a, b) = r := ⟨_, rfl⟩
        rw [hfi] at hrg
        dsimp only at hrg
        obtain ⟨Fi, hFi⟩ : ∃ F, cellsB (idxB fi) = F := ⟨_, rfl⟩
        obtain ⟨ni, hni⟩ : ∃ n, n = ilen (idxB fi) := ⟨_, rfl⟩
        cases ft with
        | true =>
          have e1 : Lf = idxB fi := by rw [← hLf]; unfold fieldB; rw [hfi]; rfl
          have e2 : lf = l := by rw [← hlf]; unfold fieldL addP; rw [hfi]; simp
          rw [← e1] at hFi hni
          subst e2
          repeat' (first
            | (refine qbl hS rfl ?_; try cbv)
            | (refine s_ck hS ?_; try cbv)
            | (refine qad hS ?_ ?_ <;> intro h <;> (try cbv) <;> try exact s_ab h)
            | (refine s_ad hS ?_; intro _ _; try cbv)
            | (refine s_sb hS ?_; intro _ _; try cbv)
            | (refine qaq hS ?_; intro _ _; try cbv)
            | (refine qaf hS ?_; try cbv)
            | (refine qao hS rfl I.qcv (by decide +kernel) ?_; cbv)
            | (refine rowF hS hG hp q0 ?_; cbv)
            | (refine rfind_g hS (.v (z := .y mx) (n := .y m) rfl hF hm) hfi (by omega) ?_; cbv)
            | (refine qyn hS rfl I.qct (by decide +kernel) ?_; cbv; refine ⟨?_, ?_⟩ <;> cbv)
            | (refine qzaez hS (.v (z := .y mx) (n := .y m) rfl hF hm) hR hLf hlf hFf hnf hRf hmf (by omega) ?_; cbv)
            | (refine ridx_g hS (i := fi) rfl hrg.1 (by omega) (e1 ▸ hFi) (e1 ▸ hni) ?_; cbv)
            | (refine rsm_t hS (a := Lf) (ByC.two (.v (n := .y nf) hFf hnf) (.v (n := .y ni) hFi hni)) hok ?_; cbv)
            | (refine qjk hS (mx := mx) (.v rfl hRf hmf) (.v rfl hF hm) (by omega) ?_; cbv)
            | (refine qbk hS ?_; try cbv)
            | (refine s_lk hS ?_; try cbv)
            | (refine s_mu hS ?_; try cbv)
            | fail)
          all_goals
            rename_i i2 hi2
            refine ⟨i2, by omega, ⟨by omega, by omega⟩, rfl, ?_, ?_, by cbv⟩
            · cbv; exact s_qA
            · cbv; exact s_qA
        | false =>
          repeat' (first
            | (refine qbl hS rfl ?_; try cbv)
            | (refine s_ck hS ?_; try cbv)
            | (refine qad hS ?_ ?_ <;> intro h <;> (try cbv) <;> try exact s_ab h)
            | (refine s_ad hS ?_; intro _ _; try cbv)
            | (refine s_sb hS ?_; intro _ _; try cbv)
            | (refine qaq hS ?_; intro _ _; try cbv)
            | (refine qaf hS ?_; try cbv)
            | (refine qao hS rfl I.qcv (by decide +kernel) ?_; cbv)
            | (refine rowF hS hG hp q0 ?_; cbv)
            | (refine rfind_g hS (.v (z := .y mx) (n := .y m) rfl hF hm) hfi (by omega) ?_; cbv)
            | (refine qyn hS rfl I.qct (by decide +kernel) ?_; cbv; refine ⟨?_, ?_⟩ <;> cbv)
            | (refine qzaez hS (.v (z := .y mx) (n := .y m) rfl hF hm) hR hLf hlf hFf hnf hRf hmf (by omega) ?_; cbv)
            | (refine ridx_g hS (i := fi) rfl hrg.1 (by omega) hFi hni ?_; cbv)
            | (refine qbk hS ?_; try cbv)
            | (refine s_lk hS ?_; try cbv)
            | (refine s_mu hS ?_; try cbv)
            | fail)
          all_goals
            rename_i i2 hi2
            refine ⟨i2, by omega, ⟨by omega, by omega⟩, rfl, ?_, ?_, by cbv⟩
            · cbv; exact s_qA
            · cbv; exact s_qA
      · refine qgq hS ?_
        cbv
        exact .rfl
  · refine qko hS (.v (z := .y mx) (n := .y m) rfl hF hm) (mx := mx) (t := false) (by simpa using hR) (by omega) ?_
    cbv
    repeat' (first
      | (refine qbl hS rfl ?_; try cbv)
      | (refine s_ck hS ?_; try cbv)
      | (refine qad hS ?_ ?_ <;> intro h <;> (try cbv) <;> try exact s_ab h)
      | (refine s_ad hS ?_; intro _ _; try cbv)
      | (refine s_sb hS ?_; intro _ _; try cbv)
      | (refine qaq hS ?_; intro _ _; try cbv)
      | (refine qaf hS ?_; try cbv)
      | (refine qbk hS ?_; try cbv)
      | (refine s_lk hS ?_; try cbv)
      | (refine s_mu hS ?_; try cbv)
      | fail)
    refine qgq hS ?_
    cbv
    exact .rfl
end Pa
end Cz
namespace Go.Proofs.YtdbnbknghhpbiaaDoor
open Go Cz Go.ChangeShapes Go.WideShapes Go.ChangeAt Go.RowKit
theorem own : ownKnob Tryd.prog.godebug = Option.none := by kernel_rfl
theorem laidOut : laidOutB Tryd.prog = true := by kernel_rfl
theorem pk_tab : pks Tryd.prog 4 24 = some [.i .i64, .sl [.s, .s]] := by kernel_rfl
theorem pk_fds : pks Tryd.prog 4 22 = some [.sl [.s, .s]] := by kernel_rfl
set_option maxRecDepth 100000 in
theorem qyl (os : Os) (started : os.Started) (H : Type) (enc : TypeId × Value → H) :
    ReturnsInHanded {} Tryd.checked os 9 .any (fun w args => (Rows.packSecretSpec.pre enc Tryd.prog Tryd.f9 Rows.packSecretRow.domain false w args ∧ laidMetH Tryd.prog Rows.packSecretRow.laid w) ∧ sizedMet enc Tryd.prog Tryd.f9 (OpenSpec.ofChange Rows.packSecretSpec) false w args)
      (Rows.packSecretSpec.post enc Tryd.prog Tryd.f9 false true false false) := by
  refine returnsInHanded_of_change_and (C := Tryd.checked) (X := fun w _ => laidMetH Tryd.prog Rows.packSecretRow.laid w) (fun _ _ _ hh h => h.of_heap hh) own started (by kernel_rfl) Tryd.func9
    (ChangeSpec.witness_shaped (enc := enc) (C := Tryd.checked) (os := os) (X := fun w _ => laidMetH Tryd.prog Rows.packSecretRow.laid w) false (World.laidAll Tryd.prog os Rows.packSecretRow.laid) #[.agg #[.int .i64 0, .slice none 0 0], .slice none 0 0] 8 (World.laidAll_os _ _ _)
      (World.shaped_of_ZipB (by kernel_rfl) (by kernel_rfl)) (by kernel_rfl) (by kernel_rfl) (by kernel_rfl)
      (by rw [MakeChecks.laidMetH_plain _ _ _ (by kernel_rfl)]; exact laidMet_laidAll _ (by kernel_rfl) (by kernel_rfl))) ?_
  intro W base args ds gs before hval0 hW _ hsz _ _
  have hval : ∀ (j : Nat) t v, Tryd.f9.params[j]? = some t → args[j]? = some v → Value.okWide Tryd.prog W .any base t v := hval0
  have hW' := hW
  obtain ⟨p, q, hA0, hV, hbef, hfz, hnd⟩ := hW
  have hA : DataW.TrodAll enc Tryd.prog W 0 (fun _ => true) true Tryd.f9.params.toList args.toList ds p := hA0
  rw [Tryd.params9] at hA hval
  obtain ⟨v0, vs0, d0, ds0, p0, q0, hargs, rfl, rfl, h0, r0⟩ := trodAll_cons hA
  obtain ⟨v1, vs1, d1, ds1, p1, q1, rfl, rfl, rfl, h1, r1⟩ := trodAll_cons r0
  obtain ⟨rfl, rfl, rfl⟩ := trodAll_nil r1
  obtain rfl : args = #[v0, v1] := by cases args; simp_all
  obtain ⟨rfl, rfl⟩ := trodVars_none hV
  obtain ⟨c0, rfl, _⟩ := okWide_struct Tryd.underlying24 (hval 0 24 v0 rfl rfl)
  obtain ⟨fu0, hf0⟩ := h0
  obtain ⟨c1, len1, cap1, rfl⟩ := okWide_slice Tryd.underlying22 (hval 1 22 v1 rfl rfl)
  obtain ⟨fu1, hf1⟩ := h1
  obtain ⟨s0, hk0, hd0⟩ := qgl 4 24 _ fu0 _ _ pk_tab hf0 fun n hn => of_decide_eq_true (List.all_eq_true.1 hsz n (DataW.weights_mem_each (j := 0) (by kernel_rfl) (by first | rfl | simp) n hn))
  obtain ⟨mx, l, rfl, lo_mx, hi_mx, hl_l, hs_l⟩ := Tb.op_tab hk0
  obtain ⟨s1, hk1, hd1⟩ := qgl 4 22 _ fu1 _ _ pk_fds hf1 fun n hn => of_decide_eq_true (List.all_eq_true.1 hsz n (DataW.weights_mem_each (j := 1) (by kernel_rfl) (by first | rfl | simp) n hn))
  obtain ⟨q, rfl, hl_q, hs_q⟩ := Tb.op_fds hk1
  have hd' : denL (nmW W) [Tb.tabV mx l, .v false 2 (Tb.cellsF q) (.y (ilen q))] [Value.agg c0, Value.slice c1 len1 cap1] := by
    simp only [denL]
    exact ⟨(by simp only [Tb.tabV, den]; exact ⟨c0, rfl, hd0⟩), qsx hd1, trivial⟩
  refine (qzack I.qdk (Pa.secrets_f hs_l hl_l hs_q hl_q) hd').mono fun e W' ⟨he, hb⟩ => ?_
  subst he
  exact ⟨_, rfl, post_law laidOut hW' rfl (by kernel_rfl) rfl Tryd.underlying4 rfl hb⟩
theorem secret_row : Rows.PackSecretSaid :=
  OpenClaim.holds_of_wide 9 Tryd.f9 rfl rfl rfl rfl rfl rfl rfl ⟨rfl, rfl, rfl, rfl, rfl⟩ rfl rfl rfl rfl rfl (by kernel_rfl) Tryd.func9 (by kernel_rfl)
    (of_decide_eq_true (by kernel_rfl)) (by unfold Func.isWrapper; first | (rw [if_pos (by decide +kernel)]; kernel_rfl) | (rw [if_neg (by decide +kernel)]; exact ⟨rfl, rfl⟩))
    (fun os started H enc _ => qyl os started H enc)
theorem secret_holds : Rows.PackSecretCardSaid :=
  Claim7.holds_tied_plain_at .later [] _ _ _ _ secret_row (fun _ h => by cases h) (by kernel_rfl) (fun _ h => by cases h) packSecret_row_tie rfl ⟨rfl, rfl⟩ (by kernel_rfl) rfl
    (fun f fn hf hfn => by
      obtain rfl : f = 9 := Option.some.inj ((show Tryd.prog.funcNamed "causey/causeylaw11.PackSecret" = some 9 by kernel_rfl).symm.trans hf) |>.symm
      obtain rfl : fn = Tryd.f9 := (Option.some.inj (Tryd.func9.symm.trans hfn)).symm
      exact ⟨by kernel_rfl, fun j t ht => by
        rw [Tryd.params9] at ht
        have hm : t ∈ [24, 22] := by simpa using Array.mem_of_getElem? ht
        have hall : ([24, 22].all fun u => !Tryd.prog.wantsStandIn u) = true := by kernel_rfl
        exact (show Tryd.prog.wantsStandIn t = false by simpa using List.all_eq_true.1 hall t hm)⟩)
    (by kernel_rfl)
#print axioms secret_holds
end Go.Proofs.YtdbnbknghhpbiaaDoor
