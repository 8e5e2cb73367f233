/- What the claims of this group lean on, part 7: our engine, the functions' simplified codes, their contracts. No condition. -/
import Derived.Test.YtdbnbknghhpbiaaDoorKU6
set_option linter.unusedSimpArgs false
set_option linter.unusedVariables false
set_option maxRecDepth 100000
set_option maxHeartbeats 4000000
namespace Cz
open Go Go.RowKit
def Ctx (C : SV → SV) : Prop := ∀ (ρ : Nms) (s : SV) (v : Value), den ρ (C s) v → ∃ u, den ρ s u ∧ ∀ (ρ' : Nms) (s' : SV), den ρ' s' u → den ρ' (C s') v
section
variable {P : Program} {l : List Blk}
theorem call_one {C : SV → SV} (hC : Ctx C) {sz : Nat} {F : List SV} {n : Int} {g : FuncId} {args : List SV}
    (hF : (S0 P).call g args [] (fun x l' => ∃ (j : Nat) (lit : Bool) (st z : Z) (F' : List SV), x = C (.sl j sz (.l 0) z none) ∧ l'[j]? = some (.r false lit st sz F') ∧ plains F' = true ∧ F'.take (z.v.toNat * sz) = F ∧ z.v = n)) :
    (S0 P).call g args [] (fun x l' => ∃ (j : Nat) (z : Z), x = C (.sl j sz (.l 0) z none) ∧ l'[j]? = some (.r false false (.l 0) sz F) ∧ z.v = n) := by
  intro N W0 ρ W vals hR hd
  refine NextR.mono ?_ (hF N W0 ρ W vals hR hd)
  rintro v W' ⟨ρ', x, l', ⟨j, lit, st, z, F', rfl, hB, hp, hFF, hz⟩, hle, hll, hR', hdv⟩
  obtain ⟨u, hu, hback⟩ := hC _ _ _ hdv
  have hj := (List.getElem?_eq_some_iff.1 hB).1
  obtain ⟨hsz, hvs, _, hown⟩ := hR'.blk j _ hB
  obtain ⟨cur, _, _, hown2, _, _⟩ := hown rfl
  simp only [den] at hu
  obtain ⟨h0, h1, vw, hvw, hin, hs⟩ := hu
  have e0 : (Z.l 0).v.toNat = 0 := rfl
  rw [e0] at hs hin
  rw [Nat.zero_add] at hin
  -- the slice's own view
  have key : ∃ vw0 : View, vw0.n = F.length ∧ vw0.n ≤ vw0.cap * sz ∧ (∀ a, vw0.base = some a → vw.base = some a) ∧ ViewOk W' ρ' F vw0 ∧ OwnOk N W' vw0 (vw0.cap * sz) ∧ (0 + z.v.toNat) * sz ≤ vw0.n ∧ SlVal vw0 sz 0 z.v.toNat (Option.map Z.v none) u := by
    have empty : z.v.toNat = 0 → (∃ a', u = .slice a' 0 0) → ∃ vw0 : View, vw0.n = F.length ∧ vw0.n ≤ vw0.cap * sz ∧ (∀ a, vw0.base = some a → vw.base = some a) ∧ ViewOk W' ρ' F vw0 ∧ OwnOk N W' vw0 (vw0.cap * sz) ∧ (0 + z.v.toNat) * sz ≤ vw0.n ∧ SlVal vw0 sz 0 z.v.toNat (Option.map Z.v none) u := by
      intro hz0 ha
      have hF0 : F = [] := by rw [← hFF, hz0]; simp
      subst hF0
      exact ⟨⟨none, 0, 0⟩, rfl, Nat.zero_le _, (fun a h => by cases h), ⟨Nat.zero_le _, fun _ => ⟨rfl, rfl⟩, fun q x hq _ => by simp at hq⟩, (fun a h => by cases h), by rw [hz0]; simp, ⟨rfl, hz0, ha⟩⟩
    have hv := hvs vw hvw
    unfold SlVal at hs
    cases hb : vw.base with
    | none =>
      rw [hb] at hs
      rw [← hb] at *
      exact empty hs.2.1 hs.2.2
    | some a =>
      rw [hb] at hs
      rcases hs with ⟨c, e, hc, hc2, hc3⟩ | ⟨h2, h3, _⟩
      · have hlen : F.length = z.v.toNat * sz := by rw [← hFF, List.length_take]; have := hv.1; omega
        refine ⟨⟨some a, z.v.toNat * sz, c⟩, hlen.symm, Nat.mul_le_mul_right _ hc, fun b h => by rw [← h], ⟨by rw [hlen]; exact Nat.le_refl _, fun h => by (cases h), fun q x hq hx => ?_⟩, ?_, by rw [Nat.zero_add]; exact Nat.le_refl _, ?_⟩
        · have hq' : q < z.v.toNat * sz := hq
          have : F'[q]? = some x := by rw [← hFF, List.getElem?_take_of_lt hq'] at hx; exact hx
          obtain ⟨a', w, g1, g2, g3⟩ := hv.2.2 q x (by omega) this
          rw [hb] at g1
          exact ⟨a', w, g1, g2, g3⟩
        · have hc4 : c = vw.cap := by have h5 : 0 + c = vw.cap := hc3; omega
          intro b hb'
          have := hown2 vw hvw b (by rw [hb]; exact hb')
          rw [hc4]; exact this
        · unfold SlVal
          refine .inl ⟨c, e, hc, by rw [Nat.zero_add]; exact Nat.le_refl _, ?_⟩
          simp only [Option.map_none, Nat.zero_add]
      · exact hb ▸ empty h2 h3
  obtain ⟨vw0, k1, k2, k3, k4, k5, k6, k7⟩ := key
  let ρ2 : Nms := ⟨fun k => if k = j then [vw0] else ρ' k, ρ'.fz, ρ'.q⟩
  have hj2 : ρ2 j = [vw0] := by simp [ρ2]
  have ho2 : ∀ k, k ≠ j → ρ2 k = ρ' k := fun k hk => by simp [ρ2, hk]
  have hpF : plains F = true := by rw [← hFF]; exact qmr fun x hx => qbs hp x (List.mem_of_mem_take hx)
  have hat : ∀ (k : Nat) (B : Blk), ((List.replicate l'.length Blk.dead).set j (.r false false (.l 0) sz F))[k]? = some B → B.wr = true → k = j ∧ B = .r false false (.l 0) sz F := by
    intro k B hk hw
    by_cases e : k = j
    · subst e
      rw [List.getElem?_set_self (by simpa using hj)] at hk
      exact ⟨rfl, (Option.some.inj hk).symm⟩
    · rw [List.getElem?_set_ne (fun h => e h.symm), List.getElem?_replicate] at hk
      split at hk
      · cases hk; cases hw
      · cases hk
  refine ⟨ρ2, C (.sl j sz (.l 0) z none), (List.replicate l'.length Blk.dead).set j (.r false false (.l 0) sz F), ⟨j, z, rfl, ?_, hz⟩, ⟨fun k hk => absurd hk (Nat.not_lt_zero k), hle.fz, hle.fq, hle.q⟩, by simp, ⟨hR'.below, hR'.le, ?_, ?_, ?_, ?_, ?_, hR'.qN, hR'.fin, ?_⟩, ?_⟩
  · rw [List.getElem?_set_self (by simpa using hj)]
  · intro k hk
    simp only [List.length_set, List.length_replicate] at hk
    rw [ho2 k (by omega)]; exact hR'.out k hk
  · intro k vw' a hv ha
    by_cases e : k = j
    · subst e
      rw [hj2, List.mem_singleton] at hv; subst hv
      exact hR'.ids k vw a hvw (k3 a ha)
    · rw [ho2 k e] at hv; exact hR'.ids k vw' a hv ha
  · intro k B hk
    by_cases e : k = j
    · subst e
      rw [List.getElem?_set_self (by simpa using hj)] at hk
      simp only [Option.some.injEq] at hk; subst hk
      refine ⟨hsz, fun vw' hv => ?_, fun _ x hx => qbs hpF x hx, fun _ => ⟨vw0, by rw [hj2]; simp, k1, fun vw' hv => ?_, k2, fun vw' hv => ?_⟩⟩
      · rw [hj2, List.mem_singleton] at hv; subst hv
        exact ViewOk.plain (ρ := ρ') ρ2 (fun _ _ _ h => h) hpF k4
      · rw [hj2, List.mem_singleton] at hv; subst hv; exact k5
      · rw [hj2, List.mem_singleton] at hv; subst hv; exact .inl ⟨rfl, rfl⟩
    · rw [List.getElem?_set_ne (fun h => e h.symm), List.getElem?_replicate] at hk
      split at hk
      · cases hk; trivial
      · cases hk
  · intro k k' B vw1 vw2 a a' hB' hw hne hv hv' ha ha'
    obtain ⟨rfl, _⟩ := hat k B hB' hw
    rw [hj2, List.mem_singleton] at hv; subst hv
    rw [ho2 k' (fun e => hne e.symm)] at hv'
    exact hR'.sep k k' _ vw vw2 a a' hB rfl hne hvw hv' (k3 a ha) ha'
  · intro k B vw1 a hB' hw hv ha
    obtain ⟨rfl, _⟩ := hat k B hB' hw
    rw [hj2, List.mem_singleton] at hv; subst hv
    exact hR'.own k _ vw a hB rfl hvw (k3 a ha)
  · intro k B vw1 a hB' hw hv ha o
    obtain ⟨rfl, _⟩ := hat k B hB' hw
    rw [hj2, List.mem_singleton] at hv; subst hv
    exact hR'.fsep k _ vw a hB rfl hvw (k3 a ha) o
  · refine hback ρ2 _ ?_
    simp only [den]
    exact ⟨h0, h1, vw0, by rw [hj2]; simp, by rw [e0]; exact k6, by rw [e0]; exact k7⟩
end
section
variable {P : Program} {l : List Blk}
theorem use_one {S : Sy} (hS : S0 P = S) {C : SV → SV} (hC : Ctx C) (hCz : ∀ (l' : List Blk) (j m : Nat) (z z' : Z) (sz : Nat), z.v = z'.v → Fz l' (fun i => m + i) [some j] (C (.sl j sz (.l 0) z none)) (C (.sl m sz (.l 0) z' none))) {sz : Nat} {F : List SV} {n : Int} {g : FuncId} {args args' : List SV} {K : SV → List Blk → Prop}
    (hF : (S0 P).call g args' [] (fun x l' => ∃ (j : Nat) (lit : Bool) (st z : Z) (F' : List SV), x = C (.sl j sz (.l 0) z none) ∧ l'[j]? = some (.r false lit st sz F') ∧ plains F' = true ∧ F'.take (z.v.toNat * sz) = F ∧ z.v = n)) (ha : SubL args args')
    (hr : refsBL (fun _ => false) args' = true) (hsz : 0 < sz) (hp : plains F = true) (hK : K (C (.sl (len l) sz (.l 0) (.y n) none)) (snoc l (.r false false (.y 0) sz F))) : S.call g args l K := by
  subst hS
  refine qnr ha (qvw (Z := fun sts => sts 0 = 0) (rows := [(sz, F)]) (y := fun m => C (.sl m sz (.l 0) (.y n) none)) (qat (call_one hC hF) fun x l' h => ⟨x, .rfl, ?_⟩) hr ⟨⟨hsz, hp⟩, trivial⟩ fun sts hz => ?_)
  · obtain ⟨j, z, rfl, hj, hz⟩ := h
    refine ⟨[some j], ⟨⟨_, _, _, hj, .rfl⟩, rfl, trivial⟩, fun m => hCz l' j m z (.y n) sz hz, ?_⟩
    simp only [stsOf, List.getElem?_cons_zero, hj]
    rfl
  · have : rowBs sts [(sz, F)] 0 = [.r false false (.y 0) sz F] := by simp only [rowBs, hz]
    rw [this]
    rw [qbq, qbj] at hK
    exact hK
end
end Cz
namespace Cz
open Go Go.RowKit Go.Proofs
namespace Pa
def upP (w : Int) : Int := if w = 1 then 64 else if w = 2 then 16 else 0
def bitP (w : Int) : Int := if w = 1 then 6 else 4
def powP (w : Int) : Int := if w = 1 then 64 else 16
theorem of_f {w u k : Int} (hu : u = upP w) (hk : k = bitP w) : (S0 Tryd.prog).call 70 [.i .i64 (.y w)] [] (fun y _ => Sub y (.ag [.i .i64 (.y u), .i .i64 (.y k)])) := by
  generalize hS : S0 Tryd.prog = S
  refine qac hS I.qzaaw ?_
  cbv
  refine qac hS I.quf ?_
  cbv
  refine qer hS rfl I.qny (by decide +kernel) ?_
  cbv
  refine ⟨?_, ?_⟩ <;> cbv
  all_goals
    repeat' (first
      | (refine qbw hS rfl ?_; try cbv)
      | (refine s_ck hS ?_; try cbv)
      | (refine qab hS ?_ ?_ <;> intro h <;> (try cbv) <;> try exact s_ab h)
      | (refine s_ad hS ?_; intro _ _; try cbv)
      | (refine s_sb hS ?_; intro _ _; try cbv)
      | (refine qau hS ?_; intro _ _; try cbv)
      | (refine qae hS ?_; try cbv)
      | (refine qbx hS ?_; try cbv)
      | (refine s_lk hS ?_; try cbv)
      | (refine s_mu hS ?_; try cbv)
      | fail)
    all_goals exact qdc (.cons (qag (by simp only [Z.v]; rw [hu]; unfold upP; split <;> (try split) <;> omega)) (.cons (qag (by simp only [Z.v]; rw [hk]; unfold bitP; split <;> omega)) .nil))
theorem of_u {S : Sy} {bl : List Blk} {K : SV → List Blk → Prop} (hS : S0 Tryd.prog = S) {z : Z} {w : Int} (hz : z.v = w) (hK : ∀ u k, u = upP w → k = bitP w → K (.ag [.i .i64 (.y u), .i .i64 (.y k)]) bl) : S.call 70 [.i .i64 z] bl K :=
  qbe hS (of_f (w := w) rfl rfl) (.cons (qag hz) .nil) rfl rfl (hK _ _ rfl rfl)
theorem repS_len (z : List SV) : ∀ n, (repS n z).length = n * z.length
  | 0 => by simp [repS]
  | n + 1 => by rw [repS, qdd, List.length_append, repS_len z n, Nat.add_mul]; omega
theorem qoa {z : List SV} (h : plains z = true) : ∀ n, plains (repS n z) = true
  | 0 => rfl
  | n + 1 => by rw [repS, qdd]; exact qhd h (qoa h n)
theorem s_mkg {S : Sy} {zero : List SV} {n c : Int} {K : List SV → Prop} (hS : S0 Tryd.prog = S) (hc : n = c) (h0 : 0 ≤ n) (h1 : n ≤ 65536) (hz : plains zero = true) (h : ∀ F, F.length = n.toNat * zero.length → plains F = true → K F) : S.mkr zero n c K :=
  s_mk hS hc h0 h1 (qoa hz _) (h _ (repS_len _ _) (qoa hz _))
theorem grow_f {n : Int} (h0 : 0 < n) (h1 : n ≤ 65536) : (S0 Tryd.prog).call 87 [.re (.slice none 0 0), .i .i64 (.y n)] [] (fun x l' => ∃ (j : Nat) (lit : Bool) (st z : Z) (F' : List SV), x = (.sl j 1 (.l 0) z none) ∧ l'[j]? = some (.r false lit st 1 F') ∧ plains F' = true ∧ F'.take (z.v.toNat * 1) = [] ∧ z.v = 0) := by
  generalize hS : S0 Tryd.prog = S
  refine qac hS I.qew ?_
  cbv
  repeat' (first
    | (refine qbw hS rfl ?_; try cbv)
    | (refine s_ck hS ?_; try cbv)
    | (refine qab hS ?_ ?_ <;> intro h <;> (try cbv) <;> try exact s_ab h)
    | (refine s_ad hS ?_; intro _ _; try cbv)
    | (refine s_sb hS ?_; intro _ _; try cbv)
    | (refine qau hS ?_; intro _ _; try cbv)
    | (refine qae hS ?_; try cbv)
    | (refine s_mkg hS rfl (by omega) (by omega) rfl fun F hF hp => ?_; cbv)
    | (refine qbx hS ?_; try cbv)
    | (refine s_lk hS ?_; try cbv)
    | (refine s_mu hS ?_; try cbv)
    | fail)
  exact ⟨0, false, .l 0, .l 0, F, rfl, rfl, hp, rfl, rfl⟩
theorem grow_u {S : Sy} {bl : List Blk} {K : SV → List Blk → Prop} (hS : S0 Tryd.prog = S) {z : Z} (h0 : 0 < z.v) (h1 : z.v ≤ 65536) (hK : K (.sl (len bl) 1 (.l 0) (.y 0) none) (snoc bl (.r false false (.y 0) 1 []))) : S.call 87 [.re (.slice none 0 0), .i .i64 z] bl K :=
  use_one hS (C := fun s => s) (fun ρ s v d => ⟨v, d, fun _ _ d' => d'⟩) (fun l' j m z z' sz h => .keep (i := 0) rfl rfl h) (grow_f h0 h1) (.cons .rfl (.cons (qag rfl) .nil)) rfl (by decide) rfl hK
theorem tell_own {g : FuncId} {args : List SV} {F : List SV} {n : Int} (hF : (S0 Tryd.prog).call g args [] (OwnR 0 1 F false [])) (hpl : plains F = true) (hn : n * 1 = F.length) : (S0 Tryd.prog).call g args [] (Tell (.v false 1 F (.y n))) := by
  refine qat hF fun x l' ⟨y, hs, hr⟩ => ⟨y, hs, ?_⟩
  rcases hr with ⟨rfl, rfl⟩ | ⟨k, m, lit, st, F', _, rfl, hB, hsub, hp, hm⟩
  · exact fun g => .nil (by decide) (by simp only [Z.v]; simpa using hn)
  · have hmn : m.v = n := by omega
    have hl : F'.length = F.length := hsub.1
    have e : (F'.drop ((Z.l 0).v.toNat * 1)).take (m.v.toNat * 1) = F' := by
      rw [show (Z.l 0).v.toNat * 1 = 0 from rfl, List.drop_zero, List.take_of_length_le (by omega)]
    exact fun g => .row hB rfl (.fsub (by rw [e]; exact hsub) hpl) hpl hmn
end Pa
end Cz
namespace Cz
open Go Go.RowKit Go.Proofs
namespace Pa
open Tb
abbrev Fd := Tb.Fd
theorem up_bd (w : Int) : 0 ≤ upP w ∧ upP w ≤ 64 ∧ 4 ≤ bitP w ∧ bitP w ≤ 6 ∧ 2 ^ (bitP w).toNat = powP w := by
  unfold upP bitP powP
  split
  · exact ⟨by decide, by decide, by decide, by decide, rfl⟩
  · split <;> exact ⟨by decide, by decide, by decide, by decide, rfl⟩
def nmB (i : Int) (b : List UInt8) (w : Int) : List Int := putI i (powP w) (upP w) ++ bestT (byS b)
def fldB (f : Fd) (w : Int) : List Int := putI 0 (powP w) (upP w) ++ bestT (byS f.1) ++ bestT (byS f.2)
def idxB (i : Int) : List Int := putI i 128 128
structure Nx where
  e : Int
  sized : Bool
  added : Bool
  size : Int
  f : Fd
  rest : List Int
def nxE (e : Int) : Nx := ⟨e, false, false, 0, ([], []), []⟩
def powU (c : Int) : Int := if 128 ≤ c then 128 else if 64 ≤ c then 64 else if 32 ≤ c then 32 else 16
def litU (l : List Fd) (a : Bool) (i : Int) (b : List Int) : Nx :=
  if 0 < i then
    if (atR l i).2 ≠ 0 then nxE (atR l i).2 else if tE b ≠ 0 then nxE (tE b) else ⟨0, false, a, 0, ((atR l i).1.1, strB (tS b)), tR b⟩
  else if tE b ≠ 0 then nxE (tE b) else if tE (tR b) ≠ 0 then nxE (tE (tR b)) else ⟨0, false, a, 0, (strB (tS b), strB (tS (tR b))), tR (tR b)⟩
def nxtC (l : List Fd) (c n : Int) (r : List Int) : Nx :=
  if 128 ≤ c then (if (atR l n).2 ≠ 0 then nxE (atR l n).2 else ⟨0, false, false, 0, (atR l n).1, r⟩)
  else if 64 ≤ c then litU l true n r
  else if 32 ≤ c then ⟨0, true, false, n, ([], []), r⟩
  else litU l false n r
def nxtU (l : List Fd) (b : List Int) : Nx :=
  if preE b (powU (b.getD 0 0)) ≠ 0 then nxE (preE b (powU (b.getD 0 0))) else nxtC l (b.getD 0 0) (preN b (powU (b.getD 0 0))) (preR b (powU (b.getD 0 0)))
structure Un where
  b : List Int
  mx : Int
  l : List Fd
  out : List Fd
  size : Int
def tellU (s : Un) (x : Nx) : Un :=
  ⟨x.rest, s.mx, if x.added then evL s.mx (x.f :: s.l) else s.l, if 2000 < s.size + szF x.f then s.out else s.out ++ [x.f], s.size + szF x.f⟩
def stepU (most : Int) (s : Un) (x : Nx) : Int × Un :=
  if x.e ≠ 0 then (x.e, s)
  else if x.sized then (if 0 < s.size ∨ most < x.size then (100, s) else (0, ⟨x.rest, x.size, evL x.size s.l, s.out, s.size⟩))
  else (0, tellU s x)
def runU (most : Int) : Nat → Un → Int × Un
  | 0, s => (0, s)
  | n + 1, s => if s.b = [] then (0, s) else if (stepU most s (nxtU s.l s.b)).1 ≠ 0 then stepU most s (nxtU s.l s.b) else runU most n (stepU most s (nxtU s.l s.b)).2
def blkU (t : Tab) (most : Int) (b : List Int) : (List Fd × Bool × Tab) × Int :=
  if rightL t.1 t.2 = true ∧ 0 ≤ most ∧ most ≤ 4096 then
    (if (runU most b.length ⟨b, t.1, t.2, [], 0⟩).1 ≠ 0 then (([], false, (0, [])), (runU most b.length ⟨b, t.1, t.2, [], 0⟩).1)
    else (((runU most b.length ⟨b, t.1, t.2, [], 0⟩).2.out, decide (2000 < (runU most b.length ⟨b, t.1, t.2, [], 0⟩).2.size), ((runU most b.length ⟨b, t.1, t.2, [], 0⟩).2.mx, (runU most b.length ⟨b, t.1, t.2, [], 0⟩).2.l)), 0))
  else (([], false, (0, [])), 2)
theorem pgo_ge {b : List Int} : ∀ (f : Nat) (a n : Int), 1 ≤ a → (pgo b f a n).2.2 = 0 → a < (pgo b f a n).2.1
  | 0, _, _, _, h => by simp [pgo] at h
  | f + 1, a, n, h0, h => by
    rw [pgo] at h ⊢
    split at h
    · simp at h
    · split at h
      · simp at h
      · split at h
        · rename_i h1 h2; rw [if_neg h1, if_pos h2]; dsimp only; omega
        · rename_i h1 h2
          rw [if_neg h1, if_neg h2]
          have := pgo_ge f (a + 1) _ (by omega) h
          omega
theorem preR_lt {b : List Int} {p : Int} (h : preE b p = 0) : ilen (preR b p) < ilen b := by
  have h0 := qai b
  unfold preR
  rw [if_pos h]
  unfold preE at h
  cases b with
  | nil => simp [preI] at h
  | cons v b =>
    have h1 : 1 ≤ (preI (v :: b) p).2.1 := by
      unfold preI at h ⊢
      dsimp only at h ⊢
      split
      · exact Int.le_refl _
      · rename_i h2
        rw [if_neg h2] at h
        have := pgo_ge _ _ _ (by decide) h
        omega
    unfold ilen
    rw [List.length_drop, List.length_cons]
    omega
theorem litU_ok {l : List Fd} {a : Bool} {i : Int} {b : List Int} (hb : Hu.BOk b) (h : (litU l a i b).e = 0) : Hu.BOk (litU l a i b).rest ∧ ilen (litU l a i b).rest ≤ ilen b ∧ (litU l a i b).sized = false := by
  obtain ⟨h1, h2, h3⟩ := tT_ok hb
  obtain ⟨g1, g2, g3⟩ := tT_ok h2
  revert h
  unfold litU
  split
  · split
    · intro h; rename_i h1; exact absurd h h1
    · split
      · intro h; rename_i h1; exact absurd h h1
      · intro _; exact ⟨h2, h3, rfl⟩
  · split
    · intro h; rename_i h1; exact absurd h h1
    · split
      · intro h; rename_i h1; exact absurd h h1
      · intro _; exact ⟨g2, by dsimp only; omega, rfl⟩
theorem nxt_ok {l : List Fd} {b : List Int} (hb : Hu.BOk b) (h : (nxtU l b).e = 0) : Hu.BOk (nxtU l b).rest ∧ ilen (nxtU l b).rest < ilen b := by
  unfold nxtU at h ⊢
  split at h
  · rename_i h1; exact absurd h h1
  · rename_i h1
    rw [if_neg h1]
    have hlt := preR_lt (b := b) (p := powU (b.getD 0 0)) (by simpa using h1)
    have hok := qdf (p := powU (b.getD 0 0)) hb
    revert h
    unfold nxtC
    split
    · split
      · intro h; rename_i h1; exact absurd h h1
      · intro _; exact ⟨hok, hlt⟩
    · split
      · intro h
        have := litU_ok hok h
        exact ⟨this.1, by omega⟩
      · split
        · intro _; exact ⟨hok, hlt⟩
        · intro h
          have := litU_ok hok h
          exact ⟨this.1, by omega⟩
theorem qzo {most : Int} {s : Un} {x : Nx} (h : (stepU most s x).1 = 0) : x.e = 0 ∧ (stepU most s x).2.b = x.rest := by
  unfold stepU at h ⊢
  split at h
  · rename_i h1; exact absurd h h1
  · rename_i h1
    refine ⟨by simpa using h1, ?_⟩
    rw [if_neg h1]
    split at h
    · split at h
      · simp at h
      · rename_i h2 h3; rw [if_pos h2, if_neg h3]
    · rename_i h2; rw [if_neg h2]; rfl
theorem run_two (most : Int) : ∀ (n m : Nat) (s : Un), m ≤ n → Hu.BOk s.b → s.b.length ≤ m → runU most n s = runU most m s
  | 0, m, s, h, _, _ => by rw [show m = 0 by omega]
  | n + 1, 0, s, _, _, h => by
    have hs : s.b = [] := List.length_eq_zero_iff.1 (by omega)
    simp only [runU, hs, if_true]
  | n + 1, m + 1, s, hm, hb, h => by
    simp only [runU]
    split
    · rfl
    · split
      · rfl
      · rename_i h0 h1
        have h1 : (stepU most s (nxtU s.l s.b)).1 = 0 := by simpa using h1
        obtain ⟨h2, h3⟩ := qzo h1
        obtain ⟨h4, h5⟩ := nxt_ok hb h2
        exact run_two most n m _ (by omega) (by rw [h3]; exact h4) (by rw [h3]; unfold ilen at h5; omega)
theorem run_more (most : Int) (n : Nat) (s : Un) (hb : Hu.BOk s.b) (h : s.b.length ≤ n) : runU most n s = runU most s.b.length s := run_two most n _ s h hb (Nat.le_refl _)
def goU (most : Int) (s : Un) : Int × Un := runU most s.b.length s
theorem qzaas {most : Int} {s : Un} (h : s.b = []) : goU most s = (0, s) := by unfold goU; rw [h]; rfl
theorem go_err {most : Int} {s : Un} (h : s.b ≠ []) (h1 : (stepU most s (nxtU s.l s.b)).1 ≠ 0) : goU most s = stepU most s (nxtU s.l s.b) := by
  unfold goU
  obtain ⟨n, hn⟩ : ∃ n, s.b.length = n + 1 := ⟨s.b.length - 1, by have := List.length_pos_iff.2 h; omega⟩
  rw [hn, runU, if_neg h, if_pos h1]
theorem go_step {most : Int} {s : Un} (hb : Hu.BOk s.b) (h : s.b ≠ []) (h1 : (stepU most s (nxtU s.l s.b)).1 = 0) : goU most s = goU most (stepU most s (nxtU s.l s.b)).2 := by
  unfold goU
  obtain ⟨n, hn⟩ : ∃ n, s.b.length = n + 1 := ⟨s.b.length - 1, by have := List.length_pos_iff.2 h; omega⟩
  obtain ⟨h2, h3⟩ := qzo h1
  obtain ⟨h4, h5⟩ := nxt_ok hb h2
  rw [hn, runU, if_neg h, if_neg (by simpa using h1), run_more most n _ (by rw [h3]; exact h4) (by rw [h3]; unfold ilen at h5; omega)]
theorem blk_go {t : Tab} {most : Int} {b : List Int} : blkU t most b = if rightL t.1 t.2 = true ∧ 0 ≤ most ∧ most ≤ 4096 then
    (if (goU most ⟨b, t.1, t.2, [], 0⟩).1 ≠ 0 then (([], false, (0, [])), (goU most ⟨b, t.1, t.2, [], 0⟩).1)
    else (((goU most ⟨b, t.1, t.2, [], 0⟩).2.out, decide (2000 < (goU most ⟨b, t.1, t.2, [], 0⟩).2.size), ((goU most ⟨b, t.1, t.2, [], 0⟩).2.mx, (goU most ⟨b, t.1, t.2, [], 0⟩).2.l)), 0))
  else (([], false, (0, [])), 2) := rfl
theorem tE_of {b d x : List Int} (h : tTake b = (x, d, 0)) : tE b = 0 ∧ tS b = x ∧ tR b = d := by unfold tE tS tR; rw [h]; exact ⟨rfl, rfl, rfl⟩
theorem lit_name {l : List Fd} {a : Bool} {i : Int} {f : Fd} {d : List Int} (h0 : 0 < i) (h1 : (atR l i).2 = 0) (h2 : (atR l i).1.1 = f.1) (hb : ilen f.2 ≤ 1000000) : litU l a i (bestT (byS f.2) ++ d) = ⟨0, false, a, 0, f, d⟩ := by
  obtain ⟨e1, e2, e3⟩ := tE_of (qqz (qpo f.2) d (by rw [qfa]; exact hb))
  unfold litU
  rw [if_pos h0, if_neg (by simp [h1]), if_neg (by simp [e1]), h2, e2, e3, qwg]
theorem lit_own {l : List Fd} {a : Bool} {f : Fd} {d : List Int} (ha : ilen f.1 ≤ 1000000) (hb : ilen f.2 ≤ 1000000) : litU l a 0 (bestT (byS f.1) ++ (bestT (byS f.2) ++ d)) = ⟨0, false, a, 0, f, d⟩ := by
  obtain ⟨e1, e2, e3⟩ := tE_of (qqz (qpo f.1) (bestT (byS f.2) ++ d) (by rw [qfa]; exact ha))
  obtain ⟨g1, g2, g3⟩ := tE_of (qqz (qpo f.2) d (by rw [qfa]; exact hb))
  unfold litU
  rw [if_neg (by decide), if_neg (by simp [e1]), e3, if_neg (by simp [g1]), e2, g2, g3, qwg, qwg]
theorem nxt_way {l : List Fd} {i w : Int} {d : List Int} (h0 : 0 ≤ i) (h1 : i < 2147483648) : nxtU l (putI i (powP w) (upP w) ++ d) = litU l (decide (w = 1)) i d := by
  have key : ∀ p u : Int, 2 ≤ p → p ≤ 256 → (∀ x, 0 ≤ x → x < p → powU (u - u % p + x) = p ∧ ∀ n r, nxtC l (u - u % p + x) n r = litU l (decide (w = 1)) n r) → nxtU l (putI i p u ++ d) = litU l (decide (w = 1)) i d := by
    intro p u hp0 hp1 hx
    obtain ⟨x, x0, x1, hx2⟩ := qwv (up := u) (p := p) d h0 hp0
    obtain ⟨g1, g2, g3⟩ := qql (up := u) d h0 h1 hp0 hp1
    obtain ⟨k1, k2⟩ := hx x x0 x1
    unfold nxtU
    rw [hx2, k1, g2, if_neg (by simp), g1, g3, k2]
  unfold powP upP
  split
  · refine key 64 64 (by decide) (by decide) fun x x0 x1 => ⟨?_, fun n r => ?_⟩
    · unfold powU; rw [if_neg (by omega), if_pos (by omega)]
    · unfold nxtC; rw [if_neg (by omega), if_pos (by omega)]
      rename_i hw; rw [decide_eq_true hw]
  · split
    · refine key 16 16 (by decide) (by decide) fun x x0 x1 => ⟨?_, fun n r => ?_⟩
      · unfold powU; rw [if_neg (by omega), if_neg (by omega), if_neg (by omega)]
      · unfold nxtC; rw [if_neg (by omega), if_neg (by omega), if_neg (by omega)]
        rename_i hw _; rw [decide_eq_false hw]
    · refine key 16 0 (by decide) (by decide) fun x x0 x1 => ⟨?_, fun n r => ?_⟩
      · unfold powU; rw [if_neg (by omega), if_neg (by omega), if_neg (by omega)]
      · unfold nxtC; rw [if_neg (by omega), if_neg (by omega), if_neg (by omega)]
        rename_i hw _; rw [decide_eq_false hw]
theorem nxt_idx {l : List Fd} {i : Int} {d : List Int} (h0 : 0 ≤ i) (h1 : i < 2147483648) : nxtU l (idxB i ++ d) = if (atR l i).2 ≠ 0 then nxE (atR l i).2 else ⟨0, false, false, 0, (atR l i).1, d⟩ := by
  unfold idxB
  obtain ⟨x, x0, x1, hx2⟩ := qwv (up := 128) (p := 128) d h0 (by decide)
  obtain ⟨g1, g2, g3⟩ := qql (up := 128) (p := 128) d h0 h1 (by decide) (by decide)
  have e : powU (128 - 128 % 128 + x) = 128 := by unfold powU; rw [if_pos (by omega)]
  unfold nxtU
  rw [hx2, e, g2, if_neg (by simp), g1, g3]
  unfold nxtC
  rw [if_pos (by omega)]
theorem bok_way {i w : Int} (h0 : 0 ≤ i) : Hu.BOk (putI i (powP w) (upP w)) := by
  unfold powP upP
  split
  · exact qrm h0 (by decide) (by decide) (by decide) (by decide)
  · split <;> exact qrm h0 (by decide) (by decide) (by decide) (by decide)
theorem bok_nm {i w : Int} {b : List UInt8} (h0 : 0 ≤ i) : Hu.BOk (nmB i b w) := qzadf (bok_way h0) (qyr (qpo _))
theorem bok_fld {w : Int} {f : Fd} : Hu.BOk (fldB f w) := qzadf (qzadf (bok_way (by decide)) (qyr (qpo _))) (qyr (qpo _))
theorem qzade {i : Int} (h0 : 0 ≤ i) : Hu.BOk (idxB i) := qrm h0 (by decide) (by decide) (by decide) (by decide)
theorem qwu {i p u : Int} : putI i p u ≠ [] := by
  have := (qcz i p u).1
  intro h; rw [h] at this; simp [ilen] at this
theorem qrl {mx : Int} {l : List Fd} (h : rightL mx l = true) : ilen l ≤ 128 := by
  have h' := of_decide_eq_true h
  have := qck l
  omega
theorem qrp (b : List Int) : ilen (bestT b) ≤ ilen b + 6 := by
  have h0 := qai b
  unfold bestT
  split
  · rename_i h
    unfold shortB at h
    have h := of_decide_eq_true h
    unfold packT
    have h1 := qcz (ilen (Hu.put b)) 128 128
    have h2 := Hu.qkv b
    have h3 : bitsI b (ilen b) = Hu.nbits b := by unfold bitsI; rw [qbt (by omega)]
    have h4 := qai (Hu.put b)
    rw [qcd]
    unfold ilen at *
    omega
  · unfold plainT
    have h1 := qcz (ilen b) 128 0
    rw [qcd]
    omega
end Pa
end Cz
namespace Cz
open Go Go.RowKit Go.Proofs
namespace Pa
theorem best_t {x : List UInt8} (hx : ilen x ≤ 1000000) : (S0 Tryd.prog).call 72 [.s x] [] (Tell (.v false 1 (cellsB (bestT (byS x))) (.y (ilen (bestT (byS x)))))) := tell_own (tbest_f hx) (qad _) (qdp _)
theorem qyq (b : List Int) : 1 ≤ ilen (bestT b) ∧ ilen (bestT b) ≤ ilen b + 6 := by
  have h0 := qai b
  unfold bestT
  split
  · rename_i h
    unfold shortB at h
    have h := of_decide_eq_true h
    unfold packT
    have h1 := qcz (ilen (Hu.put b)) 128 128
    have h2 := Hu.qkv b
    have h3 : bitsI b (ilen b) = Hu.nbits b := by unfold bitsI; rw [qbt (by omega)]
    have h4 := qai (Hu.put b)
    rw [qcd]
    unfold ilen at *
    omega
  · unfold plainT
    have h1 := qcz (ilen b) 128 0
    rw [qcd]
    omega
section
variable {S : Sy} {bl : List Blk} {K : SV → List Blk → Prop}
theorem best_g (hS : S0 Tryd.prog = S) {x : List UInt8} {F : List SV} {n : Int} (hx : ilen x ≤ 1000000) (hF : cellsB (bestT (byS x)) = F) (hn : n = ilen (bestT (byS x))) (hK : K (.v false 1 F (.y n)) bl) : S.call 72 [.s x] bl K := by
  subst hF hn
  exact qdu hS (best_t hx) (.cons .rfl .nil) rfl hK
end
def C0 (s : SV) : SV := s
def C1 (e : Int) (s : SV) : SV := .tp [s, .i .i64 (.y e)]
def OwnB (C : SV → SV) (L : List Int) (x : SV) (l' : List Blk) : Prop := ∃ (j : Nat) (lit : Bool) (st z : Z) (F' : List SV), Sub x (C (.sl j 1 (.l 0) z none)) ∧ l'[j]? = some (.r false lit st 1 F') ∧ plains F' = true ∧ F'.take (z.v.toNat * 1) = cellsB L ∧ z.v = ilen L
theorem qzaci {C : SV → SV} {L : List Int} {l' : List Blk} {j : Nat} {lit : Bool} {st z : Z} {F : List SV} {x : SV} (hx : Sub x (C (.sl j 1 (.l 0) z none))) (hB : l'[j]? = some (.r false lit st 1 F)) (hF : F = cellsB L) (hz : z.v = ilen L) : OwnB C L x l' := by
  refine ⟨j, lit, st, z, F, hx, hB, hF ▸ qad L, ?_, hz⟩
  rw [hF, List.take_of_length_le]
  have := qbh L
  unfold ilen at *
  omega
theorem fz_own {L : List Int} {l' : List Blk} {j : Nat} {lit : Bool} {st z : Z} {F' : List SV} (hB : l'[j]? = some (.r false lit st 1 F')) (h : F'.take (z.v.toNat * 1) = cellsB L) (hz : z.v = ilen L) (g : Nat → Nat) : Fz l' g [] (.sl j 1 (.l 0) z none) (.v false 1 (cellsB L) (.y (ilen L))) := by
  refine .row hB rfl (.fsub ?_ (qad L)) (qad L) hz
  rw [show (Z.l 0).v.toNat * 1 = 0 from rfl, List.drop_zero, h]
  exact .rfl
theorem own_t0 {g : FuncId} {args : List SV} {L : List Int} {F : List SV} {n : Int} (h : (S0 Tryd.prog).call g args [] (OwnB C0 L)) (hF : cellsB L = F) (hn : n = ilen L) : (S0 Tryd.prog).call g args [] (Tell (.v false 1 F (.y n))) := by
  subst hF hn
  refine qat h fun x l' h => ?_
  obtain ⟨j, lit, st, z, F', hs, hB, _, h1, h2⟩ := h
  refine ⟨_, hs, ?_⟩
  exact fun g => fz_own hB h1 h2 g
theorem own_t1 {g : FuncId} {args : List SV} {L : List Int} {F : List SV} {n e : Int} (h : (S0 Tryd.prog).call g args [] (OwnB (C1 e) L)) (hF : cellsB L = F) (hn : n = ilen L) : (S0 Tryd.prog).call g args [] (Tell (.tp [.v false 1 F (.y n), .i .i64 (.y e)])) := by
  subst hF hn
  refine qat h fun x l' h => ?_
  obtain ⟨j, lit, st, z, F', hs, hB, _, h1, h2⟩ := h
  refine ⟨_, hs, ?_⟩
  exact fun g => .tp (.cons (fz_own hB h1 h2 g) (.cons (.sub .rfl rfl) .nil))
theorem idx_o {i : Int} (h0 : 0 ≤ i) (h1 : i < 2147483648) : (S0 Tryd.prog).call 53 [.i .i64 (.y i)] [] (OwnB (C1 0) (idxB i)) := by
  obtain ⟨L, hL⟩ : ∃ L, idxB i = L := ⟨_, rfl⟩
  rw [hL]
  generalize hS : S0 Tryd.prog = S
  refine qac hS I.qgn ?_
  cbv
  refine qac hS I.qdb ?_
  cbv
  repeat' (first
    | (refine qbw hS rfl ?_; try cbv)
    | (refine s_ck hS ?_; try cbv)
    | (refine qab hS ?_ ?_ <;> intro h <;> (try cbv) <;> try exact s_ab h)
    | (refine s_ad hS ?_; intro _ _; try cbv)
    | (refine s_sb hS ?_; intro _ _; try cbv)
    | (refine qau hS ?_; intro _ _; try cbv)
    | (refine qae hS ?_; try cbv)
    | (refine qve hS i 7 128 128 rfl rfl rfl h0 h1 (by decide) (by decide) rfl (by decide) (by decide) fun F2 n2 st hF2 hn2 => ?_; cbv)
    | (refine qbx hS ?_; try cbv)
    | (refine s_lk hS ?_; try cbv)
    | (refine s_mu hS ?_; try cbv)
    | fail)
  exact qzaci (z := .y n2) .rfl rfl (hL ▸ hF2.symm) (hL ▸ hn2)
theorem named_o {i w : Int} {b : List UInt8} (h0 : 0 < i) (h1 : i < 2147483648) (hb : ilen b ≤ 1000000) :
    (S0 Tryd.prog).call 54 [.i .i64 (.y i), .s b, .i .i64 (.y w)] [] (OwnB (C1 0) (nmB i b w)) := by
  obtain ⟨L, hL⟩ : ∃ L, nmB i b w = L := ⟨_, rfl⟩
  rw [hL]
  obtain ⟨B, hB⟩ : ∃ B, cellsB (bestT (byS b)) = B := ⟨_, rfl⟩
  obtain ⟨m, hm⟩ : ∃ m, m = ilen (bestT (byS b)) := ⟨_, rfl⟩
  have hm1 := qyq (byS b)
  rw [← hm, qfa] at hm1
  generalize hS : S0 Tryd.prog = S
  refine qac hS I.qev ?_
  cbv
  refine of_u hS (w := w) rfl fun u k hu hk => ?_
  obtain ⟨u0, u1, k0, k1, hp⟩ := up_bd w
  rw [← hu] at u0 u1
  rw [← hk] at k0 k1 hp
  cbv
  refine qac hS I.qdb ?_
  cbv
  repeat' (first
    | (refine qbw hS rfl ?_; try cbv)
    | (refine s_ck hS ?_; try cbv)
    | (refine qab hS ?_ ?_ <;> intro h <;> (try cbv) <;> try exact s_ab h)
    | (refine s_ad hS ?_; intro _ _; try cbv)
    | (refine s_sb hS ?_; intro _ _; try cbv)
    | (refine qau hS ?_; intro _ _; try cbv)
    | (refine qae hS ?_; try cbv)
    | (refine qve hS i k u (powP w) rfl rfl rfl (by omega) h1 (by omega) (by omega) hp (by omega) (by omega) fun F2 n2 st hF2 hn2 => ?_; cbv)
    | (refine qbx hS ?_; try cbv)
    | (refine s_lk hS ?_; try cbv)
    | (refine s_mu hS ?_; try cbv)
    | fail)
  have hpl := qcz i (powP w) u
  rw [← hn2] at hpl
  have hfl : ilen F2 = n2 := by rw [← hF2, qbh, hn2]
  refine best_g hS hb hB hm ?_
  cbv
  repeat' (first
    | (refine qbw hS rfl ?_; try cbv)
    | (refine s_ck hS ?_; try cbv)
    | (refine qab hS ?_ ?_ <;> intro h <;> (try cbv) <;> try exact s_ab h)
    | (refine s_ad hS ?_; intro _ _; try cbv)
    | (refine s_sb hS ?_; intro _ _; try cbv)
    | (refine qau hS ?_; intro _ _; try cbv)
    | (refine qae hS ?_; try cbv)
    | (refine qbx hS ?_; try cbv)
    | (refine s_lk hS ?_; try cbv)
    | (refine s_mu hS ?_; try cbv)
    | fail)
  have e1 : S.app F2 B = cellsB L := by rw [← hL]; unfold nmB; rw [← hu]; exact qjg hS hF2.symm hB.symm
  have e2 : S.pl n2 m = ilen L := by rw [← hL]; unfold nmB; rw [← hu, qcd, ← hn2, ← hm]; subst hS; rfl
  exact qzaci (z := .y (S.pl n2 m)) (qas (.cons .rfl (.cons (qag rfl) .nil))) rfl e1 e2
theorem s_ckA {S : Sy} {a b : Int} {k : Unit → Prop} (hS : S0 Tryd.prog = S) (e : a = b) (h : k ()) : S.chk (S.cmp .eq a b) k := qwk hS (by subst hS; rw [qvv]; exact decide_eq_true e) h
theorem fld_o {w : Int} {a b : List UInt8} (hab : ilen a + ilen b ≤ 60000) :
    (S0 Tryd.prog).call 52 [.ag [.s a, .s b], .i .i64 (.y w)] [] (OwnB C0 (fldB (a, b) w)) := by
  obtain ⟨L, hL⟩ : ∃ L, fldB (a, b) w = L := ⟨_, rfl⟩
  rw [hL]
  have h0a := qai a
  have h0b := qai b
  have ha : ilen a ≤ 1000000 := by omega
  have hb : ilen b ≤ 1000000 := by omega
  obtain ⟨A, hA⟩ : ∃ B, cellsB (bestT (byS a)) = B := ⟨_, rfl⟩
  obtain ⟨ma, hma⟩ : ∃ m, m = ilen (bestT (byS a)) := ⟨_, rfl⟩
  have hm0 := qyq (byS a)
  rw [← hma, qfa] at hm0
  obtain ⟨B, hB⟩ : ∃ B, cellsB (bestT (byS b)) = B := ⟨_, rfl⟩
  obtain ⟨m, hm⟩ : ∃ m, m = ilen (bestT (byS b)) := ⟨_, rfl⟩
  have hm1 := qyq (byS b)
  rw [← hm, qfa] at hm1
  generalize hS : S0 Tryd.prog = S
  refine qac hS I.qsp ?_
  cbv
  refine of_u hS (w := w) rfl fun u k hu hk => ?_
  obtain ⟨u0, u1, k0, k1, hp⟩ := up_bd w
  rw [← hu] at u0 u1
  rw [← hk] at k0 k1 hp
  cbv
  refine qac hS I.qdb ?_
  cbv
  repeat' (first
    | (refine qbw hS rfl ?_; try cbv)
    | (refine s_ck hS ?_; try cbv)
    | (refine qab hS ?_ ?_ <;> intro h <;> (try cbv) <;> try exact s_ab h)
    | (refine s_ad hS ?_; intro _ _; try cbv)
    | (refine s_sb hS ?_; intro _ _; try cbv)
    | (refine qau hS ?_; intro _ _; try cbv)
    | (refine qae hS ?_; try cbv)
    | (refine qve hS 0 k u (powP w) rfl rfl rfl (by omega) (by omega) (by omega) (by omega) hp (by omega) (by omega) fun F2 n2 st hF2 hn2 => ?_; cbv)
    | (refine qbx hS ?_; try cbv)
    | (refine s_lk hS ?_; try cbv)
    | (refine s_mu hS ?_; try cbv)
    | fail)
  have hpl := qcz 0 (powP w) u
  rw [← hn2] at hpl
  have hfl : ilen F2 = n2 := by rw [← hF2, qbh, hn2]
  have hal : ilen A = ma := by rw [← hA, qbh, hma]
  have hbl : ilen B = m := by rw [← hB, qbh, hm]
  have hs1 : S.app [] (S.sub F2 0 n2 1) = F2 := by rw [qrb hS hF2 hn2, app_nil hS]
  have c1 : S.sc (S.pl 0 n2) 1 = S.flen (S.app [] (S.sub F2 0 n2 1)) := by rw [hs1]; subst hS; show (0 + n2) * 1 = ilen F2; omega
  have c2 : S.sc (S.pl (S.pl 0 n2) ma) 1 = S.flen (S.app (S.app [] (S.sub F2 0 n2 1)) A) := by rw [hs1]; subst hS; show (0 + n2 + ma) * 1 = ilen (F2 ++ A); rw [qcd]; omega
  refine qam hS rfl I.qms (by decide +kernel) ?_
  cbv
  refine best_g hS ha hA hma ?_
  cbv
  refine best_g hS hb hB hm ?_
  cbv
  repeat' (first
    | (refine qbw hS rfl ?_; try cbv)
    | (refine s_ck hS ?_; try cbv)
    | (refine qab hS ?_ ?_ <;> intro h <;> (try cbv) <;> try exact s_ab h)
    | (refine s_ad hS ?_; intro _ _; try cbv)
    | (refine s_sb hS ?_; intro _ _; try cbv)
    | (refine qau hS ?_; intro _ _; try cbv)
    | (refine qae hS ?_; try cbv)
    | (refine qbx hS ?_; try cbv)
    | (refine s_lk hS ?_; try cbv)
    | (refine s_mu hS ?_; try cbv)
    | fail)
  refine qac hS I.qef ?_
  cbv
  repeat' (first
    | (refine qbw hS rfl ?_; try cbv)
    | (refine s_ck hS ?_; try cbv)
    | (refine qab hS ?_ ?_ <;> intro h <;> (try cbv) <;> try exact s_ab h)
    | (refine s_ad hS ?_; intro _ _; try cbv)
    | (refine s_sb hS ?_; intro _ _; try cbv)
    | (refine qau hS ?_; intro _ _; try cbv)
    | (refine qae hS ?_; try cbv)
    | (refine s_ckA hS c1 ?_; cbv)
    | (refine s_ckA hS c2 ?_; cbv)
    | (refine qaf hS ?_; cbv)
    | (refine grow_u hS (by simp only [Z.v]; omega) (by simp only [Z.v]; omega) ?_; cbv)
    | (refine qbx hS ?_; try cbv)
    | (refine s_lk hS ?_; try cbv)
    | (refine s_mu hS ?_; try cbv)
    | fail)
  have e1 : S.app (S.app (S.app [] (S.sub F2 0 n2 1)) A) B = cellsB L := by
    rw [← hL]; rw [hs1, qjg hS hF2.symm hA.symm, qjg hS rfl hB.symm]; unfold fldB; rw [← hu]
  have e2 : S.pl (S.pl (S.pl 0 n2) ma) m = ilen L := by
    rw [← hL]; unfold fldB; rw [← hu, qcd, qcd, ← hn2, ← hm, ← hma]; subst hS; show 0 + n2 + ma + m = _; omega
  exact qzaci (z := .y (S.pl (S.pl (S.pl 0 n2) ma) m)) .rfl rfl e1 e2
theorem pput_e {n k up : Int} (hn0 : n < 0 ∨ 2147483648 ≤ n) (l0 : -9223372036854775808 ≤ n) (u0 : n ≤ 9223372036854775807) (hk1 : 1 ≤ k) (hk8 : k ≤ 8) :
    (S0 Tryd.prog).call 85 [.i .i64 (.y n), .i .i64 (.y k), .i .u8 (.y up)] [] (fun x _ => Sub x (.tp [.re (.slice none 0 0), .i .i64 (.y 2)])) := by
  generalize hS : S0 Tryd.prog = S
  refine qac hS I.qnc ?_
  cbv
  repeat' (first
    | (refine qbw hS rfl ?_; try cbv)
    | (refine s_ck hS ?_; try cbv)
    | (refine qab hS ?_ ?_ <;> intro h <;> (try cbv) <;> try exact s_ab h)
    | (refine s_ad hS ?_; intro _ _; try cbv)
    | (refine s_sb hS ?_; intro _ _; try cbv)
    | (refine qau hS ?_; intro _ _; try cbv)
    | (refine qae hS ?_; try cbv)
    | (refine qac hS I.qex ?_; cbv)
    | (refine qbn hS (c := 2147483648) rfl ?_; intro _ _; cbv)
    | (refine qbx hS ?_; try cbv)
    | (refine s_lk hS ?_; try cbv)
    | (refine s_mu hS ?_; try cbv)
    | fail)
  all_goals first
    | (exfalso; omega)
    | exact qas (.cons .rfl (.cons (qag rfl) .nil))
end Pa
end Cz
namespace Cz
open Go Go.RowKit
section
variable {P : Program} {l : List Blk}
theorem Rel.reblk {N : Nat → Prop} {W0 W : World} {ρ : Nms} (hR : Rel P N W0 ρ l W) {k : Nat} {cs cs' : List SV} (hB : l[k]? = some (.c cs)) (hlen : cs'.length = cs.length)
    (hd : ∀ (q : Nat) (x' : SV), cs'[q]? = some x' → ∃ x, cs[q]? = some x ∧ ∀ v, den ρ x v → den ρ x' v) : Rel P N W0 ρ (l.set k (.c cs')) W := by
  have hk := (List.getElem?_eq_some_iff.1 hB).1
  have hat : ∀ (j : Nat) (B : Blk), (l.set k (.c cs'))[j]? = some B → B.wr = true → ∃ B0, l[j]? = some B0 ∧ B0.wr = true := by
    intro j B h hw
    by_cases e : j = k
    · subst e; exact ⟨_, hB, rfl⟩
    · rw [List.getElem?_set_ne (fun h => e h.symm)] at h; exact ⟨B, h, hw⟩
  refine ⟨hR.below, hR.le, fun j hj => hR.out j (by simpa using hj), hR.ids, fun j B h => ?_, fun j j' B vw vw' a a' h hw hne hv hv' ha ha' => ?_, fun j B vw a h hw hv ha => ?_, hR.qN, hR.fin, fun j B vw a h hw hv ha => ?_⟩
  · by_cases e : j = k
    · subst e
      rw [List.getElem?_set_self hk] at h
      simp only [Option.some.injEq] at h; subst h
      obtain ⟨b, h1, h2, h3⟩ := hR.blk j _ hB
      refine ⟨b, by rw [h1, hlen], ?_, by rw [hlen]; exact h3⟩
      refine ⟨by rw [hlen]; exact h2.1, fun hb => by (cases hb), fun q x' hq hx' => ?_⟩
      obtain ⟨x, hx, hdx⟩ := hd q x' hx'
      obtain ⟨a, v, g1, g2, g3⟩ := h2.2.2 q x (by simpa [hlen] using hq) hx
      exact ⟨a, v, g1, g2, hdx v g3⟩
    · rw [List.getElem?_set_ne (fun h => e h.symm)] at h
      exact hR.blk j B h
  · obtain ⟨B0, g1, g2⟩ := hat j B h hw
    exact hR.sep j j' B0 vw vw' a a' g1 g2 hne hv hv' ha ha'
  · obtain ⟨B0, g1, g2⟩ := hat j B h hw
    exact hR.own j B0 vw a g1 g2 hv ha
  · obtain ⟨B0, g1, g2⟩ := hat j B h hw
    exact hR.fsep j B0 vw a g1 g2 hv ha
theorem qzacc {S : Sy} (hS : S0 P = S) (k q sz : Nat) {cs : List SV} {cx : Cx} {b : IR} {K : VK} {e : Env} (hsz : 0 < sz) (hB : lget l k = .c cs) (hq : nth cs q = .re (.slice none 0 0))
    (h : S.loop cx b e (snoc (lset l k (.c (put cs q (nilRow l sz)))) (.r false true (.l 0) sz [])) K) : S.loop cx b e l K := by
  subst hS
  have hB' := qaq hB (by simp)
  have hk := (List.getElem?_eq_some_iff.1 hB').1
  rw [qbj, qby] at h
  intro c kl hc N W0 ρ rr a W hs hr hm
  have hle : Le l.length ρ (upd ρ l.length [⟨none, 0, 0⟩]) := qdx (Nat.le_refl _)
  have hE : EnvOk (upd ρ l.length [⟨none, 0, 0⟩]) e.vs a.tmps := hs.env.le hle hs.rel.out
  have hM : MkOk (upd ρ l.length [⟨none, 0, 0⟩]) e.mks a.defers := MkOk.le hle hs.rel.out _ _ hs.mks
  have hG := hs.rel.ghost false hsz
  have hR := hG.reblk (k := k) (cs := cs) (cs' := put cs q (nilRow l sz)) (by rw [List.getElem?_append_left hk]; exact hB') (by rw [qcq, List.length_set]) (by
    intro j x' hx'
    by_cases hj : j = q
    · subst hj
      have hlt : j < cs.length := by have := (List.getElem?_eq_some_iff.1 hx').1; rw [qcq, List.length_set] at this; exact this
      rw [qcq, List.getElem?_set_self hlt] at hx'
      simp only [Option.some.injEq] at hx'; subst hx'
      refine ⟨_, List.getElem?_eq_getElem hlt, fun v hd => ?_⟩
      have : cs[j] = .re (.slice none 0 0) := by rw [qdj, List.getD_eq_getElem?_getD, List.getElem?_eq_getElem hlt] at hq; exact hq
      rw [this] at hd
      simp only [den] at hd
      rw [hd.1]; exact qjt (by rw [qak]; simp)
    · rw [qcq, List.getElem?_set_ne (fun e => hj e.symm)] at hx'
      exact ⟨x', hx', fun _ h => h⟩)
  rw [List.set_append_left _ _ hk] at hR
  exact Wp.mono (h c kl hc N W0 _ rr a W ⟨hR, hE, hM⟩ (hr.le (qdx hm)) (by simp; omega)) fun _ _ _ q => q.le (qdx hm)
end
theorem s_qA {p : Prop} (h : p := by repeat' (first | exact trivial | exact SubB.rfl | exact Sub.rfl | refine And.intro ?_ ?_ | (exact SubB.c (by with_reducible assumption)) | refine SubB.c ?_ | exact SubB.r .rfl rfl rfl | exact SubB.r .rfl rfl (by assumption) | exact SubM.nil | refine SubM.cons ?_ ?_ ?_ | refine SubB.m ?_ | exact qdg | exact SubL.nil | refine SubL.cons ?_ ?_ | exact qag rfl | refine qas ?_ | refine qdc ?_ | exact qcm rfl rfl | exact qbc rfl rfl | exact qkl rfl | exact qca rfl | exact qej rfl | exact qdm rfl | (refine qag ?_; simp only [Z.v]; omega) | (refine qwd ?_; assumption) | (refine qkl ?_; assumption) | (refine qca ?_; assumption))) : p := h
end Cz
namespace Cz
open Go Go.RowKit Go.Proofs
namespace Pa
theorem qzaat {l' : List Blk} {g : Nat → Nat} {ks : List (Option Nat)} : ∀ {vs : List SV}, refsBL (fun _ => false) vs = true → FzL l' g ks vs vs
  | [], _ => .nil
  | x :: xs, h => by
    simp only [refsBL, Bool.and_eq_true] at h
    exact .cons (.sub .rfl h.1) (qzaat h.2)
theorem fzL_mid {l' : List Blk} {g : Nat → Nat} {ks : List (Option Nat)} {y y' : SV} {vs : List SV} (hy : Fz l' g ks y y') (hv : refsBL (fun _ => false) vs = true) : ∀ {pre : List SV}, refsBL (fun _ => false) pre = true → FzL l' g ks (pre ++ y :: vs) (pre ++ y' :: vs)
  | [], _ => .cons hy (qzaat hv)
  | x :: xs, h => by
    simp only [refsBL, Bool.and_eq_true] at h
    exact .cons (.sub .rfl h.1) (fzL_mid hy hv h.2)
theorem qzj {g : FuncId} {rest : List SV} {b : List Int} {F : List SV} {pre vs : List SV} {n : Int} (h : (S0 Tryd.prog).call g (.sl 0 1 (.l 0) (.y (ilen b)) none :: rest) [.r true true (.l 0) 1 (cellsB b)] (OwnP 1 1 F pre vs)) (hpl : plains F = true) (hn : n * 1 = F.length)
    (hr : refsBL (fun _ => false) rest = true) (hpre : refsBL (fun _ => false) pre = true) (hvs : refsBL (fun _ => false) vs = true) : (S0 Tryd.prog).call g (.v false 1 (cellsB b) (.y (ilen b)) :: rest) [] (Tell (mkP pre vs (.v false 1 F (.y n)))) := by
  refine s_thaw rfl 0 (args := .v false 1 (cellsB b) (.y (ilen b)) :: rest) (lit := false) (sz := 1) (F := cellsB b) (n := .y (ilen b)) rfl (by simp only [refsBL, refsB, Bool.true_and]; exact qbk (fun _ h => by cases h) _ hr) ?_
  show (S0 Tryd.prog).call g (.sl 0 1 (.l 0) (.y (ilen b)) none :: rest) [.r true false (.l 0) 1 (cellsB b)] _
  have h2 : (S0 Tryd.prog).call g (.sl 0 1 (.l 0) (.y (ilen b)) none :: rest) [.r true false (.l 0) 1 (cellsB b)] (OwnP 1 1 F pre vs) := by
    intro N W0 ρ W vals hR hd
    exact h N W0 ρ W vals (hR.sub rfl fun k B' hB => by
      cases k with
      | zero => simp only [List.getElem?_cons_zero, Option.some.injEq] at hB; subst hB; exact ⟨_, rfl, .r .rfl rfl (qad b)⟩
      | succ k => simp at hB) hd
  refine qat h2 fun x l' ⟨y, hs, hy⟩ => ⟨_, hs, fun g => ?_⟩
  have hy2 : Fz l' g [] y (.v false 1 F (.y n)) := by
    rcases hy with ⟨rfl, hF⟩ | ⟨k, m, lit, st, F', _, rfl, hB, hsub, hp', hm⟩
    · subst hF
      exact .nil (by decide) (by simp only [Z.v]; simpa using hn)
    · refine .row hB rfl (.fsub ?_ hpl) hpl (show m.v = n by omega)
      rw [show (Z.l 0).v.toNat * 1 = 0 from rfl, List.drop_zero, List.take_of_length_le]
      · exact hsub
      · have := hsub.1; omega
  unfold mkP
  rw [qdd, qdd]
  exact .tp (fzL_mid hy2 hvs hpre)
section
variable {S : Sy} {bl : List Blk} {K : SV → List Blk → Prop} {b R : List Int} {N e n kk p : Int} {F : List SV} {x : SV}
theorem qih (hS : S0 Tryd.prog = S) (kk p : Int) {zk : Z} (hzk : zk.v = kk) (hx : Sub x (.v false 1 (cellsB b) (.y (ilen b)))) (hb : Hu.BOk b) (hl : ilen b ≤ 1000000) (hk1 : 1 ≤ kk) (hk8 : kk ≤ 8) (hp : 2 ^ kk.toNat = p) (hN : preN b p = N) (hE : preE b p = e) (hR : preR b p = R) (hF : cellsB R = F) (hn : n = ilen R)
    (hK : K (.tp [.i .i64 (.y N), .v false 1 F (.y n), .i .i64 (.y e)]) bl) : S.call 96 [x, .i .i64 zk] bl K := by
  subst hN hE hR hF hn
  exact qdu hS (qzj (ptake_f hb hl hk1 hk8 hp) (qad _) (qdp _) rfl rfl rfl) (.cons hx (.cons (qag hzk) .nil)) rfl hK
theorem qwb (hS : S0 Tryd.prog = S) {t : List UInt8} (hx : Sub x (.v false 1 (cellsB b) (.y (ilen b)))) (hb : Hu.BOk b) (hl : ilen b ≤ 1000000) (ht : strB (tS b) = t) (hE : tE b = e) (hR : tR b = R) (hF : cellsB R = F) (hn : n = ilen R)
    (hK : K (.tp [.s t, .v false 1 F (.y n), .i .i64 (.y e)]) bl) : S.call 111 [x] bl K := by
  subst ht hE hR hF hn
  exact qdu hS (qzj (ttake_f hb hl) (qad _) (qdp _) rfl rfl rfl) (.cons hx .nil) rfl hK
end
end Pa
end Cz
namespace Cz
open Go Go.RowKit Go.Proofs
namespace Pa
open Tb
theorem takeL_len {d : List Int} (hd : Hu.BOk d) : ilen (takeL d) ≤ 8 * ilen d := by
  have h0 := qai d
  have htd : (takeE d = 0 ∧ Hu.put (takeL d) = d ∧ Hu.BOk (takeL d)) ∨ (takeE d = 70 ∧ takeL d = []) := by
    cases ht : Hu.take d with
    | some o =>
      obtain ⟨h1, h2⟩ := Hu.put_take hd ht
      refine .inl ?_
      unfold takeL takeE; rw [ht]; exact ⟨rfl, h1, h2⟩
    | none => refine .inr ?_; unfold takeL takeE; rw [ht]; exact ⟨rfl, rfl⟩
  rcases htd with ⟨_, h1, h2⟩ | ⟨_, h1⟩
  · have h3 := put_il2 (takeL d)
    rw [h1] at h3
    have h4 : 5 * ilen (takeL d) ≤ bitsI (takeL d) (ilen (takeL d)) := by
      rw [show bitsI (takeL d) (ilen (takeL d)) = Hu.nbits (takeL d) by unfold bitsI; rw [qbt (by omega)]]
      unfold Hu.nbits Hu.enc
      generalize takeL d = l
      induction l with
      | nil => simp [ilen]
      | cons v l ih =>
        have := qyl v
        unfold clsI at this
        unfold ilen at ih ⊢
        simp only [List.flatMap_cons, List.length_append, List.length_cons, Hu.cod, Hu.qbd] at ih ⊢
        omega
    omega
  · rw [h1, qjn]; omega
theorem tS_len {b : List Int} (hb : Hu.BOk b) : ilen (tS b) ≤ 8 * ilen b := by
  have h0 := qai b
  have hR := qfk (b := b) (p := 128)
  have hp : ∀ n, ilen (part (preR b 128) 0 n) ≤ ilen b := by
    intro n
    unfold part ilen at *
    rw [List.length_take, List.length_drop]; omega
  unfold tS tTake
  split
  · rw [qjn]; omega
  · split
    · rw [qjn]; omega
    · split
      · have := hp (preN b 128); dsimp only; omega
      · split
        · have h1 := takeL_len (qqv (o := 0) (n := preN b 128) (qdf (p := 128) hb))
          have := hp (preN b 128); dsimp only; omega
        · rw [qjn]; omega
theorem qwf (b : List Int) : ilen (strB b) = ilen b := by unfold strB ilen; rw [List.length_map]
theorem at_len {l : List Fd} {i m : Int} (hl : fullL l ≤ m) (hm : 100 ≤ m) : szF (atR l i).1 ≤ m := by
  unfold atR
  split
  · show szF ([], []) ≤ m
    simp [szF, ilen]; omega
  · split
    · rename_i f hf
      unfold allF at hf
      rcases Nat.lt_or_ge (i - 1).toNat stL.length with h | h
      · rw [List.getElem?_append_left h] at hf
        have hall : ∀ f ∈ stL, szF f ≤ 100 := by decide
        have := hall f (List.mem_of_getElem? hf)
        show szF f ≤ m
        omega
      · rw [List.getElem?_append_right h] at hf
        have := qxq hf
        show szF f ≤ m
        omega
    · show szF ([], []) ≤ m
      simp [szF, ilen]; omega
theorem lit_len {l : List Fd} {a : Bool} {i : Int} {b : List Int} (hb : Hu.BOk b) (hl : fullL l ≤ 4096) : szF (litU l a i b).f ≤ 16 * ilen b + 5000 := by
  have h0 := qai b
  obtain ⟨g1, g2, g3⟩ := tT_ok hb
  have h1 := tS_len hb
  have h2 := tS_len g2
  have h3 : szF (atR l i).1 ≤ 4096 := at_len hl (by decide)
  have hz : szF (nxE 0).f = 32 := rfl
  have h4 := qai (atR l i).1.1
  have h5 := qai (atR l i).1.2
  unfold szF at h3
  unfold litU
  split
  · split
    · show szF ([], []) ≤ _; simp [szF, ilen]; unfold ilen at h0; omega
    · split
      · show szF ([], []) ≤ _; simp [szF, ilen]; unfold ilen at h0; omega
      · unfold szF; dsimp only; rw [qwf]; omega
  · split
    · show szF ([], []) ≤ _; simp [szF, ilen]; unfold ilen at h0; omega
    · split
      · show szF ([], []) ≤ _; simp [szF, ilen]; unfold ilen at h0; omega
      · unfold szF; dsimp only; rw [qwf, qwf]; omega
theorem nxt_len {l : List Fd} {b : List Int} (hb : Hu.BOk b) (hl : fullL l ≤ 4096) : szF (nxtU l b).f ≤ 16 * ilen b + 5000 := by
  have h0 := qai b
  have hlt := qfk (b := b) (p := powU (b.getD 0 0))
  have hok := qdf (p := powU (b.getD 0 0)) hb
  have hz : ∀ e, szF (nxE e).f ≤ 16 * ilen b + 5000 := fun e => by show szF ([], []) ≤ _; simp [szF, ilen]; unfold ilen at h0; omega
  have ha : szF (atR l (preN b (powU (b.getD 0 0)))).1 ≤ 4096 := at_len hl (by decide)
  have hL := fun a => lit_len (l := l) (a := a) (i := preN b (powU (b.getD 0 0))) hok hl
  unfold nxtU
  split
  · exact hz _
  · unfold nxtC
    split
    · split
      · exact hz _
      · show szF (atR l _).1 ≤ _; omega
    · split
      · have := hL true; omega
      · split
        · exact hz 0
        · have := hL false; omega
theorem pgo_lt {b : List Int} : ∀ (f : Nat) (a n : Int), (pgo b f a n).1 < 2147483648
  | 0, a, n => by simp [pgo]
  | f + 1, a, n => by
    rw [pgo]
    split
    · simp
    · split
      · simp
      · split
        · dsimp only; omega
        · exact pgo_lt f _ _
theorem qww {b : List Int} {p : Int} (hp : 1 ≤ p) (hp1 : p ≤ 256) : preN b p < 2147483648 := by
  unfold preN preI
  split
  · simp
  · split
    · dsimp only; omega
    · exact pgo_lt _ _ _
theorem step_e {most : Int} {s : Un} {x : Nx} (h : x.e ≠ 0) : stepU most s x = (x.e, s) := by unfold stepU; rw [if_pos h]
theorem step_f {most : Int} {s : Un} {x : Nx} (h : x.e = 0) (h2 : x.sized = false) : stepU most s x = (0, tellU s x) := by unfold stepU; rw [if_neg (by simpa using h), if_neg (by simp [h2])]
theorem step_s {most : Int} {s : Un} {x : Nx} (h : x.e = 0) (h2 : x.sized = true) : stepU most s x = if 0 < s.size ∨ most < x.size then (100, s) else (0, ⟨x.rest, x.size, evL x.size s.l, s.out, s.size⟩) := by unfold stepU; rw [if_neg (by simpa using h), if_pos h2]
theorem go_E {most e : Int} {s t : Un} {x : Nx} (hx : nxtU s.l s.b = x) (hb : s.b ≠ []) (hg : goU most s = (e, t)) (h : (stepU most s x).1 ≠ 0) : e = (stepU most s x).1 := by
  subst hx
  rw [go_err hb h] at hg
  rw [hg]
theorem go_S {most e : Int} {s t u : Un} {x : Nx} (hx : nxtU s.l s.b = x) (hok : Hu.BOk s.b) (hb : s.b ≠ []) (hg : goU most s = (e, t)) (h : stepU most s x = (0, u)) : goU most u = (e, t) := by
  subst hx
  have h1 : (stepU most s (nxtU s.l s.b)).1 = 0 := by rw [h]
  rw [go_step hok hb h1, h] at hg
  exact hg
structure UnOk (B : Int) (s : Un) : Prop where
  b : Hu.BOk s.b
  len : ilen s.b ≤ 60000
  right : rightL s.mx s.l = true
  s0 : 0 ≤ s.size
  size : s.size + 17000000 * ilen s.b ≤ B
  o1 : fullL s.out ≤ s.size
  o2 : fullL s.out ≤ 2000
theorem qzacj {B : Int} {s : Un} {x : Nx} (h : UnOk B s) (hx : nxtU s.l s.b = x) (he : x.e = 0) : Hu.BOk x.rest ∧ ilen x.rest < ilen s.b := by
  subst hx; exact nxt_ok h.b he
theorem ok_tell {B : Int} {s : Un} {x : Nx} (h : UnOk B s) (hx : nxtU s.l s.b = x) (he : x.e = 0) : UnOk B (tellU s x) := by
  obtain ⟨h1, h2⟩ := qzacj h hx he
  have hr := of_decide_eq_true h.right
  have hl := nxt_len (l := s.l) h.b (by omega)
  rw [hx] at hl
  have hp := qgy x.f
  have hn := h.len
  have hs := h.size
  have hs0 := h.s0
  have ho1 := h.o1
  have ho2 := h.o2
  refine ⟨h1, by dsimp only [tellU]; omega, ?_, by dsimp only [tellU]; omega, by dsimp only [tellU]; omega, ?_, ?_⟩
  · dsimp only [tellU]
    split
    · exact decide_eq_true ⟨hr.1, hr.2.1, qzabf hr.1⟩
    · exact h.right
  · dsimp only [tellU]
    split
    · omega
    · rw [qis]; simp only [fullL]; omega
  · dsimp only [tellU]
    split
    · omega
    · rw [qis]; simp only [fullL]; omega
theorem ok_size {B most : Int} {s : Un} {x : Nx} (h : UnOk B s) (hx : nxtU s.l s.b = x) (he : x.e = 0) (hm : most ≤ 4096) (h0 : 0 ≤ x.size) (h1 : x.size ≤ most) : UnOk B ⟨x.rest, x.size, evL x.size s.l, s.out, s.size⟩ := by
  obtain ⟨g1, g2⟩ := qzacj h hx he
  have hn := h.len
  have hs := h.size
  exact ⟨g1, by dsimp only; omega, decide_eq_true ⟨h0, by dsimp only; omega, qzabf h0⟩, h.s0, by dsimp only; omega, h.o1, h.o2⟩
end Pa
end Cz
namespace Cz
open Go Go.RowKit Go.Proofs
namespace Pa
open Tb
structure Wx where
  f : Fd
  sized : Bool
  added : Bool
  size : Int
  rest : List Int
  e : Int
def valW (l : List Fd) (i : Int) (b : List Int) : Fd × List Int × Int :=
  if 0 < i then (if (atR l i).2 ≠ 0 then ((atR l i).1, b, (atR l i).2) else (((atR l i).1.1, strB (tS b)), tR b, tE b))
  else if tE b ≠ 0 then ((strB (tS b), []), tR b, tE b) else ((strB (tS b), strB (tS (tR b))), tR (tR b), tE (tR b))
def nextW (l : List Fd) (b : List Int) : Wx :=
  if preE b (powU (b.getD 0 0)) ≠ 0 then ⟨([], []), false, false, 0, [], preE b (powU (b.getD 0 0))⟩
  else if powU (b.getD 0 0) = 128 then ⟨(atR l (preN b 128)).1, false, false, 0, preR b 128, (atR l (preN b 128)).2⟩
  else if powU (b.getD 0 0) = 32 then ⟨([], []), true, false, preN b 32, preR b 32, 0⟩
  else ⟨(valW l (preN b (powU (b.getD 0 0))) (preR b (powU (b.getD 0 0)))).1, false, decide (powU (b.getD 0 0) = 64), 0, (valW l (preN b (powU (b.getD 0 0))) (preR b (powU (b.getD 0 0)))).2.1, (valW l (preN b (powU (b.getD 0 0))) (preR b (powU (b.getD 0 0)))).2.2⟩
theorem val_lit (l : List Fd) (a : Bool) (i : Int) (b : List Int) : (litU l a i b).e = (valW l i b).2.2 ∧ ((valW l i b).2.2 = 0 → litU l a i b = ⟨0, false, a, 0, (valW l i b).1, (valW l i b).2.1⟩) := by
  unfold litU valW
  split
  · split
    · rename_i h; exact ⟨rfl, fun h1 => absurd h1 h⟩
    · split
      · rename_i h; exact ⟨rfl, fun h1 => absurd h1 h⟩
      · rename_i h; exact ⟨(show (0 : Int) = tE b by omega), fun _ => rfl⟩
  · split
    · rename_i h; exact ⟨rfl, fun h1 => absurd h1 h⟩
    · split
      · rename_i h; exact ⟨rfl, fun h1 => absurd h1 h⟩
      · rename_i h; exact ⟨(show (0 : Int) = tE (tR b) by omega), fun _ => rfl⟩
theorem next_nxt (l : List Fd) (b : List Int) : (nxtU l b).e = (nextW l b).e ∧ ((nextW l b).e = 0 → nxtU l b = ⟨0, (nextW l b).sized, (nextW l b).added, (nextW l b).size, (nextW l b).f, (nextW l b).rest⟩) := by
  unfold nxtU nextW
  obtain ⟨c, hc⟩ : ∃ c, b.getD 0 0 = c := ⟨_, rfl⟩
  rw [hc]
  split
  · rename_i h; exact ⟨rfl, fun h1 => absurd h1 h⟩
  · unfold nxtC
    by_cases h7 : 128 ≤ c
    · have e : powU c = 128 := by unfold powU; rw [if_pos h7]
      rw [if_pos h7, e, if_pos rfl]
      split
      · rename_i h; exact ⟨rfl, fun h1 => absurd h1 h⟩
      · rename_i h; exact ⟨(show (0 : Int) = (atR l (preN b 128)).2 by omega), fun _ => rfl⟩
    · rw [if_neg h7]
      by_cases h6 : 64 ≤ c
      · have e : powU c = 64 := by unfold powU; rw [if_neg h7, if_pos h6]
        rw [if_pos h6, e, if_neg (by decide), if_neg (by decide)]
        exact val_lit l true (preN b 64) (preR b 64)
      · rw [if_neg h6]
        by_cases h5 : 32 ≤ c
        · have e : powU c = 32 := by unfold powU; rw [if_neg h7, if_neg h6, if_pos h5]
          rw [if_pos h5, e, if_neg (by decide), if_pos rfl]
          exact ⟨rfl, fun _ => rfl⟩
        · have e : powU c = 16 := by unfold powU; rw [if_neg h7, if_neg h6, if_neg h5]
          rw [if_neg h5, e, if_neg (by decide), if_neg (by decide)]
          exact val_lit l false (preN b 16) (preR b 16)
end Pa
end Cz
namespace Cz
open Go Go.RowKit Go.Proofs
namespace Pa
open Tb
theorem val_f {mx i : Int} {l : List Fd} {b : List Int} {f1 f2 : List UInt8} {R : List Int} {F : List SV} {n e : Int} (hb : Hu.BOk b) (hbl : ilen b ≤ 1000000) (hl : ilen l ≤ 100000000) (h : valW l i b = ((f1, f2), R, e)) (hF : cellsB R = F) (hn : n = ilen R) :
    (S0 Tryd.prog).call 97 [tabV mx l, .i .i64 (.y i), .v false 1 (cellsB b) (.y (ilen b))] [] (Tell (.tp [.ag [.s f1, .s f2], .v false 1 F (.y n), .i .i64 (.y e)])) := by
  unfold tabV
  generalize hG : cellsF l = G
  obtain ⟨m, hm⟩ : ∃ m, m = ilen l := ⟨_, rfl⟩
  generalize hB : cellsB b = B
  obtain ⟨k, hk⟩ : ∃ m, m = ilen b := ⟨_, rfl⟩
  rw [← hm, ← hk]
  unfold valW at h
  obtain ⟨⟨⟨xa, xb⟩, xe⟩, hat⟩ : ∃ r, atR l i = r := ⟨_, rfl⟩
  rw [hat] at h
  obtain ⟨T1, hT1⟩ : ∃ r, strB (tS b) = r := ⟨_, rfl⟩
  obtain ⟨e1, he1⟩ : ∃ r, tE b = r := ⟨_, rfl⟩
  obtain ⟨R1, hR1⟩ : ∃ r, tR b = r := ⟨_, rfl⟩
  obtain ⟨FR1, hFR1⟩ : ∃ r, cellsB R1 = r := ⟨_, rfl⟩
  obtain ⟨nR1, hnR1⟩ : ∃ r, r = ilen R1 := ⟨_, rfl⟩
  obtain ⟨T2, hT2⟩ : ∃ r, strB (tS R1) = r := ⟨_, rfl⟩
  obtain ⟨e2, he2⟩ : ∃ r, tE R1 = r := ⟨_, rfl⟩
  obtain ⟨R2, hR2⟩ : ∃ r, tR R1 = r := ⟨_, rfl⟩
  obtain ⟨FR2, hFR2⟩ : ∃ r, cellsB R2 = r := ⟨_, rfl⟩
  obtain ⟨nR2, hnR2⟩ : ∃ r, r = ilen R2 := ⟨_, rfl⟩
  rw [he1, hT1, hR1, he2, hT2, hR2] at h
  have hR1o : Hu.BOk R1 := hR1 ▸ tR_ok hb
  have hR1l := (tT_ok hb).2.2
  rw [hR1] at hR1l
  have hBk : Sub (.v false 1 B (.y k)) (.v false 1 (cellsB b) (.y (ilen b))) := qbc hB.symm hk
  generalize hS : S0 Tryd.prog = S
  refine qac hS I.qsn ?_
  cbv
  by_cases h0 : 0 < i
  · rw [if_pos h0] at h
    by_cases hx : xe = 0
    · rw [if_neg (by simpa using hx)] at h
      cases h
      repeat' (first
        | (refine qbw hS rfl ?_; try cbv)
        | (refine s_ck hS ?_; try cbv)
        | (refine qab hS ?_ ?_ <;> intro h <;> (try cbv) <;> try exact s_ab h)
        | (refine s_ad hS ?_; intro _ _; try cbv)
        | (refine s_sb hS ?_; intro _ _; try cbv)
        | (refine qau hS ?_; intro _ _; try cbv)
        | (refine qae hS ?_; try cbv)
        | (refine at_g hS (.v (z := .y mx) (n := .y m) rfl hG hm) hat (by omega) ?_; cbv)
        | (refine qwb hS hBk hb hbl hT1 he1 hR1 hFR1 hnR1 ?_; cbv)
        | (refine qam hS rfl I.ord_unpack_value_0 (by decide +kernel) ?_; cbv)
        | (refine qam hS rfl I.ord_unpack_value_1 (by decide +kernel) ?_; cbv)
        | (refine qam hS rfl I.ord_unpack_value_2 (by decide +kernel) ?_; cbv)
        | (refine qbx hS ?_; try cbv)
        | (refine s_lk hS ?_; try cbv)
        | (refine s_mu hS ?_; try cbv)
        | fail)
      all_goals first
        | exact fun g => .sub (qas (.cons .rfl (.cons (qbc (hFR1.symm.trans hF) (hnR1.trans hn.symm)) (.cons (qag rfl) .nil)))) rfl
        | exact fun g => .sub (qas (.cons .rfl (.cons (qbc (hFR2.symm.trans hF) (hnR2.trans hn.symm)) (.cons (qag rfl) .nil)))) rfl
        | exact fun g => .sub (qas (.cons .rfl (.cons (qbc (hB.symm.trans hF) (hk.trans hn.symm)) (.cons (qag rfl) .nil)))) rfl
    · rw [if_pos hx] at h
      cases h
      repeat' (first
        | (refine qbw hS rfl ?_; try cbv)
        | (refine s_ck hS ?_; try cbv)
        | (refine qab hS ?_ ?_ <;> intro h <;> (try cbv) <;> try exact s_ab h)
        | (refine s_ad hS ?_; intro _ _; try cbv)
        | (refine s_sb hS ?_; intro _ _; try cbv)
        | (refine qau hS ?_; intro _ _; try cbv)
        | (refine qae hS ?_; try cbv)
        | (refine at_g hS (.v (z := .y mx) (n := .y m) rfl hG hm) hat (by omega) ?_; cbv)
        | (refine qam hS rfl I.ord_unpack_value_0 (by decide +kernel) ?_; cbv)
        | (refine qam hS rfl I.ord_unpack_value_1 (by decide +kernel) ?_; cbv)
        | (refine qam hS rfl I.ord_unpack_value_2 (by decide +kernel) ?_; cbv)
        | (refine qbx hS ?_; try cbv)
        | (refine s_lk hS ?_; try cbv)
        | (refine s_mu hS ?_; try cbv)
        | fail)
      all_goals first
        | exact fun g => .sub (qas (.cons .rfl (.cons (qbc (hFR1.symm.trans hF) (hnR1.trans hn.symm)) (.cons (qag rfl) .nil)))) rfl
        | exact fun g => .sub (qas (.cons .rfl (.cons (qbc (hFR2.symm.trans hF) (hnR2.trans hn.symm)) (.cons (qag rfl) .nil)))) rfl
        | exact fun g => .sub (qas (.cons .rfl (.cons (qbc (hB.symm.trans hF) (hk.trans hn.symm)) (.cons (qag rfl) .nil)))) rfl
  · rw [if_neg h0] at h
    by_cases hx : e1 = 0
    · rw [if_neg (by simpa using hx)] at h
      cases h
      repeat' (first
        | (refine qbw hS rfl ?_; try cbv)
        | (refine s_ck hS ?_; try cbv)
        | (refine qab hS ?_ ?_ <;> intro h <;> (try cbv) <;> try exact s_ab h)
        | (refine s_ad hS ?_; intro _ _; try cbv)
        | (refine s_sb hS ?_; intro _ _; try cbv)
        | (refine qau hS ?_; intro _ _; try cbv)
        | (refine qae hS ?_; try cbv)
        | (refine qwb hS hBk hb hbl hT1 he1 hR1 hFR1 hnR1 ?_; cbv)
        | (refine qwb hS (qbc hFR1.symm hnR1) hR1o (by omega) hT2 he2 hR2 hFR2 hnR2 ?_; cbv)
        | (refine qam hS rfl I.ord_unpack_value_0 (by decide +kernel) ?_; cbv)
        | (refine qam hS rfl I.ord_unpack_value_1 (by decide +kernel) ?_; cbv)
        | (refine qam hS rfl I.ord_unpack_value_2 (by decide +kernel) ?_; cbv)
        | (refine qbx hS ?_; try cbv)
        | (refine s_lk hS ?_; try cbv)
        | (refine s_mu hS ?_; try cbv)
        | fail)
      all_goals first
        | exact fun g => .sub (qas (.cons .rfl (.cons (qbc (hFR1.symm.trans hF) (hnR1.trans hn.symm)) (.cons (qag rfl) .nil)))) rfl
        | exact fun g => .sub (qas (.cons .rfl (.cons (qbc (hFR2.symm.trans hF) (hnR2.trans hn.symm)) (.cons (qag rfl) .nil)))) rfl
        | exact fun g => .sub (qas (.cons .rfl (.cons (qbc (hB.symm.trans hF) (hk.trans hn.symm)) (.cons (qag rfl) .nil)))) rfl
    · rw [if_pos hx] at h
      cases h
      repeat' (first
        | (refine qbw hS rfl ?_; try cbv)
        | (refine s_ck hS ?_; try cbv)
        | (refine qab hS ?_ ?_ <;> intro h <;> (try cbv) <;> try exact s_ab h)
        | (refine s_ad hS ?_; intro _ _; try cbv)
        | (refine s_sb hS ?_; intro _ _; try cbv)
        | (refine qau hS ?_; intro _ _; try cbv)
        | (refine qae hS ?_; try cbv)
        | (refine qwb hS hBk hb hbl hT1 he1 hR1 hFR1 hnR1 ?_; cbv)
        | (refine qam hS rfl I.ord_unpack_value_0 (by decide +kernel) ?_; cbv)
        | (refine qam hS rfl I.ord_unpack_value_1 (by decide +kernel) ?_; cbv)
        | (refine qam hS rfl I.ord_unpack_value_2 (by decide +kernel) ?_; cbv)
        | (refine qbx hS ?_; try cbv)
        | (refine s_lk hS ?_; try cbv)
        | (refine s_mu hS ?_; try cbv)
        | fail)
      all_goals first
        | exact fun g => .sub (qas (.cons .rfl (.cons (qbc (hFR1.symm.trans hF) (hnR1.trans hn.symm)) (.cons (qag rfl) .nil)))) rfl
        | exact fun g => .sub (qas (.cons .rfl (.cons (qbc (hFR2.symm.trans hF) (hnR2.trans hn.symm)) (.cons (qag rfl) .nil)))) rfl
        | exact fun g => .sub (qas (.cons .rfl (.cons (qbc (hB.symm.trans hF) (hk.trans hn.symm)) (.cons (qag rfl) .nil)))) rfl
end Pa
end Cz
namespace Cz
open Go Go.RowKit Go.Proofs
namespace Pa
open Tb
section
variable {S : Sy} {bl : List Blk} {K : SV → List Blk → Prop} {b R : List Int} {e n i mx : Int} {F : List SV} {x : SV} {cs : List SV} {l : List Fd} {f1 f2 : List UInt8}
theorem val_g (hS : S0 Tryd.prog = S) {zi : Z} (hi : zi.v = i) (hc : TabC [] cs mx l) (hx : Sub x (.v false 1 (cellsB b) (.y (ilen b)))) (hb : Hu.BOk b) (hbl : ilen b ≤ 1000000) (hl : ilen l ≤ 100000000) (h : valW l i b = ((f1, f2), R, e)) (hF : cellsB R = F) (hn : n = ilen R)
    (hK : K (.tp [.ag [.s f1, .s f2], .v false 1 F (.y n), .i .i64 (.y e)]) bl) : S.call 97 [.ag cs, .i .i64 zi, x] bl K := by
  refine qdu hS (val_f (mx := mx) hb hbl hl h hF hn) ?_ rfl hK
  match hc.sub with
  | .cons h _ => exact .cons h (.cons (qag hi) (.cons hx .nil))
end
theorem next_f {mx c : Int} {l : List Fd} {b : List Int} {f1 f2 : List UInt8} {sd ad : Bool} {sz e n : Int} {R : List Int} {F : List SV} (hb : Hu.BOk b) (hbl : ilen b ≤ 1000000) (hl : ilen l ≤ 100000000) (hc : b[(0 : Int).toNat]? = some c) (hw : nextW l b = ⟨(f1, f2), sd, ad, sz, R, e⟩) (hF : cellsB R = F) (hn : n = ilen R) :
    (S0 Tryd.prog).call 84 [tabV mx l, .v false 1 (cellsB b) (.y (ilen b))] [] (Tell (.tp [.ag [.s f1, .s f2, .b sd, .b ad, .i .i64 (.y sz), .v false 1 F (.y n)], .i .i64 (.y e)])) := by
  have hcb := hb c (List.mem_of_getElem? hc)
  have hcd : b.getD 0 0 = c := by rw [List.getD_eq_getElem?_getD]; rw [show (0 : Int).toNat = 0 from rfl] at hc; rw [hc]; rfl
  unfold tabV
  generalize hG : cellsF l = G
  obtain ⟨m, hm⟩ : ∃ m, m = ilen l := ⟨_, rfl⟩
  generalize hB : cellsB b = B
  obtain ⟨k, hk⟩ : ∃ m, m = ilen b := ⟨_, rfl⟩
  rw [← hm, ← hk]
  unfold nextW at hw
  rw [hcd] at hw
  have hbl1 : 1 ≤ k := by
    have := (List.getElem?_eq_some_iff.1 hc).1
    rw [hk]; unfold ilen; omega
  have hBk : Sub (.v false 1 B (.y k)) (.v false 1 (cellsB b) (.y (ilen b))) := qbc hB.symm hk
  generalize hS : S0 Tryd.prog = S
  refine qac hS I.qug ?_
  cbv
  by_cases c7 : 128 ≤ c
  · have e : powU c = 128 := by unfold powU; rw [if_pos c7]
    rw [e] at hw
    obtain ⟨N, hN⟩ : ∃ r, preN b 128 = r := ⟨_, rfl⟩
    have hN0 := qkw (p := 128) hb (by decide)
    have hN1 := qww (b := b) (p := 128) (by decide) (by decide)
    rw [hN] at hN0 hN1
    obtain ⟨E, hE⟩ : ∃ r, preE b 128 = r := ⟨_, rfl⟩
    obtain ⟨R0, hR0⟩ : ∃ r, preR b 128 = r := ⟨_, rfl⟩
    have hRo : Hu.BOk R0 := hR0 ▸ qdf hb
    have hRl := qfk (b := b) (p := 128)
    rw [hR0] at hRl
    obtain ⟨FR, hFR⟩ : ∃ r, cellsB R0 = r := ⟨_, rfl⟩
    obtain ⟨nR, hnR⟩ : ∃ r, r = ilen R0 := ⟨_, rfl⟩
    rw [hN, hE, hR0] at hw
    by_cases hE0 : E = 0
    case neg =>
      rw [if_pos hE0] at hw
      cases hw
      repeat' (first
        | (refine qbw hS rfl ?_; try cbv)
        | (refine s_ck hS ?_; try cbv)
        | (refine qab hS ?_ ?_ <;> intro h <;> (try cbv) <;> try exact s_ab h)
        | (refine s_ad hS ?_; intro _ _; try cbv)
        | (refine s_sb hS ?_; intro _ _; try cbv)
        | (refine qau hS ?_; intro _ _; try cbv)
        | (refine qae hS ?_; try cbv)
        | (refine rowB hS hB hc rfl (by omega) ?_; cbv)
        | (refine qaf hS ?_; cbv)
        | (refine qbn hS (c := 128) rfl ?_; intro _ _; cbv)
        | (refine qbn hS (c := 64) rfl ?_; intro _ _; cbv)
        | (refine qbn hS (c := 32) rfl ?_; intro _ _; cbv)
        | (refine qgc hS (c := 2) (m := 1) (by decide) ?_; intro _ _; cbv)
        | (refine qih hS 7 128 rfl hBk hb hbl (by decide) (by decide) rfl hN hE hR0 hFR hnR ?_; cbv)
        | (refine qam hS rfl I.ord_unpack_next_0 (by decide +kernel) ?_; cbv)
        | (refine qam hS rfl I.ord_unpack_next_1 (by decide +kernel) ?_; cbv)
        | (refine qam hS rfl I.ord_unpack_next_2 (by decide +kernel) ?_; cbv)
        | (refine qam hS rfl I.ord_unpack_next_3 (by decide +kernel) ?_; cbv)
        | (refine qam hS rfl I.ord_unpack_next_4 (by decide +kernel) ?_; cbv)
        | (refine qbx hS ?_; try cbv)
        | (refine s_lk hS ?_; try cbv)
        | (refine s_mu hS ?_; try cbv)
        | fail)
      all_goals first
        | (exfalso; omega)
        | exact fun g => .sub (qas (.cons (qdc (.cons .rfl (.cons .rfl (.cons (qca rfl) (.cons (qca rfl) (.cons (qag rfl) (.cons (qht (by decide) hF.symm hn) .nil))))))) (.cons (qag rfl) .nil))) rfl
    rw [if_neg (by simpa using hE0)] at hw
    obtain ⟨⟨⟨xa, xb⟩, xe⟩, hat⟩ : ∃ r, atR l N = r := ⟨_, rfl⟩
    rw [if_pos rfl, hat] at hw
    cases hw
    repeat' (first
      | (refine qbw hS rfl ?_; try cbv)
      | (refine s_ck hS ?_; try cbv)
      | (refine qab hS ?_ ?_ <;> intro h <;> (try cbv) <;> try exact s_ab h)
      | (refine s_ad hS ?_; intro _ _; try cbv)
      | (refine s_sb hS ?_; intro _ _; try cbv)
      | (refine qau hS ?_; intro _ _; try cbv)
      | (refine qae hS ?_; try cbv)
      | (refine rowB hS hB hc rfl (by omega) ?_; cbv)
      | (refine qaf hS ?_; cbv)
      | (refine qbn hS (c := 128) rfl ?_; intro _ _; cbv)
      | (refine qbn hS (c := 64) rfl ?_; intro _ _; cbv)
      | (refine qbn hS (c := 32) rfl ?_; intro _ _; cbv)
      | (refine qgc hS (c := 2) (m := 1) (by decide) ?_; intro _ _; cbv)
      | (refine qih hS 7 128 rfl hBk hb hbl (by decide) (by decide) rfl hN hE hR0 hFR hnR ?_; cbv)
      | (refine at_g hS (.v (z := .y mx) (n := .y m) rfl hG hm) hat (by omega) ?_; cbv)
      | (refine qam hS rfl I.ord_unpack_next_0 (by decide +kernel) ?_; cbv)
      | (refine qam hS rfl I.ord_unpack_next_1 (by decide +kernel) ?_; cbv)
      | (refine qam hS rfl I.ord_unpack_next_2 (by decide +kernel) ?_; cbv)
      | (refine qam hS rfl I.ord_unpack_next_3 (by decide +kernel) ?_; cbv)
      | (refine qam hS rfl I.ord_unpack_next_4 (by decide +kernel) ?_; cbv)
      | (refine qbx hS ?_; try cbv)
      | (refine s_lk hS ?_; try cbv)
      | (refine s_mu hS ?_; try cbv)
      | fail)
    all_goals first
      | (exfalso; omega)
      | exact fun g => .sub (qas (.cons (qdc (.cons .rfl (.cons .rfl (.cons (qca rfl) (.cons (qca rfl) (.cons (qag rfl) (.cons (qbc (hFR.symm.trans hF) (hnR.trans hn.symm)) .nil))))))) (.cons (qag rfl) .nil))) rfl
  by_cases c6 : 64 ≤ c
  · have e : powU c = 64 := by unfold powU; rw [if_neg c7, if_pos c6]
    rw [e] at hw
    obtain ⟨N, hN⟩ : ∃ r, preN b 64 = r := ⟨_, rfl⟩
    have hN0 := qkw (p := 64) hb (by decide)
    have hN1 := qww (b := b) (p := 64) (by decide) (by decide)
    rw [hN] at hN0 hN1
    obtain ⟨E, hE⟩ : ∃ r, preE b 64 = r := ⟨_, rfl⟩
    obtain ⟨R0, hR0⟩ : ∃ r, preR b 64 = r := ⟨_, rfl⟩
    have hRo : Hu.BOk R0 := hR0 ▸ qdf hb
    have hRl := qfk (b := b) (p := 64)
    rw [hR0] at hRl
    obtain ⟨FR, hFR⟩ : ∃ r, cellsB R0 = r := ⟨_, rfl⟩
    obtain ⟨nR, hnR⟩ : ∃ r, r = ilen R0 := ⟨_, rfl⟩
    rw [hN, hE, hR0] at hw
    by_cases hE0 : E = 0
    case neg =>
      rw [if_pos hE0] at hw
      cases hw
      repeat' (first
        | (refine qbw hS rfl ?_; try cbv)
        | (refine s_ck hS ?_; try cbv)
        | (refine qab hS ?_ ?_ <;> intro h <;> (try cbv) <;> try exact s_ab h)
        | (refine s_ad hS ?_; intro _ _; try cbv)
        | (refine s_sb hS ?_; intro _ _; try cbv)
        | (refine qau hS ?_; intro _ _; try cbv)
        | (refine qae hS ?_; try cbv)
        | (refine rowB hS hB hc rfl (by omega) ?_; cbv)
        | (refine qaf hS ?_; cbv)
        | (refine qbn hS (c := 128) rfl ?_; intro _ _; cbv)
        | (refine qbn hS (c := 64) rfl ?_; intro _ _; cbv)
        | (refine qbn hS (c := 32) rfl ?_; intro _ _; cbv)
        | (refine qgc hS (c := 2) (m := 1) (by decide) ?_; intro _ _; cbv)
        | (refine qih hS 6 64 rfl hBk hb hbl (by decide) (by decide) rfl hN hE hR0 hFR hnR ?_; cbv)
        | (refine qam hS rfl I.ord_unpack_next_0 (by decide +kernel) ?_; cbv)
        | (refine qam hS rfl I.ord_unpack_next_1 (by decide +kernel) ?_; cbv)
        | (refine qam hS rfl I.ord_unpack_next_2 (by decide +kernel) ?_; cbv)
        | (refine qam hS rfl I.ord_unpack_next_3 (by decide +kernel) ?_; cbv)
        | (refine qam hS rfl I.ord_unpack_next_4 (by decide +kernel) ?_; cbv)
        | (refine qbx hS ?_; try cbv)
        | (refine s_lk hS ?_; try cbv)
        | (refine s_mu hS ?_; try cbv)
        | fail)
      all_goals first
        | (exfalso; omega)
        | exact fun g => .sub (qas (.cons (qdc (.cons .rfl (.cons .rfl (.cons (qca rfl) (.cons (qca rfl) (.cons (qag rfl) (.cons (qht (by decide) hF.symm hn) .nil))))))) (.cons (qag rfl) .nil))) rfl
    rw [if_neg (by simpa using hE0)] at hw
    obtain ⟨⟨⟨v1, v2⟩, R1, e1⟩, hval⟩ : ∃ r, valW l N R0 = r := ⟨_, rfl⟩
    obtain ⟨FR1, hFR1⟩ : ∃ r, cellsB R1 = r := ⟨_, rfl⟩
    obtain ⟨nR1, hnR1⟩ : ∃ r, r = ilen R1 := ⟨_, rfl⟩
    rw [if_neg (by decide), if_neg (by decide), hval] at hw
    cases hw
    repeat' (first
      | (refine qbw hS rfl ?_; try cbv)
      | (refine s_ck hS ?_; try cbv)
      | (refine qab hS ?_ ?_ <;> intro h <;> (try cbv) <;> try exact s_ab h)
      | (refine s_ad hS ?_; intro _ _; try cbv)
      | (refine s_sb hS ?_; intro _ _; try cbv)
      | (refine qau hS ?_; intro _ _; try cbv)
      | (refine qae hS ?_; try cbv)
      | (refine rowB hS hB hc rfl (by omega) ?_; cbv)
      | (refine qaf hS ?_; cbv)
      | (refine qbn hS (c := 128) rfl ?_; intro _ _; cbv)
      | (refine qbn hS (c := 64) rfl ?_; intro _ _; cbv)
      | (refine qbn hS (c := 32) rfl ?_; intro _ _; cbv)
      | (refine qgc hS (c := 2) (m := 1) (by decide) ?_; intro _ _; cbv)
      | (refine qih hS 6 64 rfl hBk hb hbl (by decide) (by decide) rfl hN hE hR0 hFR hnR ?_; cbv)
      | (refine val_g hS (i := N) rfl (.v (z := .y mx) (n := .y m) rfl hG hm) (qbc (n := .y nR) hFR.symm hnR) hRo (by omega) (by omega) hval hFR1 hnR1 ?_; cbv)
      | (refine qam hS rfl I.ord_unpack_next_0 (by decide +kernel) ?_; cbv)
      | (refine qam hS rfl I.ord_unpack_next_1 (by decide +kernel) ?_; cbv)
      | (refine qam hS rfl I.ord_unpack_next_2 (by decide +kernel) ?_; cbv)
      | (refine qam hS rfl I.ord_unpack_next_3 (by decide +kernel) ?_; cbv)
      | (refine qam hS rfl I.ord_unpack_next_4 (by decide +kernel) ?_; cbv)
      | (refine qbx hS ?_; try cbv)
      | (refine s_lk hS ?_; try cbv)
      | (refine s_mu hS ?_; try cbv)
      | fail)
    all_goals first
      | (exfalso; omega)
      | exact fun g => .sub (qas (.cons (qdc (.cons .rfl (.cons .rfl (.cons (qca rfl) (.cons (qkl rfl) (.cons (qag rfl) (.cons (qbc (hFR1.symm.trans hF) (hnR1.trans hn.symm)) .nil))))))) (.cons (qag rfl) .nil))) rfl
      | exact fun g => .sub (qas (.cons (qdc (.cons .rfl (.cons .rfl (.cons (qca rfl) (.cons (qca rfl) (.cons (qag rfl) (.cons (qbc (hFR1.symm.trans hF) (hnR1.trans hn.symm)) .nil))))))) (.cons (qag rfl) .nil))) rfl
  by_cases c5 : 32 ≤ c
  · have e : powU c = 32 := by unfold powU; rw [if_neg c7, if_neg c6, if_pos c5]
    rw [e] at hw
    obtain ⟨N, hN⟩ : ∃ r, preN b 32 = r := ⟨_, rfl⟩
    have hN0 := qkw (p := 32) hb (by decide)
    have hN1 := qww (b := b) (p := 32) (by decide) (by decide)
    rw [hN] at hN0 hN1
    obtain ⟨E, hE⟩ : ∃ r, preE b 32 = r := ⟨_, rfl⟩
    obtain ⟨R0, hR0⟩ : ∃ r, preR b 32 = r := ⟨_, rfl⟩
    have hRo : Hu.BOk R0 := hR0 ▸ qdf hb
    have hRl := qfk (b := b) (p := 32)
    rw [hR0] at hRl
    obtain ⟨FR, hFR⟩ : ∃ r, cellsB R0 = r := ⟨_, rfl⟩
    obtain ⟨nR, hnR⟩ : ∃ r, r = ilen R0 := ⟨_, rfl⟩
    rw [hN, hE, hR0] at hw
    by_cases hE0 : E = 0
    case neg =>
      rw [if_pos hE0] at hw
      cases hw
      repeat' (first
        | (refine qbw hS rfl ?_; try cbv)
        | (refine s_ck hS ?_; try cbv)
        | (refine qab hS ?_ ?_ <;> intro h <;> (try cbv) <;> try exact s_ab h)
        | (refine s_ad hS ?_; intro _ _; try cbv)
        | (refine s_sb hS ?_; intro _ _; try cbv)
        | (refine qau hS ?_; intro _ _; try cbv)
        | (refine qae hS ?_; try cbv)
        | (refine rowB hS hB hc rfl (by omega) ?_; cbv)
        | (refine qaf hS ?_; cbv)
        | (refine qbn hS (c := 128) rfl ?_; intro _ _; cbv)
        | (refine qbn hS (c := 64) rfl ?_; intro _ _; cbv)
        | (refine qbn hS (c := 32) rfl ?_; intro _ _; cbv)
        | (refine qgc hS (c := 2) (m := 1) (by decide) ?_; intro _ _; cbv)
        | (refine qih hS 5 32 rfl hBk hb hbl (by decide) (by decide) rfl hN hE hR0 hFR hnR ?_; cbv)
        | (refine qam hS rfl I.ord_unpack_next_0 (by decide +kernel) ?_; cbv)
        | (refine qam hS rfl I.ord_unpack_next_1 (by decide +kernel) ?_; cbv)
        | (refine qam hS rfl I.ord_unpack_next_2 (by decide +kernel) ?_; cbv)
        | (refine qam hS rfl I.ord_unpack_next_3 (by decide +kernel) ?_; cbv)
        | (refine qam hS rfl I.ord_unpack_next_4 (by decide +kernel) ?_; cbv)
        | (refine qbx hS ?_; try cbv)
        | (refine s_lk hS ?_; try cbv)
        | (refine s_mu hS ?_; try cbv)
        | fail)
      all_goals first
        | (exfalso; omega)
        | exact fun g => .sub (qas (.cons (qdc (.cons .rfl (.cons .rfl (.cons (qca rfl) (.cons (qca rfl) (.cons (qag rfl) (.cons (qht (by decide) hF.symm hn) .nil))))))) (.cons (qag rfl) .nil))) rfl
    rw [if_neg (by simpa using hE0)] at hw
    rw [if_neg (by decide), if_pos rfl] at hw
    cases hw
    repeat' (first
      | (refine qbw hS rfl ?_; try cbv)
      | (refine s_ck hS ?_; try cbv)
      | (refine qab hS ?_ ?_ <;> intro h <;> (try cbv) <;> try exact s_ab h)
      | (refine s_ad hS ?_; intro _ _; try cbv)
      | (refine s_sb hS ?_; intro _ _; try cbv)
      | (refine qau hS ?_; intro _ _; try cbv)
      | (refine qae hS ?_; try cbv)
      | (refine rowB hS hB hc rfl (by omega) ?_; cbv)
      | (refine qaf hS ?_; cbv)
      | (refine qbn hS (c := 128) rfl ?_; intro _ _; cbv)
      | (refine qbn hS (c := 64) rfl ?_; intro _ _; cbv)
      | (refine qbn hS (c := 32) rfl ?_; intro _ _; cbv)
      | (refine qgc hS (c := 2) (m := 1) (by decide) ?_; intro _ _; cbv)
      | (refine qih hS 5 32 rfl hBk hb hbl (by decide) (by decide) rfl hN hE hR0 hFR hnR ?_; cbv)
      | (refine qam hS rfl I.ord_unpack_next_0 (by decide +kernel) ?_; cbv)
      | (refine qam hS rfl I.ord_unpack_next_1 (by decide +kernel) ?_; cbv)
      | (refine qam hS rfl I.ord_unpack_next_2 (by decide +kernel) ?_; cbv)
      | (refine qam hS rfl I.ord_unpack_next_3 (by decide +kernel) ?_; cbv)
      | (refine qam hS rfl I.ord_unpack_next_4 (by decide +kernel) ?_; cbv)
      | (refine qbx hS ?_; try cbv)
      | (refine s_lk hS ?_; try cbv)
      | (refine s_mu hS ?_; try cbv)
      | fail)
    all_goals first
      | (exfalso; omega)
      | exact fun g => .sub (qas (.cons (qdc (.cons .rfl (.cons .rfl (.cons (qkl rfl) (.cons (qca rfl) (.cons (qag rfl) (.cons (qbc (hFR.symm.trans hF) (hnR.trans hn.symm)) .nil))))))) (.cons (qag hE0) .nil))) rfl
  · have e : powU c = 16 := by unfold powU; rw [if_neg c7, if_neg c6, if_neg c5]
    rw [e] at hw
    obtain ⟨N, hN⟩ : ∃ r, preN b 16 = r := ⟨_, rfl⟩
    have hN0 := qkw (p := 16) hb (by decide)
    have hN1 := qww (b := b) (p := 16) (by decide) (by decide)
    rw [hN] at hN0 hN1
    obtain ⟨E, hE⟩ : ∃ r, preE b 16 = r := ⟨_, rfl⟩
    obtain ⟨R0, hR0⟩ : ∃ r, preR b 16 = r := ⟨_, rfl⟩
    have hRo : Hu.BOk R0 := hR0 ▸ qdf hb
    have hRl := qfk (b := b) (p := 16)
    rw [hR0] at hRl
    obtain ⟨FR, hFR⟩ : ∃ r, cellsB R0 = r := ⟨_, rfl⟩
    obtain ⟨nR, hnR⟩ : ∃ r, r = ilen R0 := ⟨_, rfl⟩
    rw [hN, hE, hR0] at hw
    by_cases hE0 : E = 0
    case neg =>
      rw [if_pos hE0] at hw
      cases hw
      repeat' (first
        | (refine qbw hS rfl ?_; try cbv)
        | (refine s_ck hS ?_; try cbv)
        | (refine qab hS ?_ ?_ <;> intro h <;> (try cbv) <;> try exact s_ab h)
        | (refine s_ad hS ?_; intro _ _; try cbv)
        | (refine s_sb hS ?_; intro _ _; try cbv)
        | (refine qau hS ?_; intro _ _; try cbv)
        | (refine qae hS ?_; try cbv)
        | (refine rowB hS hB hc rfl (by omega) ?_; cbv)
        | (refine qaf hS ?_; cbv)
        | (refine qbn hS (c := 128) rfl ?_; intro _ _; cbv)
        | (refine qbn hS (c := 64) rfl ?_; intro _ _; cbv)
        | (refine qbn hS (c := 32) rfl ?_; intro _ _; cbv)
        | (refine qgc hS (c := 2) (m := 1) (by decide) ?_; intro _ _; cbv)
        | (refine qih hS 4 16 rfl hBk hb hbl (by decide) (by decide) rfl hN hE hR0 hFR hnR ?_; cbv)
        | (refine qam hS rfl I.ord_unpack_next_0 (by decide +kernel) ?_; cbv)
        | (refine qam hS rfl I.ord_unpack_next_1 (by decide +kernel) ?_; cbv)
        | (refine qam hS rfl I.ord_unpack_next_2 (by decide +kernel) ?_; cbv)
        | (refine qam hS rfl I.ord_unpack_next_3 (by decide +kernel) ?_; cbv)
        | (refine qam hS rfl I.ord_unpack_next_4 (by decide +kernel) ?_; cbv)
        | (refine qbx hS ?_; try cbv)
        | (refine s_lk hS ?_; try cbv)
        | (refine s_mu hS ?_; try cbv)
        | fail)
      all_goals first
        | (exfalso; omega)
        | exact fun g => .sub (qas (.cons (qdc (.cons .rfl (.cons .rfl (.cons (qca rfl) (.cons (qca rfl) (.cons (qag rfl) (.cons (qht (by decide) hF.symm hn) .nil))))))) (.cons (qag rfl) .nil))) rfl
    rw [if_neg (by simpa using hE0)] at hw
    obtain ⟨⟨⟨v1, v2⟩, R1, e1⟩, hval⟩ : ∃ r, valW l N R0 = r := ⟨_, rfl⟩
    obtain ⟨FR1, hFR1⟩ : ∃ r, cellsB R1 = r := ⟨_, rfl⟩
    obtain ⟨nR1, hnR1⟩ : ∃ r, r = ilen R1 := ⟨_, rfl⟩
    rw [if_neg (by decide), if_neg (by decide), hval] at hw
    cases hw
    repeat' (first
      | (refine qbw hS rfl ?_; try cbv)
      | (refine s_ck hS ?_; try cbv)
      | (refine qab hS ?_ ?_ <;> intro h <;> (try cbv) <;> try exact s_ab h)
      | (refine s_ad hS ?_; intro _ _; try cbv)
      | (refine s_sb hS ?_; intro _ _; try cbv)
      | (refine qau hS ?_; intro _ _; try cbv)
      | (refine qae hS ?_; try cbv)
      | (refine rowB hS hB hc rfl (by omega) ?_; cbv)
      | (refine qaf hS ?_; cbv)
      | (refine qbn hS (c := 128) rfl ?_; intro _ _; cbv)
      | (refine qbn hS (c := 64) rfl ?_; intro _ _; cbv)
      | (refine qbn hS (c := 32) rfl ?_; intro _ _; cbv)
      | (refine qgc hS (c := 2) (m := 1) (by decide) ?_; intro _ _; cbv)
      | (refine qih hS 4 16 rfl hBk hb hbl (by decide) (by decide) rfl hN hE hR0 hFR hnR ?_; cbv)
      | (refine val_g hS (i := N) rfl (.v (z := .y mx) (n := .y m) rfl hG hm) (qbc (n := .y nR) hFR.symm hnR) hRo (by omega) (by omega) hval hFR1 hnR1 ?_; cbv)
      | (refine qam hS rfl I.ord_unpack_next_0 (by decide +kernel) ?_; cbv)
      | (refine qam hS rfl I.ord_unpack_next_1 (by decide +kernel) ?_; cbv)
      | (refine qam hS rfl I.ord_unpack_next_2 (by decide +kernel) ?_; cbv)
      | (refine qam hS rfl I.ord_unpack_next_3 (by decide +kernel) ?_; cbv)
      | (refine qam hS rfl I.ord_unpack_next_4 (by decide +kernel) ?_; cbv)
      | (refine qbx hS ?_; try cbv)
      | (refine s_lk hS ?_; try cbv)
      | (refine s_mu hS ?_; try cbv)
      | fail)
    all_goals first
      | (exfalso; omega)
      | exact fun g => .sub (qas (.cons (qdc (.cons .rfl (.cons .rfl (.cons (qca rfl) (.cons (qkl rfl) (.cons (qag rfl) (.cons (qbc (hFR1.symm.trans hF) (hnR1.trans hn.symm)) .nil))))))) (.cons (qag rfl) .nil))) rfl
      | exact fun g => .sub (qas (.cons (qdc (.cons .rfl (.cons .rfl (.cons (qca rfl) (.cons (qca rfl) (.cons (qag rfl) (.cons (qbc (hFR1.symm.trans hF) (hnR1.trans hn.symm)) .nil))))))) (.cons (qag rfl) .nil))) rfl
end Pa
end Cz
namespace Cz
open Go Go.RowKit Go.Proofs
namespace Pa
open Tb
def unV (r : (List Tb.Fd × Bool × Tab) × Int) : SV := .tp [.ag [.v false 2 (cellsF r.1.1) (.y (ilen r.1.1)), .b r.1.2.1, .i .i64 (.y r.1.2.2.1), .v false 2 (cellsF r.1.2.2.2) (.y (ilen r.1.2.2.2))], .i .i64 (.y r.2)]
theorem unE_fz {e : Int} {ze : Z} {l' : List Blk} (he : ze.v = e) : Tell (unV (([], false, (0, [])), e)) (.tp [.ag [.re (.slice none 0 0), .ff, .i .i64 (.l 0), .re (.slice none 0 0)], .i .i64 ze]) l' :=
  fun g => .sub (qas (.cons (qdc (.cons (qht (by decide) rfl rfl) (.cons (qca rfl) (.cons (qag rfl) (.cons (qht (by decide) rfl rfl) .nil))))) (.cons (qag he) .nil))) rfl
end Pa
end Cz
namespace Cz
open Go Go.RowKit Go.Proofs
namespace Pa
open Tb
section
variable {S : Sy} {bl : List Blk} {K : SV → List Blk → Prop} {b R : List Int} {e n sz c mx : Int} {F : List SV} {x : SV} {cs : List SV} {l : List Fd} {f1 f2 : List UInt8} {sd ad : Bool}
theorem qrw (hS : S0 Tryd.prog = S) (hc : TabC [] cs mx l) (hx : Sub x (.v false 1 (cellsB b) (.y (ilen b)))) (hb : Hu.BOk b) (hbl : ilen b ≤ 1000000) (hl : ilen l ≤ 100000000) (hc0 : b[(0 : Int).toNat]? = some c) (hw : nextW l b = ⟨(f1, f2), sd, ad, sz, R, e⟩) (hF : cellsB R = F) (hn : n = ilen R)
    (hK : K (.tp [.ag [.s f1, .s f2, .b sd, .b ad, .i .i64 (.y sz), .v false 1 F (.y n)], .i .i64 (.y e)]) bl) : S.call 84 [.ag cs, x] bl K := by
  refine qdu hS (next_f (mx := mx) hb hbl hl hc0 hw hF hn) ?_ rfl hK
  match hc.sub with
  | .cons h _ => exact .cons h (.cons hx .nil)
end
theorem next_sz {l : List Fd} {b : List Int} (hb : Hu.BOk b) : 0 ≤ (nextW l b).size := by
  unfold nextW
  split
  · exact Int.le_refl _
  · split
    · exact Int.le_refl _
    · split
      · exact qkw (p := 32) hb (by decide)
      · exact Int.le_refl _
theorem unb_e {mx most : Int} {l : List Tb.Fd} {b : List Int} (hv : ¬(rightL mx l = true ∧ 0 ≤ most ∧ most ≤ 4096)) (hl : fullL l ≤ 10000000) :
    (S0 Tryd.prog).call 49 [tabV mx l, .i .i64 (.y most), .v false 1 (cellsB b) (.y (ilen b))] [] (Tell (unV (([], false, (0, [])), 2))) := by
  unfold tabV
  generalize hG : cellsF l = G
  obtain ⟨k, hk⟩ : ∃ k, k = ilen l := ⟨_, rfl⟩
  generalize hF : cellsB b = F
  obtain ⟨n, hn⟩ : ∃ k, k = ilen b := ⟨_, rfl⟩
  obtain ⟨ri, hri⟩ : ∃ r, rightL mx l = r := ⟨_, rfl⟩
  obtain ⟨x, hx⟩ : ∃ x, unV (([], false, (0, [])), 2) = x := ⟨_, rfl⟩
  rw [← hk, ← hn, hx]
  rw [hri] at hv
  generalize hS : S0 Tryd.prog = S
  refine qac hS I.qit ?_
  cbv
  refine right_g hS (.v (z := .y mx) (n := .y k) rfl hG hk) hri (by omega) ?_
  cbv
  cases ri <;> cbv
  all_goals
    repeat' (first
      | (refine qbw hS rfl ?_; try cbv)
      | (refine s_ck hS ?_; try cbv)
      | (refine qab hS ?_ ?_ <;> intro h <;> (try cbv) <;> try exact s_ab h)
      | (refine s_ad hS ?_; intro _ _; try cbv)
      | (refine s_sb hS ?_; intro _ _; try cbv)
      | (refine qau hS ?_; intro _ _; try cbv)
      | (refine qae hS ?_; try cbv)
      | (refine qcj hS rfl ?_; cbv)
      | (refine qam hS rfl I.qba (by decide +kernel) ?_; cbv)
      | (refine qbx hS ?_; try cbv)
      | (refine s_lk hS ?_; try cbv)
      | (refine s_mu hS ?_; try cbv)
      | fail)
  all_goals first
    | (subst hx; exact unE_fz rfl)
    | (exfalso; exact hv ⟨rfl, by omega, by omega⟩)
theorem unb_k {mx most : Int} {l : List Tb.Fd} {b : List Int} {e : Int} {s : Un} (hr : goU most ⟨b, mx, l, [], 0⟩ = (e, s)) (hR : rightL mx l = true) (h0 : 0 ≤ most) (h1 : most ≤ 4096) (hb : Hu.BOk b) (hbl : ilen b ≤ 60000) :
    (S0 Tryd.prog).call 49 [tabV mx l, .i .i64 (.y most), .v false 1 (cellsB b) (.y (ilen b))] [] (Tell (if e ≠ 0 then unV (([], false, (0, [])), e) else unV ((s.out, decide (2000 < s.size), (s.mx, s.l)), 0))) := by
  have hl0 := qrl hR
  have hR' := of_decide_eq_true hR
  unfold tabV
  generalize hG : cellsF l = G
  obtain ⟨k, hk⟩ : ∃ k, k = ilen l := ⟨_, rfl⟩
  have h0n := qai b
  generalize hF : cellsB b = F
  obtain ⟨n, hn⟩ : ∃ k, k = ilen b := ⟨_, rfl⟩
  have hres : resR (mx, l) mx = ((mx, l), 0) := by unfold resR; rw [if_pos ⟨hR, hR'.1, hR'.2.1⟩]; dsimp only; rw [evL_all hR'.2.2]
  obtain ⟨x, hx⟩ : ∃ x, (if e ≠ 0 then unV (([], false, (0, [])), e) else unV ((s.out, decide (2000 < s.size), (s.mx, s.l)), 0)) = x := ⟨_, rfl⟩
  rw [← hk, ← hn, hx]
  generalize hS : S0 Tryd.prog = S
  refine qac hS I.qit ?_
  cbv
  refine right_g hS (.v (z := .y mx) (n := .y k) rfl hG hk) hR (by omega) ?_
  cbv
  repeat' (first
    | (refine qbw hS rfl ?_; try cbv)
    | (refine s_ck hS ?_; try cbv)
    | (refine qab hS ?_ ?_ <;> intro h <;> (try cbv) <;> try exact s_ab h)
    | (refine s_ad hS ?_; intro _ _; try cbv)
    | (refine s_sb hS ?_; intro _ _; try cbv)
    | (refine qau hS ?_; intro _ _; try cbv)
    | (refine qae hS ?_; try cbv)
    | (refine res_g hS (.v (z := .y mx) (n := .y k) rfl hG hk) hres hG hk (by omega) ?_; cbv)
    | (refine qcj hS rfl ?_; cbv)
    | (refine qam hS rfl I.qba (by decide +kernel) ?_; cbv)
    | (refine qac hS I.qso ?_; cbv)
    | (refine qhb hS I.qoq ?_; cbv)
    | (refine qbx hS ?_; try cbv)
    | (refine s_lk hS ?_; try cbv)
    | (refine s_mu hS ?_; try cbv)
    | fail)
  refine qzacc hS 2 0 2 (by decide) rfl rfl ?_
  cbv
  refine qaz hS 11 I.qjc (fun x : Un × List SV × Int × List SV × Int × List SV × Int × Int × Bool × Int × Int =>
      goU most x.1 = (e, s) ∧ UnOk 17000000000000 x.1 ∧ cellsB x.1.b = x.2.1 ∧ x.2.2.1 = ilen x.1.b ∧ cellsF x.1.l = x.2.2.2.1 ∧ x.2.2.2.2.1 = ilen x.1.l ∧ cellsF x.1.out = x.2.2.2.2.2.1 ∧ x.2.2.2.2.2.2.1 = ilen x.1.out ∧ x.2.2.2.2.2.2.2.2.1 = decide (2000 < x.1.size) ∧ 0 ≤ x.2.2.2.2.2.2.2.2.2.2 ∧ (0 < x.2.2.2.2.2.2.2.2.2.2 ↔ 0 < x.1.size) ∧ x.2.2.2.2.2.2.2.2.2.2 + ilen x.1.b ≤ 60000) (fun _ => [])
    (fun x => [(2, .c [.sl 10 2 (.l 0) (.y x.2.2.2.2.2.2.1) none, .b x.2.2.2.2.2.2.2.2.1, .i .i64 (.y x.1.mx), .v false 2 x.2.2.2.1 (.y x.2.2.2.2.1)]), (3, .c [.i .i64 (.y x.2.2.2.2.2.2.2.2.2.1)]), (4, .c [.i .i64 (.y x.1.size)]), (5, .c [.i .i64 (.y x.2.2.2.2.2.2.2.2.2.2)]), (7, .c [.v false 1 x.2.1 (.y x.2.2.1)]), (10, .r false false (.y x.2.2.2.2.2.2.2.1) 2 x.2.2.2.2.2.1)])
    (fun x => x.1.b.length) (⟨b, mx, l, [], 0⟩, F, n, G, k, [], 0, 0, false, 2, 0) rfl
    ⟨⟨hr, ⟨hb, hbl, hR, Int.le_refl _, by dsimp only; omega, Int.le_refl _, (show (0 : Int) ≤ 2000 by decide)⟩, hF, hn, hG, hk, rfl, rfl, rfl, Int.le_refl _, Iff.rfl, by dsimp only; omega⟩, rfl, ?_, ?_, by cbv⟩ ?_
  · cbv; exact s_qA
  · cbv; exact s_qA
  intro x'
  obtain ⟨⟨b', mx', l', out', sz'⟩, B, bn, T, tn, O, on, st, lg, ev, fi⟩ := x'
  intro hx'
  dsimp only at hx'
  cbv
  obtain ⟨g1, ok, g3, g4, g5, g6, g7, g8, g9, g10, g11, g12⟩ := hx'
  have hbok : Hu.BOk b' := ok.b
  have hbl0 : ilen b' ≤ 60000 := ok.len
  have hbl' : ilen b' ≤ 1000000 := by omega
  have hR2 : rightL mx' l' = true := ok.right
  have hs0 : 0 ≤ sz' := ok.s0
  have hsz : sz' + 17000000 * ilen b' ≤ 17000000000000 := ok.size
  have hl2 := qrl hR2
  have hR3 := of_decide_eq_true hR2
  have ho1 : fullL out' ≤ sz' := ok.o1
  have ho2 : fullL out' ≤ 2000 := ok.o2
  have ho3 := qck out'
  have hn0 := qai b'
  have hOl : ilen O = on * 2 := by rw [← g7, g8]; have := qgs out'; unfold ilen; omega
  have hon0 := qai out'
  refine qab hS ?_ ?_ <;> intro hz <;> cbv
  · have hne : b' ≠ [] := by intro h; rw [h] at g4; unfold ilen at g4; simp at g4; omega
    obtain ⟨c, hc⟩ := qfh (l := b') (i := 0) (by omega) (Int.le_refl _)
    obtain ⟨⟨⟨f1, f2⟩, sd, ad, sz, R, ew⟩, hw⟩ : ∃ r, nextW l' b' = r := ⟨_, rfl⟩
    obtain ⟨hX, hY⟩ := next_nxt l' b'
    rw [hw] at hX hY
    dsimp only at hX hY
    obtain ⟨FR, hFR⟩ : ∃ r, cellsB R = r := ⟨_, rfl⟩
    obtain ⟨nR, hnR⟩ : ∃ r, r = ilen R := ⟨_, rfl⟩
    have errL : ∀ (e' : Int) (y : Nx) (ze : Z) (l'' : List Blk), nxtU l' b' = y → (stepU most ⟨b', mx', l', out', sz'⟩ y).1 = e' → e' ≠ 0 → ze.v = e' → ∀ g, Fz l'' g [] (.tp [.ag [.re (.slice none 0 0), .ff, .i .i64 (.l 0), .re (.slice none 0 0)], .i .i64 ze]) x := by
      intro e' y ze l'' hy he hn0 hz
      have := go_E (s := ⟨b', mx', l', out', sz'⟩) hy hne g1 (by rw [he]; exact hn0)
      rw [he] at this
      subst this hx
      rw [if_pos hn0]
      exact unE_fz hz
    by_cases he0 : ew = 0
    case neg =>
      have hst : (stepU most ⟨b', mx', l', out', sz'⟩ (nxtU l' b')).1 = ew := by rw [step_e (by rw [hX]; exact he0), hX]
      repeat' (first
        | (refine qbw hS rfl ?_; try cbv)
        | (refine s_ck hS ?_; try cbv)
        | (refine qab hS ?_ ?_ <;> intro h <;> (try cbv) <;> try exact s_ab h)
        | (refine s_ad hS ?_; intro _ _; try cbv)
        | (refine s_sb hS ?_; intro _ _; try cbv)
        | (refine qau hS ?_; intro _ _; try cbv)
        | (refine qae hS ?_; try cbv)
        | (refine qcj hS rfl ?_; cbv)
        | (refine qer hS rfl I.qbb (by decide +kernel) ?_; cbv; refine ⟨?_, ?_⟩ <;> cbv)
        | (refine qrw hS (.v (z := .y mx') (n := .y tn) rfl g5 g6) (qbc (n := .y bn) g3.symm g4) hbok hbl' (by omega) hc hw hFR hnR ?_; cbv)
        | (refine qeb hS rfl rfl ?_; cbv)
        | (refine qam hS rfl I.qbi (by decide +kernel) ?_; cbv)
        | (refine qam hS rfl I.qba (by decide +kernel) ?_; cbv)
        | (refine qbx hS ?_; try cbv)
        | (refine s_lk hS ?_; try cbv)
        | (refine s_mu hS ?_; try cbv)
        | fail)
      all_goals exact errL ew _ (.y ew) _ rfl hst he0 rfl
    replace hY := hY he0
    subst he0
    have hlt : ilen R < ilen b' := by have h := (qzacj ok hY rfl).2; dsimp only at h; exact h
    have hR0 := qai R
    have hlt' : R.length < b'.length := by unfold ilen at hlt; omega
    cases sd with
    | true =>
      by_cases hs : 0 < sz' ∨ most < sz
      · have hst : (stepU most ⟨b', mx', l', out', sz'⟩ ⟨0, true, ad, sz, (f1, f2), R⟩).1 = 100 := by rw [step_s rfl rfl, if_pos hs]
        by_cases hs1 : 0 < fi
        · repeat' (first
          | (refine qbw hS rfl ?_; try cbv)
          | (refine s_ck hS ?_; try cbv)
          | (refine qab hS ?_ ?_ <;> intro h <;> (try cbv) <;> try exact s_ab h)
          | (refine s_ad hS ?_; intro _ _; try cbv)
          | (refine s_sb hS ?_; intro _ _; try cbv)
          | (refine qau hS ?_; intro _ _; try cbv)
          | (refine qae hS ?_; try cbv)
          | (refine qcj hS rfl ?_; cbv)
          | (refine qer hS rfl I.qbb (by decide +kernel) ?_; cbv; refine ⟨?_, ?_⟩ <;> cbv)
          | (refine qrw hS (.v (z := .y mx') (n := .y tn) rfl g5 g6) (qbc (n := .y bn) g3.symm g4) hbok hbl' (by omega) hc hw hFR hnR ?_; cbv)
          | (refine qeb hS rfl rfl ?_; cbv)
          | (refine qam hS rfl I.qbi (by decide +kernel) ?_; cbv)
          | (refine qam hS rfl I.qba (by decide +kernel) ?_; cbv)
          | (refine qbx hS ?_; try cbv)
          | (refine s_lk hS ?_; try cbv)
          | (refine s_mu hS ?_; try cbv)
          | fail)
          all_goals first
            | (exfalso; omega)
            | exact errL 100 _ (.l 100) _ hY hst (by decide) rfl
        · repeat' (first
          | (refine qbw hS rfl ?_; try cbv)
          | (refine s_ck hS ?_; try cbv)
          | (refine qab hS ?_ ?_ <;> intro h <;> (try cbv) <;> try exact s_ab h)
          | (refine s_ad hS ?_; intro _ _; try cbv)
          | (refine s_sb hS ?_; intro _ _; try cbv)
          | (refine qau hS ?_; intro _ _; try cbv)
          | (refine qae hS ?_; try cbv)
          | (refine qcj hS rfl ?_; cbv)
          | (refine qer hS rfl I.qbb (by decide +kernel) ?_; cbv; refine ⟨?_, ?_⟩ <;> cbv)
          | (refine qrw hS (.v (z := .y mx') (n := .y tn) rfl g5 g6) (qbc (n := .y bn) g3.symm g4) hbok hbl' (by omega) hc hw hFR hnR ?_; cbv)
          | (refine qeb hS rfl rfl ?_; cbv)
          | (refine qam hS rfl I.qbi (by decide +kernel) ?_; cbv)
          | (refine qam hS rfl I.qba (by decide +kernel) ?_; cbv)
          | (refine qbx hS ?_; try cbv)
          | (refine s_lk hS ?_; try cbv)
          | (refine s_mu hS ?_; try cbv)
          | fail)
          all_goals first
            | (exfalso; omega)
            | exact errL 100 _ (.l 100) _ hY hst (by decide) rfl
      · have hst : stepU most ⟨b', mx', l', out', sz'⟩ ⟨0, true, ad, sz, (f1, f2), R⟩ = (0, ⟨R, sz, evL sz l', out', sz'⟩) := by rw [step_s rfl rfl, if_neg hs]
        have hsz0 : 0 ≤ sz := by have h := next_sz (l := l') hbok; rw [hw] at h; exact h
        have q1 := go_S (s := ⟨b', mx', l', out', sz'⟩) hY hbok hne g1 hst
        have q2 := ok_size ok hY rfl h1 hsz0 (show sz ≤ most by omega)
        have hres2 : resR (mx', l') sz = ((sz, evL sz l'), 0) := by unfold resR; rw [if_pos ⟨hR2, hsz0, by omega⟩]
        obtain ⟨l2, hl2'⟩ : ∃ r, evL sz l' = r := ⟨_, rfl⟩
        rw [hl2'] at hres2 q1 q2
        obtain ⟨A2, hA2⟩ : ∃ r, cellsF l2 = r := ⟨_, rfl⟩
        obtain ⟨m2, hm2⟩ : ∃ r, r = ilen l2 := ⟨_, rfl⟩
        repeat' (first
          | (refine qbw hS rfl ?_; try cbv)
          | (refine s_ck hS ?_; try cbv)
          | (refine qab hS ?_ ?_ <;> intro h <;> (try cbv) <;> try exact s_ab h)
          | (refine s_ad hS ?_; intro _ _; try cbv)
          | (refine s_sb hS ?_; intro _ _; try cbv)
          | (refine qau hS ?_; intro _ _; try cbv)
          | (refine qae hS ?_; try cbv)
          | (refine qcj hS rfl ?_; cbv)
          | (refine qer hS rfl I.qbb (by decide +kernel) ?_; cbv; refine ⟨?_, ?_⟩ <;> cbv)
          | (refine qrw hS (.v (z := .y mx') (n := .y tn) rfl g5 g6) (qbc (n := .y bn) g3.symm g4) hbok hbl' (by omega) hc hw hFR hnR ?_; cbv)
          | (refine qeb hS rfl rfl ?_; cbv)
          | (refine qam hS rfl I.qbi (by decide +kernel) ?_; cbv)
          | (refine qam hS rfl I.qba (by decide +kernel) ?_; cbv)
          | (refine res_g hS (.v (z := .y mx') (n := .y tn) rfl g5 g6) hres2 hA2 hm2 (by omega) ?_; cbv)
          | (refine qbx hS ?_; try cbv)
          | (refine s_lk hS ?_; try cbv)
          | (refine s_mu hS ?_; try cbv)
          | fail)
        all_goals
          refine ⟨(⟨R, sz, l2, out', sz'⟩, FR, nR, A2, m2, O, on, st, lg, 100, fi), hlt', ⟨q1, q2, hFR, hnR, hA2, hm2, g7, g8, g9, g10, g11, by dsimp only; omega⟩, rfl, ?_, ?_, by cbv⟩
          · cbv; exact s_qA
          · cbv; exact s_qA
    | false =>
      have telL : goU most (tellU ⟨b', mx', l', out', sz'⟩ ⟨0, false, ad, sz, (f1, f2), R⟩) = (e, s) ∧ UnOk 17000000000000 (tellU ⟨b', mx', l', out', sz'⟩ ⟨0, false, ad, sz, (f1, f2), R⟩) :=
        ⟨go_S (s := ⟨b', mx', l', out', sz'⟩) hY hbok hne g1 (step_f rfl rfl), ok_tell ok hY rfl⟩
      unfold tellU at telL
      dsimp only at telL
      have hzb := nxt_len (l := l') hbok (by omega)
      rw [hY] at hzb
      dsimp only at hzb
      obtain ⟨z, hz'⟩ : ∃ z, z = szF (f1, f2) := ⟨_, rfl⟩
      have hzp := qgy (f1, f2)
      rw [← hz'] at hzb telL hzp
      have fin : ∀ (r : Int) (l2 : List Fd), (if ad = true then evL mx' ((f1, f2) :: l') else l') = l2 → r = sz' + z →
          (2000 < r → goU most ⟨R, mx', l2, out', r⟩ = (e, s) ∧ UnOk 17000000000000 ⟨R, mx', l2, out', r⟩) ∧ (¬2000 < r → goU most ⟨R, mx', l2, out' ++ [(f1, f2)], r⟩ = (e, s) ∧ UnOk 17000000000000 ⟨R, mx', l2, out' ++ [(f1, f2)], r⟩) := by
        intro r l2 h2 hr2
        rw [h2, ← hr2] at telL
        exact ⟨fun h3 => by rwa [if_pos h3] at telL, fun h3 => by rwa [if_neg h3] at telL⟩
      have e1 : S.app O [.s f1, .s f2] = cellsF (out' ++ [(f1, f2)]) := by rw [← g7, app_i hS]; simp [cellsF, fdE]
      have e2 : S.pl on 1 = ilen (out' ++ [(f1, f2)]) := by rw [qcd, g8]; subst hS; rfl
      have hlg : ∀ r, r = sz' + z → ¬2000 < r → lg = decide (2000 < r) := by
        intro r h1 h2
        rw [g9, decide_eq_false h2, decide_eq_false (by omega)]
      cases ad with
      | true =>
        have had : addR (mx', l') (f1, f2) = ((mx', evL mx' ((f1, f2) :: l')), 0) := by unfold addR; rw [if_pos hR2]
        obtain ⟨l2, hl2'⟩ : ∃ r, evL mx' ((f1, f2) :: l') = r := ⟨_, rfl⟩
        rw [hl2'] at had
        have fin := fun r => fin r l2 (by rw [if_pos rfl, hl2'])
        obtain ⟨A2, hA2⟩ : ∃ r, cellsF l2 = r := ⟨_, rfl⟩
        obtain ⟨m2, hm2⟩ : ∃ r, r = ilen l2 := ⟨_, rfl⟩
        repeat' (first
          | (refine qbw hS rfl ?_; try cbv)
          | (refine s_ck hS ?_; try cbv)
          | (refine qab hS ?_ ?_ <;> intro h <;> (try cbv) <;> try exact s_ab h)
          | (refine s_ad hS ?_; intro _ _; try cbv)
          | (refine s_sb hS ?_; intro _ _; try cbv)
          | (refine qau hS ?_; intro _ _; try cbv)
          | (refine qae hS ?_; try cbv)
          | (refine qcj hS rfl ?_; cbv)
          | (refine qer hS rfl I.qbb (by decide +kernel) ?_; cbv; refine ⟨?_, ?_⟩ <;> cbv)
          | (refine qrw hS (.v (z := .y mx') (n := .y tn) rfl g5 g6) (qbc (n := .y bn) g3.symm g4) hbok hbl' (by omega) hc hw hFR hnR ?_; cbv)
          | (refine qeb hS rfl rfl ?_; cbv)
          | (refine qam hS rfl I.qbi (by decide +kernel) ?_; cbv)
          | (refine qam hS rfl I.qba (by decide +kernel) ?_; cbv)
          | (refine add_g hS (.v (z := .y mx') (n := .y tn) rfl g5 g6) had hA2 hm2 (by omega) (by omega) ?_; cbv)
          | (refine size_g hS hz' (by omega) ?_; cbv)
          | (refine qbx hS ?_; try cbv)
          | (refine s_lk hS ?_; try cbv)
          | (refine s_mu hS ?_; try cbv)
          | fail)
        all_goals
          rename_i fi2 hfi r hr2 h3
          first
            | (have h3 : 2000 < r := h3
               obtain ⟨q1, q2⟩ := (fin r hr2).1 h3
               refine ⟨(⟨R, mx', l2, out', r⟩, FR, nR, A2, m2, O, on, st, true, 0, fi2), hlt', ⟨q1, q2, hFR, hnR, hA2, hm2, g7, g8, (decide_eq_true h3).symm, by dsimp only; omega, ⟨fun _ => by dsimp only; omega, fun _ => by dsimp only; omega⟩, by dsimp only; omega⟩, rfl, ?_, ?_, by cbv⟩
               · cbv; exact s_qA
               · cbv; exact s_qA)
            | (have h3 : ¬2000 < r := h3
               obtain ⟨q1, q2⟩ := (fin r hr2).2 h3
               refine ⟨(⟨R, mx', l2, out' ++ [(f1, f2)], r⟩, FR, nR, A2, m2, S.app O [.s f1, .s f2], S.pl on 1, S.flen O, lg, 0, fi2), hlt', ⟨q1, q2, hFR, hnR, hA2, hm2, e1.symm, e2, hlg r hr2 h3, by dsimp only; omega, ⟨fun _ => by dsimp only; omega, fun _ => by dsimp only; omega⟩, by dsimp only; omega⟩, rfl, ?_, ?_, by cbv⟩
               · cbv; exact s_qA
               · cbv; exact s_qA)
      | false =>
        have fin := fun r => fin r l' (by rw [if_neg (by simp)])
        repeat' (first
          | (refine qbw hS rfl ?_; try cbv)
          | (refine s_ck hS ?_; try cbv)
          | (refine qab hS ?_ ?_ <;> intro h <;> (try cbv) <;> try exact s_ab h)
          | (refine s_ad hS ?_; intro _ _; try cbv)
          | (refine s_sb hS ?_; intro _ _; try cbv)
          | (refine qau hS ?_; intro _ _; try cbv)
          | (refine qae hS ?_; try cbv)
          | (refine qcj hS rfl ?_; cbv)
          | (refine qer hS rfl I.qbb (by decide +kernel) ?_; cbv; refine ⟨?_, ?_⟩ <;> cbv)
          | (refine qrw hS (.v (z := .y mx') (n := .y tn) rfl g5 g6) (qbc (n := .y bn) g3.symm g4) hbok hbl' (by omega) hc hw hFR hnR ?_; cbv)
          | (refine qeb hS rfl rfl ?_; cbv)
          | (refine qam hS rfl I.qbi (by decide +kernel) ?_; cbv)
          | (refine qam hS rfl I.qba (by decide +kernel) ?_; cbv)
          | (refine size_g hS hz' (by omega) ?_; cbv)
          | (refine qbx hS ?_; try cbv)
          | (refine s_lk hS ?_; try cbv)
          | (refine s_mu hS ?_; try cbv)
          | fail)
        all_goals
          rename_i fi2 hfi r hr2 h3
          first
            | (have h3 : 2000 < r := h3
               obtain ⟨q1, q2⟩ := (fin r hr2).1 h3
               refine ⟨(⟨R, mx', l', out', r⟩, FR, nR, T, tn, O, on, st, true, 0, fi2), hlt', ⟨q1, q2, hFR, hnR, g5, g6, g7, g8, (decide_eq_true h3).symm, by dsimp only; omega, ⟨fun _ => by dsimp only; omega, fun _ => by dsimp only; omega⟩, by dsimp only; omega⟩, rfl, ?_, ?_, by cbv⟩
               · cbv; exact s_qA
               · cbv; exact s_qA)
            | (have h3 : ¬2000 < r := h3
               obtain ⟨q1, q2⟩ := (fin r hr2).2 h3
               refine ⟨(⟨R, mx', l', out' ++ [(f1, f2)], r⟩, FR, nR, T, tn, S.app O [.s f1, .s f2], S.pl on 1, S.flen O, lg, 0, fi2), hlt', ⟨q1, q2, hFR, hnR, g5, g6, e1.symm, e2, hlg r hr2 h3, by dsimp only; omega, ⟨fun _ => by dsimp only; omega, fun _ => by dsimp only; omega⟩, by dsimp only; omega⟩, rfl, ?_, ?_, by cbv⟩
               · cbv; exact s_qA
               · cbv; exact s_qA)
  · have hbe : b' = [] := by
      apply List.eq_nil_of_length_eq_zero
      unfold ilen at g4; omega
    have hg := qzaas (most := most) (s := ⟨b', mx', l', out', sz'⟩) hbe
    rw [hg] at g1
    cases g1
    rw [if_neg (by simp)] at hx
    subst hx
    have hO : (O.drop ((Z.l 0).v.toNat * 2)).take (on.toNat * 2) = cellsF out' := by
      rw [show (Z.l 0).v.toNat * 2 = 0 from rfl, List.drop_zero, List.take_of_length_le, g7]
      unfold ilen at hOl; omega
    repeat' (first
      | (refine qbw hS rfl ?_; try cbv)
      | (refine s_ck hS ?_; try cbv)
      | (refine qab hS ?_ ?_ <;> intro h <;> (try cbv) <;> try exact s_ab h)
      | (refine s_ad hS ?_; intro _ _; try cbv)
      | (refine s_sb hS ?_; intro _ _; try cbv)
      | (refine qau hS ?_; intro _ _; try cbv)
      | (refine qae hS ?_; try cbv)
      | (refine qcj hS rfl ?_; cbv)
      | (refine qer hS rfl I.qbb (by decide +kernel) ?_; cbv; refine ⟨?_, ?_⟩ <;> cbv)
      | (refine qrw hS (.v (z := .y mx') (n := .y tn) rfl g5 g6) (qbc (n := .y bn) g3.symm g4) hbok hbl' (by omega) hc hw hFR hnR ?_; cbv)
      | (refine qeb hS rfl rfl ?_; cbv)
      | (refine qam hS rfl I.qbi (by decide +kernel) ?_; cbv)
      | (refine qam hS rfl I.qba (by decide +kernel) ?_; cbv)
      | (refine qbx hS ?_; try cbv)
      | (refine s_lk hS ?_; try cbv)
      | (refine s_mu hS ?_; try cbv)
      | fail)
    exact fun g => .tp (.cons (.ag (.cons (fz_row rfl rfl hO (qcu _) g8) (.cons (.sub (qwd g9) rfl) (.cons (.sub (qag rfl) rfl) (.cons (.sub (qbc g5.symm g6) rfl) .nil))))) (.cons (.sub (qag rfl) rfl) .nil))
end Pa
end Cz
namespace Cz
open Go Go.RowKit Go.Proofs
namespace Pa
open Tb
theorem named_z {w : Int} {b : List UInt8} : (S0 Tryd.prog).call 54 [.i .i64 (.y 0), .s b, .i .i64 (.y w)] [] (fun y _ => Sub y (.tp [.re (.slice none 0 0), .i .i64 (.y 2)])) := by
  generalize hS : S0 Tryd.prog = S
  refine qac hS I.qev ?_
  cbv
  refine of_u hS (w := w) rfl fun u k hu hk => ?_
  obtain ⟨u0, u1, k0, k1, hp⟩ := up_bd w
  rw [← hu] at u0 u1
  rw [← hk] at k0 k1 hp
  cbv
  refine qac hS I.qdb ?_
  cbv
  repeat' (first
    | (refine qbw hS rfl ?_; try cbv)
    | (refine s_ck hS ?_; try cbv)
    | (refine qab hS ?_ ?_ <;> intro h <;> (try cbv) <;> try exact s_ab h)
    | (refine s_ad hS ?_; intro _ _; try cbv)
    | (refine s_sb hS ?_; intro _ _; try cbv)
    | (refine qau hS ?_; intro _ _; try cbv)
    | (refine qae hS ?_; try cbv)
    | (refine qve hS 0 k u (powP w) rfl rfl rfl (by omega) (by omega) (by omega) (by omega) hp (by omega) (by omega) fun F2 n2 st hF2 hn2 => ?_; cbv)
    | (refine qbx hS ?_; try cbv)
    | (refine s_lk hS ?_; try cbv)
    | (refine s_mu hS ?_; try cbv)
    | fail)
  exact qas (.cons .rfl (.cons (qag rfl) .nil))
section
variable {S : Sy} {bl : List Blk} {K : SV → List Blk → Prop} {L : List Int} {F : List SV} {n i w : Int} {a b : List UInt8}
theorem qzacl (hS : S0 Tryd.prog = S) {zi zw : Z} (hi : zi.v = i) (hw : zw.v = w) (h0 : 0 < i) (h1 : i < 2147483648) (hb : ilen b ≤ 1000000) (hF : cellsB (nmB i b w) = F) (hn : n = ilen (nmB i b w)) (hK : K (.tp [.v false 1 F (.y n), .i .i64 (.y 0)]) bl) :
    S.call 54 [.i .i64 zi, .s b, .i .i64 zw] bl K :=
  qdu hS (own_t1 (named_o h0 h1 hb) hF hn) (.cons (qag hi) (.cons .rfl (.cons (qag hw) .nil))) rfl hK
theorem fld_g (hS : S0 Tryd.prog = S) {zw : Z} (hw : zw.v = w) (hab : ilen a + ilen b ≤ 60000) (hF : cellsB (fldB (a, b) w) = F) (hn : n = ilen (fldB (a, b) w)) (hK : K (.v false 1 F (.y n)) bl) : S.call 52 [.ag [.s a, .s b], .i .i64 zw] bl K :=
  qdu hS (own_t0 (fld_o hab) hF hn) (.cons .rfl (.cons (qag hw) .nil)) rfl hK
theorem idx_g (hS : S0 Tryd.prog = S) {zi : Z} (hi : zi.v = i) (h0 : 0 ≤ i) (h1 : i < 2147483648) (hF : cellsB (idxB i) = F) (hn : n = ilen (idxB i)) (hK : K (.tp [.v false 1 F (.y n), .i .i64 (.y 0)]) bl) : S.call 53 [.i .i64 zi] bl K :=
  qdu hS (own_t1 (idx_o h0 h1) hF hn) (.cons (qag hi) .nil) rfl hK
end
end Pa
end Cz
namespace Cz
open Go Go.RowKit Go.Proofs
namespace Pa
open Tb
theorem strB_inj {a b : List Int} (ha : Hu.BOk a) (hb : Hu.BOk b) (h : strB a = strB b) : a = b := by rw [← byS_strB ha, ← byS_strB hb, h]
section
variable {S : Sy} {bl : List Blk} {K : SV → List Blk → Prop}
inductive ByC (bl : List Blk) : SV → List Int → Prop where
  | v {n : Z} {lit : Bool} {F : List SV} {b : List Int} (hF : cellsB b = F) (hn : n.v = ilen b) : ByC bl (.v lit 1 F n) b
  | nil : ByC bl (.re (.slice none 0 0)) []
  | row {n st : Z} {k : Nat} {lit : Bool} {cap : Option Z} {F : List SV} {b : List Int} (hB : lget bl k = .r false lit st 1 F) (hF : FSub F (cellsB b)) (hn : n.v = ilen b) : ByC bl (.sl k 1 (.l 0) n cap) b
theorem ByC.fz {x : SV} {b : List Int} (h : ByC bl x b) {g : Nat → Nat} : Fz bl g [] x (.v false 1 (cellsB b) (.y (ilen b))) := by
  cases h with
  | v hF hn => exact .sub (qbc hF.symm hn) rfl
  | nil => exact .nil (by decide) rfl
  | @row n st k lit cap F b hB hF hn =>
    refine .row (qaq hB (by simp)) rfl (.fsub ?_ (qad _)) (qad _) hn
    rw [show (Z.l 0).v.toNat * 1 = 0 from rfl, List.drop_zero, List.take_of_length_le]
    · exact hF
    · have h1 := hF.1
      have h2 := qbh b
      unfold ilen at *
      omega
theorem ByC.two {x y : SV} {a b : List Int} (h : ByC bl x a) (h' : ByC bl y b) {g : Nat → Nat} : FzL bl g [] [x, y] [.v false 1 (cellsB a) (.y (ilen a)), .v false 1 (cellsB b) (.y (ilen b))] := .cons h.fz (.cons h'.fz .nil)
end
section
variable {S : Sy} {bl : List Blk} {K : SV → List Blk → Prop}
theorem use_frz_l (hS : S0 Tryd.prog = S) (fs : List Nat) {g : FuncId} {args args' : List SV} {y y' : SV} (hF : (S0 Tryd.prog).call g args' [] (Tell y)) (ha : FzL bl id (others fs (len bl)) args args') (hr : refsBL (fun _ => false) args' = true) (hy : Sub y y') (hK : K y' (frzL fs 0 bl)) : S.call g args bl K := by
  subst hS
  exact qat (use_frz rfl fs (rows := []) (y := fun _ => y) (qat hF fun x l' h => ⟨x, .rfl, [], trivial, fun m => h _⟩) ha hr trivial (K := fun x l' => x = y ∧ l' = frzL fs 0 bl) (fun _ => ⟨rfl, rfl⟩)) fun x l' h => ⟨y', h.1 ▸ hy, h.2 ▸ hK⟩
variable {mx n m : Int} {l l' q : List Tb.Fd} {a b : List UInt8} {L : List Int} {F R : List SV} {args : List SV}
end
theorem tab_fz {bl : List Blk} {g : Nat → Nat} {ks : List (Option Nat)} {z n : Z} {lit : Bool} {F : List SV} {mx : Int} {l : List Tb.Fd} (hz : z.v = mx) (hF : cellsF l = F) (hn : n.v = ilen l) : Fz bl g ks (.ag [.i .i64 z, .v lit 2 F n]) (tabV mx l) :=
  .ag (.cons (.sub (qag hz) rfl) (.cons (.sub (qbc hF.symm hn) rfl) .nil))
theorem qra {bl : List Blk} {g : Nat → Nat} {ks : List (Option Nat)} {z : Z} {mx : Int} (hz : z.v = mx) : Fz bl g ks (.ag [.i .i64 z, .re (.slice none 0 0)]) (tabV mx []) :=
  .ag (.cons (.sub (qag hz) rfl) (.cons (.sub (qht (by decide) rfl rfl) rfl) .nil))
end Pa
end Cz
namespace Cz
open Go Go.RowKit Go.Proofs
namespace Pa
open Tb
theorem at_e (l : List Fd) (i : Int) : (atR l i).2 = 0 ∨ atR l i = (([], []), 90) := by
  unfold atR
  split
  · exact .inr rfl
  · split
    · exact .inl rfl
    · exact .inr rfl
theorem nxt_fld {l : List Fd} {w : Int} {f : Fd} {d : List Int} (h : ilen f.1 + ilen f.2 ≤ 900) : nxtU l (fldB f w ++ d) = ⟨0, false, decide (w = 1), 0, f, d⟩ := by
  have h1 := qai f.1
  have h2 := qai f.2
  unfold fldB
  rw [List.append_assoc, List.append_assoc, nxt_way (by decide) (by decide), lit_own (by omega) (by omega)]
theorem nxt_nm {l : List Fd} {i w : Int} {g f : Fd} {d : List Int} (h0 : 0 < i) (h1 : i < 2147483648) (hg : atR l i = (g, 0)) (hf : g.1 = f.1) (hb : ilen f.2 ≤ 1000000) : nxtU l (nmB i f.2 w ++ d) = ⟨0, false, decide (w = 1), 0, f, d⟩ := by
  unfold nmB
  rw [List.append_assoc, nxt_way (by omega) h1, lit_name h0 (by rw [hg]) (by rw [hg]; exact hf) hb]
theorem fldB_ne {f : Fd} {w : Int} : fldB f w ≠ [] := by
  unfold fldB; intro h; exact qwu (List.append_eq_nil_iff.1 (List.append_eq_nil_iff.1 h).1).1
theorem qzacq {most mx size : Int} {l out : List Fd} {b d : List Int} {f : Fd} {a : Bool} (hn : nxtU l b = ⟨0, false, a, 0, f, d⟩) (hb : Hu.BOk b) (h0 : b ≠ []) :
    goU most ⟨b, mx, l, out, size⟩ = goU most ⟨d, mx, if a = true then evL mx (f :: l) else l, if 2000 < size + szF f then out else out ++ [f], size + szF f⟩ := by
  have s1 := step_f (most := most) (s := ⟨b, mx, l, out, size⟩) (x := ⟨0, false, a, 0, f, d⟩) rfl rfl
  have g1 := go_step (most := most) (s := ⟨b, mx, l, out, size⟩) hb h0 (by dsimp only; rw [hn, s1])
  dsimp only at g1
  rw [hn, s1] at g1
  exact g1
theorem fld_go {most mx : Int} {l : List Fd} {f : Fd} {w : Int} (h : ilen f.1 + ilen f.2 ≤ 900) : goU most ⟨fldB f w, mx, l, [], 0⟩ = (0, ⟨[], mx, if w = 1 then evL mx (f :: l) else l, [f], szF f⟩) := by
  have hn := nxt_fld (l := l) (w := w) (f := f) (d := []) h
  rw [List.append_nil] at hn
  rw [qzacq hn bok_fld fldB_ne, qzaas rfl]
  have e : szF f = ilen f.1 + ilen f.2 + 32 := rfl
  rw [if_neg (show ¬2000 < 0 + szF f by omega), Int.zero_add]
  by_cases hw : w = 1
  · rw [if_pos hw, if_pos (decide_eq_true hw)]; rfl
  · rw [if_neg hw, if_neg (by simp [hw])]; rfl
theorem idx_go {most mx i : Int} {l : List Fd} {g : Fd} (h0 : 0 ≤ i) (h1 : i < 2147483648) (hg : atR l i = (g, 0)) : goU most ⟨idxB i, mx, l, [], 0⟩ = (0, ⟨[], mx, l, if 2000 < szF g then [] else [g], szF g⟩) := by
  have hn := nxt_idx (l := l) (i := i) (d := []) h0 h1
  rw [List.append_nil, hg] at hn
  dsimp only at hn
  rw [if_neg (by simp)] at hn
  rw [qzacq hn (qzade h0) qwu, qzaas rfl]
  simp
theorem idx_goE {most mx i : Int} {l : List Fd} (h0 : 0 ≤ i) (h1 : i < 2147483648) (hg : (atR l i).2 ≠ 0) : ∃ s, goU most ⟨idxB i, mx, l, [], 0⟩ = (90, s) := by
  have hn := nxt_idx (l := l) (i := i) (d := []) h0 h1
  rw [List.append_nil, if_pos hg] at hn
  have he : (atR l i).2 = 90 := by
    rcases at_e l i with h | h
    · exact absurd h hg
    · rw [h]
  rw [he] at hn
  have s1 := step_e (most := most) (s := ⟨idxB i, mx, l, [], 0⟩) (x := nxE 90) (by decide)
  have g1 := go_err (most := most) (s := ⟨idxB i, mx, l, [], 0⟩) qwu (by dsimp only; rw [hn, s1]; exact (by decide : (90 : Int) ≠ 0))
  dsimp only at g1
  rw [hn, s1] at g1
  exact ⟨_, g1⟩
theorem nm_go {most mx i w : Int} {l : List Fd} {g f : Fd} (h0 : 0 < i) (h1 : i < 2147483648) (hg : atR l i = (g, 0)) (hf : g.1 = f.1) (hb : ilen f.2 ≤ 1000000) : ∃ l', goU most ⟨nmB i f.2 w, mx, l, [], 0⟩ = (0, ⟨[], mx, l', if 2000 < szF f then [] else [f], szF f⟩) := by
  have hn := nxt_nm (w := w) (d := []) h0 h1 hg hf hb
  rw [List.append_nil] at hn
  have hne : nmB i f.2 w ≠ [] := by unfold nmB; intro h; exact qwu (List.append_eq_nil_iff.1 h).1
  refine ⟨if decide (w = 1) = true then evL mx (f :: l) else l, ?_⟩
  rw [qzacq hn (bok_nm (by omega)) hne, qzaas rfl]
  simp
theorem fld_len {f : Fd} {w : Int} (h : ilen f.1 + ilen f.2 ≤ 900) : ilen (fldB f w) ≤ 1000 := by
  have h1 := qrp (byS f.1)
  have h2 := qrp (byS f.2)
  have h3 := qcz 0 (powP w) (upP w)
  have e1 : ilen (byS f.1) = ilen f.1 := by unfold byS ilen; rw [List.length_map]
  have e2 : ilen (byS f.2) = ilen f.2 := by unfold byS ilen; rw [List.length_map]
  unfold fldB
  rw [qcd, qcd]; omega
end Pa
end Cz
namespace Cz
open Go Go.RowKit Go.Proofs
namespace Pa
open Tb
theorem ugreat_f {mx : Int} {l : List Fd} {t : Bool} (ht : decide (200 < ilen l ∨ 9000 < fullL l - 32 * ilen l) = t) (hs : shortL l) (hm1 : ilen l ≤ 140737488355328) : (S0 Tryd.prog).call 47 [tabV mx l] [] (fun y _ => Sub y (.b t)) := by
  unfold tabV
  generalize hF : cellsF l = F
  obtain ⟨m, hm⟩ : ∃ m, m = ilen l := ⟨_, rfl⟩
  have h0 := qai l
  rw [← hm] at ht h0 hm1 ⊢
  generalize hS : S0 Tryd.prog = S
  refine qac hS I.qkg ?_
  cbv
  refine qaz hS 1 I.qgo (fun x : Int × Int => 0 ≤ x.1 ∧ x.1 ≤ m ∧ x.1 ≤ 201 ∧ x.2 = fullL (l.take x.1.toNat) - 32 * x.1) (fun x => [(3, .i .i64 (.y x.2)), (4, .i .i64 (.y x.1))]) (fun _ => []) (fun x => (m - x.1).toNat) (0, 0) rfl
    ⟨⟨Int.le_refl _, by omega, by omega, rfl⟩, rfl, ?_, ?_, by cbv⟩ ?_
  · cbv; all_goals exact s_sA
  · cbv; all_goals exact s_bA
  intro x
  obtain ⟨i, s⟩ := x
  intro hx
  dsimp only at hx
  cbv
  obtain ⟨k0, k1, k3, k2⟩ := hx
  have hs0 := qck (l.take i.toNat)
  have hs1 := full_short (l := l.take i.toNat) fun f hf => hs f (List.mem_of_mem_take hf)
  have hs2 : ilen (l.take i.toNat) = i := by unfold ilen at hm ⊢; rw [List.length_take]; omega
  rw [hs2] at hs0 hs1
  refine qab hS ?_ ?_ <;> intro h <;> cbv
  · refine s_br hS ?_ ?_ <;> intro h' <;> cbv <;> simp only [← hS, Int.ofNat_eq_natCast, cq, Bool.not_eq_true', Bool.not_eq_false', decide_eq_true_eq, decide_eq_false_iff_not, beq_iff_eq, beq_eq_false_iff_ne, ne_eq] at h'
    · obtain ⟨⟨a, b⟩, hp⟩ := qfh (l := l) (i := i) (by omega) k0
      have hsz := hs _ (List.mem_of_getElem? hp)
      dsimp only at hsz
      have hsn : szF (a, b) = ilen a + ilen b + 32 := rfl
      have ha := qai a
      have hb := qai b
      have hnx := qeu hp k0
      refine qam hS rfl I.qhe (by decide +kernel) ?_
      cbv
      repeat' (first
        | (refine s_st hS ?_; try cbv)
        | (refine qab hS ?_ ?_ <;> intro h <;> (try cbv) <;> try exact s_ab h)
        | (refine qah hS ?_; intro _ _; try cbv)
        | (refine qae hS ?_; try cbv)
        | (refine qau hS ?_; intro _ _; try cbv)
        | (refine qcf hS ?_; try cbv)
        | (refine And.intro rfl ?_; try cbv)
        | (refine rowF1 hS hF hp (by omega) ?_; cbv)
        | (refine rowF2 hS hF hp (by omega) ?_; cbv)
        | fail)
      rename_i s1 hs1' s2 hs2' i2 hi2
      refine ⟨(i2, s2), by dsimp only; omega, ⟨by dsimp only; omega, by dsimp only; omega, by dsimp only; omega, by dsimp only; rw [hi2, hnx]; omega⟩, rfl, ?_, ?_, by cbv⟩
      · cbv; all_goals exact s_sA
      · cbv; all_goals exact s_bA
    · have e : t = true := by rw [← ht]; exact decide_eq_true (.inl (by omega))
      repeat' (first
        | (refine s_st hS ?_; try cbv)
        | (refine qab hS ?_ ?_ <;> intro h <;> (try cbv) <;> try exact s_ab h)
        | (refine qah hS ?_; intro _ _; try cbv)
        | (refine qae hS ?_; try cbv)
        | (refine qau hS ?_; intro _ _; try cbv)
        | (refine qcf hS ?_; try cbv)
        | fail)
      all_goals
        cbv
        all_goals exact s_sA
  · rw [qbt (by omega)] at k2
    repeat' (first
      | (refine s_st hS ?_; try cbv)
      | (refine qab hS ?_ ?_ <;> intro h <;> (try cbv) <;> try exact s_ab h)
      | (refine qah hS ?_; intro _ _; try cbv)
      | (refine qae hS ?_; try cbv)
      | (refine qau hS ?_; intro _ _; try cbv)
      | (refine qcf hS ?_; try cbv)
      | fail)
    · have e : t = true := by rw [← ht]; exact decide_eq_true (.inl (by omega))
      all_goals exact s_sA
    · refine qwd ?_
      rw [← ht, ← hS]
      simp only [cq]
      exact decide_eq_decide.2 ⟨fun h => .inr (by omega), fun h => by omega⟩
theorem ufields_f {l k : List Fd} {t : Bool} (ht : decide (l = k) = t) (h1 : ilen l ≤ 100000000) (h2 : ilen k ≤ 100000000) : (S0 Tryd.prog).call 51 [.v false 2 (cellsF l) (.y (ilen l)), .v false 2 (cellsF k) (.y (ilen k))] [] (fun y _ => Sub y (.b t)) := by
  generalize hF : cellsF l = F
  generalize hG : cellsF k = G
  obtain ⟨m, hm⟩ : ∃ m, m = ilen l := ⟨_, rfl⟩
  obtain ⟨n, hn⟩ : ∃ n, n = ilen k := ⟨_, rfl⟩
  have h3 := qai l
  have h4 := qai k
  rw [← hm] at h1 h3 ⊢
  rw [← hn] at h2 h4 ⊢
  generalize hS : S0 Tryd.prog = S
  refine qac hS I.qiw ?_
  cbv
  refine qab hS ?_ ?_ <;> intro h <;> cbv
  · have e : t = false := by rw [← ht]; exact decide_eq_false (fun e => by subst e; omega)
    all_goals exact s_sA
  refine qaz hS 0 I.qfw (fun x : Int => 0 ≤ x ∧ x ≤ m ∧ l.take x.toNat = k.take x.toNat) (fun x => [(5, .i .i64 (.y x))]) (fun _ => []) (fun x => (m - x).toNat) 0 rfl
    ⟨⟨Int.le_refl _, by omega, rfl⟩, rfl, ?_, ?_, by cbv⟩ ?_
  · cbv; all_goals exact s_sA
  · cbv; all_goals exact s_bA
  intro i hx
  cbv
  obtain ⟨k0, k1, k2⟩ := hx
  refine s_br hS ?_ ?_ <;> intro h' <;> cbv <;> simp only [← hS, Int.ofNat_eq_natCast, cq, Bool.not_eq_true', Bool.not_eq_false', decide_eq_true_eq, decide_eq_false_iff_not, beq_iff_eq, beq_eq_false_iff_ne, ne_eq] at h'
  · obtain ⟨⟨a, b⟩, hp⟩ := qfh (l := l) (i := i) (by omega) k0
    obtain ⟨⟨c, d⟩, hq⟩ := qfh (l := k) (i := i) (by omega) k0
    refine qam hS rfl I.qgi (by decide +kernel) ?_
    cbv
    repeat' (first
      | (refine s_st hS ?_; try cbv)
      | (refine qab hS ?_ ?_ <;> intro h <;> (try cbv) <;> try exact s_ab h)
      | (refine qah hS ?_; intro _ _; try cbv)
      | (refine qae hS ?_; try cbv)
      | (refine qau hS ?_; intro _ _; try cbv)
      | (refine qcf hS ?_; try cbv)
      | (refine And.intro rfl ?_; try cbv)
      | (refine rowF hS hF hp (by omega) ?_; cbv)
      | (refine rowF hS hG hq (by omega) ?_; cbv)
      | fail)
    · have he : (a, b) = (c, d) := by congr
      rename_i r hr
      refine ⟨r, by omega, ⟨by omega, by omega, ?_⟩, rfl, ?_, ?_, by cbv⟩
      · rw [hr]; exact qib k0 (he ▸ hp) hq k2
      · cbv; all_goals exact s_sA
      · cbv; all_goals exact s_bA
    all_goals
      have e : t = false := by rw [← ht]; exact decide_eq_false (qzabu hp hq (by intro e; cases e; simp_all))
      all_goals exact s_sA
  · have e : t = true := by rw [← ht]; exact decide_eq_true (by rwa [qbt (by omega), qbt (by omega)] at k2)
    all_goals exact s_sA
theorem qmf {S : Sy} {bl : List Blk} {K : SV → List Blk → Prop} (hS : S0 Tryd.prog = S) {x y : SV} {l k : List Fd} {t : Bool} (ht : decide (l = k) = t) (hc : FzL bl id [] [x, y] [.v false 2 (cellsF l) (.y (ilen l)), .v false 2 (cellsF k) (.y (ilen k))]) (hl : ilen l ≤ 100000000) (hk : ilen k ≤ 100000000) (hK : K (.b t) bl) :
    S.call 51 [x, y] bl K := qcb hS (ufields_f ht hl hk) hc rfl rfl hK
theorem usize_f {l : List Fd} {n : Int} (hn : n = fullL l) (h : n ≤ 100000000) : (S0 Tryd.prog).call 66 [.v false 2 (cellsF l) (.y (ilen l))] [] (fun y _ => Sub y (.i .i64 (.y n))) := by
  generalize hF : cellsF l = F
  obtain ⟨m, hm⟩ : ∃ m, m = ilen l := ⟨_, rfl⟩
  have hlen := qck l
  have h0 := qai l
  rw [← hm]
  generalize hS : S0 Tryd.prog = S
  refine qac hS I.quh ?_
  cbv
  refine qaz hS 0 I.qnj (fun x : Int × Int => 0 ≤ x.1 ∧ x.1 ≤ m ∧ x.2 = fullL (l.take x.1.toNat)) (fun x => [(2, .i .i64 (.y x.2)), (7, .i .i64 (.y x.1))]) (fun _ => []) (fun x => (m - x.1).toNat) (0, 0) rfl
    ⟨⟨Int.le_refl _, by omega, rfl⟩, rfl, ?_, ?_, by cbv⟩ ?_
  · cbv; all_goals exact s_sA
  · cbv; all_goals exact s_bA
  intro x
  obtain ⟨i, s⟩ := x
  intro hx
  dsimp only at hx
  cbv
  obtain ⟨k0, k1, k2⟩ := hx
  have hs0 := qfo (l.take i.toNat)
  have hs1 := qdo l i.toNat
  rw [← k2] at hs0 hs1
  refine qab hS ?_ ?_ <;> intro h <;> cbv
  · obtain ⟨⟨a, b⟩, hp⟩ := qfh (l := l) (i := i) (by omega) k0
    have hsz := qxq hp
    have hsp := qgy (a, b)
    have hnx := qeu hp k0
    rw [← k2] at hnx
    have hs2 := qdo l (i + 1).toNat
    repeat' (first
      | (refine s_st hS ?_; try cbv)
      | (refine qab hS ?_ ?_ <;> intro h <;> (try cbv) <;> try exact s_ab h)
      | (refine qah hS ?_; intro _ _; try cbv)
      | (refine qae hS ?_; try cbv)
      | (refine qau hS ?_; intro _ _; try cbv)
      | (refine qcf hS ?_; try cbv)
      | (refine rowF hS hF hp (by omega) ?_; cbv)
      | (refine size_u hS (by omega) fun n1 hn1 => ?_; cbv)
      | fail)
    rename_i s2 hs2 i2 hi2
    refine ⟨(i2, s2), by dsimp only; omega, ⟨by dsimp only; omega, by dsimp only; omega, by dsimp only; rw [hs2, hi2, hnx]; omega⟩, rfl, ?_, ?_, by cbv⟩
    · cbv; all_goals exact s_sA
    · cbv; all_goals exact s_bA
  · refine qag ?_
    simp only [Z.v]; rw [hn, k2, qbt (by omega)]
section
variable {S : Sy} {bl : List Blk} {K : SV → List Blk → Prop} {cs : List SV} {mx : Int} {l : List Fd} {x : SV} {n : Int}
theorem ugreat_u (hS : S0 Tryd.prog = S) (hc : TabC bl cs mx l) (hs : shortL l) (hm : ilen l ≤ 140737488355328) (h1 : K .tt bl) (h2 : ilen l ≤ 200 → fullL l ≤ 9000 + 32 * ilen l → K .ff bl) : S.call 47 [.ag cs] bl K := by
  by_cases h : 200 < ilen l ∨ 9000 < fullL l - 32 * ilen l
  · exact qcb hS (qcn (ugreat_f (decide_eq_true h) hs hm)) hc.fz rfl rfl h1
  · exact qcb hS (qcn (ugreat_f (decide_eq_false h) hs hm)) hc.fz rfl rfl (h2 (by omega) (by omega))
theorem usize_g (hS : S0 Tryd.prog = S) (hc : FzL bl id [] [x] [.v false 2 (cellsF l) (.y (ilen l))]) (hn : n = fullL l) (h : n ≤ 100000000) (hK : K (.i .i64 (.y n)) bl) : S.call 66 [x] bl K :=
  qcb hS (usize_f hn h) hc rfl rfl hK
end
theorem bsm_f {a b : List Int} {t : Bool} (ha : Hu.BOk a) (hb : Hu.BOk b) (ht : decide (a = b) = t) : (S0 Tryd.prog).call 65 [.v false 1 (cellsB a) (.y (ilen a)), .v false 1 (cellsB b) (.y (ilen b))] [] (fun x _ => Sub x (.b t)) := by
  generalize hF : cellsB a = F
  generalize hG : cellsB b = G
  obtain ⟨m, hm⟩ : ∃ m, m = ilen a := ⟨_, rfl⟩
  obtain ⟨n, hn⟩ : ∃ n, n = ilen b := ⟨_, rfl⟩
  rw [← hm, ← hn]
  obtain ⟨x, hx⟩ : ∃ x, strB a = x := ⟨_, rfl⟩
  obtain ⟨y, hy⟩ : ∃ x, strB b = x := ⟨_, rfl⟩
  generalize hS : S0 Tryd.prog = S
  refine qac hS I.qly ?_
  cbv
  repeat' (first
    | (refine qbw hS rfl ?_; try cbv)
    | (refine s_ck hS ?_; try cbv)
    | (refine qab hS ?_ ?_ <;> intro h <;> (try cbv) <;> try exact s_ab h)
    | (refine s_ad hS ?_; intro _ _; try cbv)
    | (refine s_sb hS ?_; intro _ _; try cbv)
    | (refine qau hS ?_; intro _ _; try cbv)
    | (refine qae hS ?_; try cbv)
    | (refine s_bsx hS ha hF hm hx ?_; cbv)
    | (refine s_bsx hS hb hG hn hy ?_; cbv)
    | (refine qbx hS ?_; try cbv)
    | (refine s_lk hS ?_; try cbv)
    | (refine s_mu hS ?_; try cbv)
    | fail)
  refine qwd ?_
  subst hS
  show (x == y) = t
  rw [← ht, ← hx, ← hy]
  by_cases h : a = b
  · simp [h]
  · have : strB a ≠ strB b := fun e => h (strB_inj ha hb e)
    simp [h, this]
section
variable {S : Sy} {bl : List Blk} {K : SV → List Blk → Prop} {cs : List SV} {mx most n k m : Int} {l q l' : List Tb.Fd} {b : List Int} {x y : SV} {r : (List Tb.Fd × Bool × Tab) × Int} {F R : List SV}
theorem bsm_t (hS : S0 Tryd.prog = S) (hc : FzL bl id [] [x, y] [.v false 1 (cellsB b) (.y (ilen b)), .v false 1 (cellsB b) (.y (ilen b))]) (ha : Hu.BOk b) (hK : K .tt bl) : S.call 65 [x, y] bl K :=
  qcb hS (qcn (bsm_f ha ha (decide_eq_true rfl))) hc rfl rfl hK
theorem unb_f (hr : blkU (mx, l) most b = r) (hb : Hu.BOk b) (hbl : ilen b ≤ 60000) (hl : fullL l ≤ 10000000) :
    (S0 Tryd.prog).call 49 [tabV mx l, .i .i64 (.y most), .v false 1 (cellsB b) (.y (ilen b))] [] (Tell (unV r)) := by
  subst hr
  rw [blk_go]
  split
  · rename_i h
    have h' : rightL mx l = true ∧ 0 ≤ most ∧ most ≤ 4096 := h
    have := unb_k (e := (goU most ⟨b, mx, l, [], 0⟩).1) (s := (goU most ⟨b, mx, l, [], 0⟩).2) rfl h'.1 h'.2.1 h'.2.2 hb hbl
    dsimp only
    split
    · rename_i h2; rw [if_pos h2] at this; exact this
    · rename_i h2; rw [if_neg h2] at this; exact this
  · rename_i h
    exact unb_e h hl
theorem unb_g {t : Bool} {e mx' : Int} {o : List Tb.Fd} (hS : S0 Tryd.prog = S) {zm : Z} (hr : blkU (mx, l) most b = ((o, t, (mx', l')), e)) (hc : TabC [] cs mx l) (hm : zm.v = most) (hx : Sub x (.v false 1 (cellsB b) (.y (ilen b)))) (hb : Hu.BOk b) (hbl : ilen b ≤ 60000) (hl : fullL l ≤ 10000000)
    (hF : cellsF o = F) (hn : n = ilen o) (hRr : cellsF l' = R) (hk : k = ilen l') (hK : K (.tp [.ag [.v false 2 F (.y n), .b t, .i .i64 (.y mx'), .v false 2 R (.y k)], .i .i64 (.y e)]) bl) :
    S.call 49 [.ag cs, .i .i64 zm, x] bl K := by
  subst hF hn hRr hk
  refine qdu hS (unb_f hr hb hbl hl) ?_ rfl hK
  match hc.sub with
  | .cons h _ => exact .cons h (.cons (qag hm) (.cons hx .nil))
theorem unb_l (hS : S0 Tryd.prog = S) (fs : List Nat) {args : List SV} {t : Bool} {e mx' : Int} {o : List Tb.Fd} (ha : FzL bl id (others fs (len bl)) args [tabV mx l, .i .i64 (.y most), .v false 1 (cellsB b) (.y (ilen b))]) (hr : blkU (mx, l) most b = ((o, t, (mx', l')), e)) (hb : Hu.BOk b) (hbl : ilen b ≤ 60000) (hl : fullL l ≤ 10000000)
    (hF : cellsF o = F) (hn : ilen o = n) (hRr : cellsF l' = R) (hk : ilen l' = k) {tv : SV} (ht : Sub (.b t) tv) (hK : K (.tp [.ag [.v true 2 F (.l n), tv, .i .i64 (.l mx'), .v true 2 R (.l k)], .i .i64 (.l e)]) (frzL fs 0 bl)) : S.call 49 args bl K :=
  use_frz_l hS fs (unb_f hr hb hbl hl) ha rfl (y' := .tp [.ag [.v true 2 F (.l n), tv, .i .i64 (.l mx'), .v true 2 R (.l k)], .i .i64 (.l e)]) (qas (.cons (qdc (.cons (qbc hF hn) (.cons ht (.cons (qag rfl) (.cons (qbc hRr hk) .nil))))) (.cons (qag rfl) .nil))) hK
end
end Pa
end Cz
namespace Cz
open Go Go.RowKit Go.Proofs
namespace Pa
open Tb
def upV (o : List Fd) (lg : Bool) (mx : Int) (l : List Fd) : SV := .ag [.v false 2 (cellsF o) (.y (ilen o)), .b lg, .i .i64 (.y mx), .v false 2 (cellsF l) (.y (ilen l))]
theorem usame_f {o o' l l' : List Fd} {lg lg' t : Bool} {mx mx' : Int} (ht : decide (lg = lg' ∧ o = o' ∧ mx = mx' ∧ l = l') = t) (h1 : ilen o ≤ 100000000) (h2 : ilen o' ≤ 100000000) (h3 : ilen l ≤ 100000000) (h4 : ilen l' ≤ 100000000) :
    (S0 Tryd.prog).call 67 [upV o lg mx l, upV o' lg' mx' l'] [] (fun y _ => Sub y (.b t)) := by
  unfold upV
  generalize hF : cellsF o = F
  generalize hF' : cellsF o' = F'
  generalize hG : cellsF l = G
  generalize hG' : cellsF l' = G'
  obtain ⟨m, hm⟩ : ∃ m, m = ilen o := ⟨_, rfl⟩
  obtain ⟨m', hm'⟩ : ∃ m, m = ilen o' := ⟨_, rfl⟩
  obtain ⟨n, hn⟩ : ∃ m, m = ilen l := ⟨_, rfl⟩
  obtain ⟨n', hn'⟩ : ∃ m, m = ilen l' := ⟨_, rfl⟩
  rw [← hm, ← hm', ← hn, ← hn']
  generalize hS : S0 Tryd.prog = S
  refine qac hS I.qui ?_
  cbv
  cases lg <;> cases lg' <;> cbv
  all_goals
    repeat' (first
      | (refine qbw hS rfl ?_; try cbv)
      | (refine s_ck hS ?_; try cbv)
      | (refine qab hS ?_ ?_ <;> intro h <;> (try cbv) <;> try exact s_ab h)
      | (refine s_ad hS ?_; intro _ _; try cbv)
      | (refine s_sb hS ?_; intro _ _; try cbv)
      | (refine qau hS ?_; intro _ _; try cbv)
      | (refine qae hS ?_; try cbv)
      | (refine equal_u hS (l := o) (k := o') (.cons (.sub (qbc hF.symm hm) rfl) (.cons (.sub (qbc hF'.symm hm') rfl) .nil)) h1 h2 (fun ho => ?_) (fun ho => ?_) <;> cbv)
      | (refine Tb.same_u hS (.v (z := .y mx) (n := .y n) rfl hG hn) (.v (z := .y mx') (n := .y n') rfl hG' hn') h3 h4 (fun hq hr => ?_) (fun hq => ?_) <;> cbv)
      | (refine qbx hS ?_; try cbv)
      | (refine s_lk hS ?_; try cbv)
      | (refine s_mu hS ?_; try cbv)
      | fail)
  all_goals try (refine Tb.same_u hS (mx := mx) (my := mx') (l := l) (k := l') (.v (z := .y mx) (n := .y n) rfl hG hn) (.v (z := .y mx') (n := .y n') rfl hG' hn') h3 h4 (fun hq hr => ?_) (fun hq => ?_) <;> cbv)
  all_goals first
    | (refine qkl ?_; rw [← ht]; exact decide_eq_true ⟨rfl, by assumption, by assumption, by assumption⟩)
    | (refine qca ?_; rw [← ht]; refine decide_eq_false ?_; rintro ⟨q1, q2, q3, q4⟩; first | (cases q1; done) | (exact absurd q2 (by assumption)) | (exact (by assumption : ¬(_ ∧ _)) ⟨q3, q4⟩))
section
variable {S : Sy} {bl : List Blk} {K : SV → List Blk → Prop}
theorem usame_g (hS : S0 Tryd.prog = S) {x y : SV} {o o' l l' : List Fd} {lg lg' t : Bool} {mx mx' : Int} (ht : decide (lg = lg' ∧ o = o' ∧ mx = mx' ∧ l = l') = t) (hc : FzL bl id [] [x, y] [upV o lg mx l, upV o' lg' mx' l']) (h1 : ilen o ≤ 100000000) (h2 : ilen o' ≤ 100000000) (h3 : ilen l ≤ 100000000) (h4 : ilen l' ≤ 100000000)
    (hK : K (.b t) bl) : S.call 67 [x, y] bl K :=
  qcb hS (usame_f ht h1 h2 h3 h4) hc rfl rfl hK
end
theorem qir {bl : List Blk} {g : Nat → Nat} {ks : List (Option Nat)} {k : Nat} {lit : Bool} {st n : Z} {cap : Option Z} {F : List SV} {b : List Int} (hB : lget bl k = .r false lit st 1 F) (hk : kpOf ks k = none) (hF : FSub F (cellsB b)) (hn : n.v = ilen b) : Fz bl g ks (.sl k 1 (.l 0) n cap) (.v false 1 (cellsB b) (.y (ilen b))) := by
  refine .row (qaq hB (by simp)) hk (.fsub ?_ (qad _)) (qad _) hn
  rw [show (Z.l 0).v.toNat * 1 = 0 from rfl, List.drop_zero, List.take_of_length_le]
  · exact hF
  · have h1 := hF.1
    have h2 := qbh b
    unfold ilen at *
    omega
abbrev fpost : Fd := ([58, 109, 101, 116, 104, 111, 100], [80, 79, 83, 84])
theorem uwakes_f : (S0 Tryd.prog).call 48 [] [] (fun y _ => Sub y .tt) := by
  generalize hS : S0 Tryd.prog = S
  refine qac hS I.qkj ?_
  cbv
  refine unb_l hS [1] (mx := 100) (l := []) (most := 100) (b := [130]) (o := [fpost]) (t := false) (e := 0) (mx' := 100) (l' := []) (.cons (qra rfl) (.cons (.sub (qag rfl) rfl) (.cons (qir rfl rfl (SubL.fsub (by repeat' (first | exact SubL.nil | refine SubL.cons (qag rfl) ?_))) rfl) .nil))) (by kernel_rfl) (by intro v hv; simp at hv; omega) (by decide +kernel) (by decide +kernel) rfl rfl rfl rfl (tv := .ff) (qdm rfl) ?_
  cbv
  refine unb_l hS [3] (mx := 100) (l := []) (most := 100) (b := [64, 1, 97, 1, 49]) (o := [fa]) (t := false) (e := 0) (mx' := 100) (l' := [fa]) (.cons (qra rfl) (.cons (.sub (qag rfl) rfl) (.cons (qir rfl rfl (SubL.fsub (by repeat' (first | exact SubL.nil | refine SubL.cons (qag rfl) ?_))) rfl) .nil))) (by kernel_rfl) (by intro v hv; simp at hv; omega) (by decide +kernel) (by decide +kernel) rfl rfl rfl rfl (tv := .ff) (qdm rfl) ?_
  cbv
  refine unb_l hS [5] (mx := 100) (l := []) (most := 100) (b := [128]) (o := []) (t := false) (e := 90) (mx' := 0) (l' := []) (.cons (qra rfl) (.cons (.sub (qag rfl) rfl) (.cons (qir rfl rfl (SubL.fsub (by repeat' (first | exact SubL.nil | refine SubL.cons (qag rfl) ?_))) rfl) .nil))) (by kernel_rfl) (by intro v hv; simp at hv; omega) (by decide +kernel) (by decide +kernel) rfl rfl rfl rfl (tv := .ff) (qdm rfl) ?_
  cbv
  refine unb_l hS [7] (mx := 100) (l := []) (most := 100) (b := [130, 32]) (o := []) (t := false) (e := 100) (mx' := 0) (l' := []) (.cons (qra rfl) (.cons (.sub (qag rfl) rfl) (.cons (qir rfl rfl (SubL.fsub (by repeat' (first | exact SubL.nil | refine SubL.cons (qag rfl) ?_))) rfl) .nil))) (by kernel_rfl) (by intro v hv; simp at hv; omega) (by decide +kernel) (by decide +kernel) rfl rfl rfl rfl (tv := .ff) (qdm rfl) ?_
  cbv
  refine unb_l hS [9] (mx := 100) (l := [fa]) (most := 100) (b := [32]) (o := []) (t := false) (e := 0) (mx' := 0) (l' := []) (.cons (tab_fz rfl rfl rfl) (.cons (.sub (qag rfl) rfl) (.cons (qir rfl rfl (SubL.fsub (by repeat' (first | exact SubL.nil | refine SubL.cons (qag rfl) ?_))) rfl) .nil))) (by kernel_rfl) (by intro v hv; simp at hv; omega) (by decide +kernel) (by decide +kernel) rfl rfl rfl rfl (tv := .ff) (qdm rfl) ?_
  cbv
  refine unb_l hS [11] (mx := 100) (l := []) (most := 100) (b := [63, 70]) (o := []) (t := false) (e := 100) (mx' := 0) (l' := []) (.cons (qra rfl) (.cons (.sub (qag rfl) rfl) (.cons (qir rfl rfl (SubL.fsub (by repeat' (first | exact SubL.nil | refine SubL.cons (qag rfl) ?_))) rfl) .nil))) (by kernel_rfl) (by intro v hv; simp at hv; omega) (by decide +kernel) (by decide +kernel) rfl rfl rfl rfl (tv := .ff) (qdm rfl) ?_
  cbv
  refine idx_g hS (i := 2) (F := cellsB [130]) (n := 1) rfl (by decide) (by decide) (by kernel_rfl) (by kernel_rfl) ?_
  cbv
  refine qzacl hS (i := 21) (w := 2) (b := [50]) (F := cellsB [31, 6, 1, 50]) (n := 4) rfl rfl (by decide) (by decide) (by decide) (by kernel_rfl) (by kernel_rfl) ?_
  cbv
  repeat' (first
    | (refine qbw hS rfl ?_; try cbv)
    | (refine s_ck hS ?_; try cbv)
    | (refine qab hS ?_ ?_ <;> intro h <;> (try cbv) <;> try exact s_ab h)
    | (refine s_ad hS ?_; intro _ _; try cbv)
    | (refine s_sb hS ?_; intro _ _; try cbv)
    | (refine qau hS ?_; intro _ _; try cbv)
    | (refine qae hS ?_; try cbv)
    | (refine qam hS rfl I.qhg (by decide +kernel) ?_; cbv)
    | (refine qbx hS ?_; try cbv)
    | (refine s_lk hS ?_; try cbv)
    | (refine s_mu hS ?_; try cbv)
    | fail)
  refine bsm_t hS (b := [130]) (.cons (.sub (qbc rfl rfl) rfl) (.cons (qir rfl rfl (SubL.fsub (by repeat' (first | exact SubL.nil | refine SubL.cons (qag rfl) ?_))) rfl) .nil)) (by intro v hv; simp at hv; omega) ?_
  cbv
  repeat' (first
    | (refine qbw hS rfl ?_; try cbv)
    | (refine s_ck hS ?_; try cbv)
    | (refine qab hS ?_ ?_ <;> intro h <;> (try cbv) <;> try exact s_ab h)
    | (refine s_ad hS ?_; intro _ _; try cbv)
    | (refine s_sb hS ?_; intro _ _; try cbv)
    | (refine qau hS ?_; intro _ _; try cbv)
    | (refine qae hS ?_; try cbv)
    | (refine qbx hS ?_; try cbv)
    | (refine s_lk hS ?_; try cbv)
    | (refine s_mu hS ?_; try cbv)
    | fail)
  refine bsm_t hS (b := [31, 6, 1, 50]) (.cons (.sub (qbc rfl rfl) rfl) (.cons (qir rfl rfl (SubL.fsub (by repeat' (first | exact SubL.nil | refine SubL.cons (qag rfl) ?_))) rfl) .nil)) (by intro v hv; simp at hv; omega) ?_
  cbv
  repeat' (first
    | (refine qbw hS rfl ?_; try cbv)
    | (refine s_ck hS ?_; try cbv)
    | (refine qab hS ?_ ?_ <;> intro h <;> (try cbv) <;> try exact s_ab h)
    | (refine s_ad hS ?_; intro _ _; try cbv)
    | (refine s_sb hS ?_; intro _ _; try cbv)
    | (refine qau hS ?_; intro _ _; try cbv)
    | (refine qae hS ?_; try cbv)
    | (refine qbx hS ?_; try cbv)
    | (refine s_lk hS ?_; try cbv)
    | (refine s_mu hS ?_; try cbv)
    | fail)
  refine usize_g hS (l := [fa]) (n := 34) (.cons (.sub (qbc rfl rfl) rfl) .nil) (by kernel_rfl) (by decide) ?_
  cbv
  repeat' (first
    | (refine qbw hS rfl ?_; try cbv)
    | (refine s_ck hS ?_; try cbv)
    | (refine qab hS ?_ ?_ <;> intro h <;> (try cbv) <;> try exact s_ab h)
    | (refine s_ad hS ?_; intro _ _; try cbv)
    | (refine s_sb hS ?_; intro _ _; try cbv)
    | (refine qau hS ?_; intro _ _; try cbv)
    | (refine qae hS ?_; try cbv)
    | (refine qbx hS ?_; try cbv)
    | (refine s_lk hS ?_; try cbv)
    | (refine s_mu hS ?_; try cbv)
    | fail)
  refine usame_g hS (o := [fpost]) (o' := [fpost]) (l := []) (l' := []) (lg := false) (lg' := false) (mx := 100) (mx' := 100) (t := true) (decide_eq_true ⟨rfl, rfl, rfl, rfl⟩) (.cons (.sub (qdc (.cons (qbc rfl rfl) (.cons (qca rfl) (.cons (qag rfl) (.cons (qbc rfl rfl) .nil))))) rfl) (.cons (.sub (qdc (.cons (qbc rfl rfl) (.cons (qca rfl) (.cons (qag rfl) (.cons (qbc rfl rfl) .nil))))) rfl) .nil)) (by decide) (by decide) (by decide) (by decide) ?_
  cbv
  repeat' (first
    | (refine qbw hS rfl ?_; try cbv)
    | (refine s_ck hS ?_; try cbv)
    | (refine qab hS ?_ ?_ <;> intro h <;> (try cbv) <;> try exact s_ab h)
    | (refine s_ad hS ?_; intro _ _; try cbv)
    | (refine s_sb hS ?_; intro _ _; try cbv)
    | (refine qau hS ?_; intro _ _; try cbv)
    | (refine qae hS ?_; try cbv)
    | (refine qbx hS ?_; try cbv)
    | (refine s_lk hS ?_; try cbv)
    | (refine s_mu hS ?_; try cbv)
    | fail)
  refine usame_g hS (o := [fpost]) (o' := [fa]) (l := []) (l' := [fa]) (lg := false) (lg' := false) (mx := 100) (mx' := 100) (t := false) (decide_eq_false (by rintro ⟨_, h, _⟩; exact absurd h (by decide))) (.cons (.sub (qdc (.cons (qbc rfl rfl) (.cons (qca rfl) (.cons (qag rfl) (.cons (qbc rfl rfl) .nil))))) rfl) (.cons (.sub (qdc (.cons (qbc rfl rfl) (.cons (qca rfl) (.cons (qag rfl) (.cons (qbc rfl rfl) .nil))))) rfl) .nil)) (by decide) (by decide) (by decide) (by decide) ?_
  cbv
  repeat' (first
    | (refine qbw hS rfl ?_; try cbv)
    | (refine s_ck hS ?_; try cbv)
    | (refine qab hS ?_ ?_ <;> intro h <;> (try cbv) <;> try exact s_ab h)
    | (refine s_ad hS ?_; intro _ _; try cbv)
    | (refine s_sb hS ?_; intro _ _; try cbv)
    | (refine qau hS ?_; intro _ _; try cbv)
    | (refine qae hS ?_; try cbv)
    | (refine qbx hS ?_; try cbv)
    | (refine s_lk hS ?_; try cbv)
    | (refine s_mu hS ?_; try cbv)
    | fail)
  exact qej (by subst hS; rfl)
theorem qme {S : Sy} {bl : List Blk} {K : SV → List Blk → Prop} (hS : S0 Tryd.prog = S) (hK : K .tt bl) : S.call 48 [] bl K := qbe hS uwakes_f .rfl rfl rfl hK
end Pa
end Cz
namespace Cz
open Go Go.RowKit Go.Proofs
namespace Pa
open Tb
theorem blk_ok {mx most : Int} {l : List Fd} {b : List Int} {s : Un} (hR : rightL mx l = true) (h0 : 0 ≤ most) (h1 : most ≤ 4096) (h : goU most ⟨b, mx, l, [], 0⟩ = (0, s)) : blkU (mx, l) most b = ((s.out, decide (2000 < s.size), (s.mx, s.l)), 0) := by
  rw [blk_go, if_pos ⟨hR, h0, h1⟩]
  dsimp only
  rw [h]
  rfl
theorem blk_err {mx most e : Int} {l : List Fd} {b : List Int} {s : Un} (hR : rightL mx l = true) (h0 : 0 ≤ most) (h1 : most ≤ 4096) (h : goU most ⟨b, mx, l, [], 0⟩ = (e, s)) (he : e ≠ 0) : blkU (mx, l) most b = (([], false, (0, [])), e) := by
  rw [blk_go, if_pos ⟨hR, h0, h1⟩]
  dsimp only
  rw [h]
  dsimp only
  rw [if_pos he]
end Pa
end Cz
namespace Cz
open Go Go.RowKit Go.Proofs
namespace Tb
theorem op_i {svs : List SV} (h : pkVs [.i .i64] svs) : ∃ n, svs = [.i .i64 (.y n)] ∧ -9223372036854775808 ≤ n ∧ n ≤ 9223372036854775807 := by
  obtain ⟨x, rfl, h'⟩ := pkVs_one h
  simp only [pkV] at h'
  obtain ⟨n, rfl, h1, h2⟩ := h'
  exact ⟨n, rfl, h1, h2⟩
theorem op_fd' {svs : List SV} (h : pkVs [.s, .s] svs) : ∃ f : Fd, svs = fdE f ∧ ilen f.1 ≤ 140737488355328 ∧ ilen f.2 ≤ 140737488355328 := by
  match svs, h with
  | [], h => simp [pkVs] at h
  | [_], h => simp [pkVs] at h
  | _ :: _ :: _ :: _, h => simp [pkVs] at h
  | [x, y], h =>
    simp only [pkVs, pkV] at h
    obtain ⟨⟨a, rfl, ha⟩, ⟨b, rfl, hb⟩, _⟩ := h
    exact ⟨(a, b), rfl, ha, hb⟩
theorem op_fd {svs : List SV} (h : pkVs [.s, .s] svs) : ∃ a b, svs = [.s a, .s b] ∧ shortL [(a, b)] := by
  obtain ⟨f, rfl, h1, h2⟩ := op_fd' h
  exact ⟨f.1, f.2, rfl, fun g hg => by rw [List.mem_singleton.1 hg]; exact ⟨h1, h2⟩⟩
theorem op_fds' {x : SV} (h : pkV (.sl [.s, .s]) x) : ∃ l : List Fd, x = .v false 2 (cellsF l) (.y (ilen l)) ∧ ilen l ≤ 140737488355328 ∧ shortL l := by
  obtain ⟨l, h1, h2, h3⟩ := pk_rows (ec := fdE) (good := fun f => ilen f.1 ≤ 140737488355328 ∧ ilen f.2 ≤ 140737488355328) (fun svs h => op_fd' h) h
  exact ⟨l, h1, h2, h3⟩
theorem op_tab {svs : List SV} (h : pkVs [.i .i64, .sl [.s, .s]] svs) : ∃ mx l, svs = [.i .i64 (.y mx), .v false 2 (cellsF l) (.y (ilen l))] ∧ -9223372036854775808 ≤ mx ∧ mx ≤ 9223372036854775807 ∧ ilen l ≤ 140737488355328 ∧ shortL l := by
  match svs, h with
  | [], h => simp [pkVs] at h
  | [_], h => simp [pkVs] at h
  | _ :: _ :: _ :: _, h => simp [pkVs] at h
  | [x, y], h =>
    simp only [pkVs] at h
    obtain ⟨h1, h2, _⟩ := h
    simp only [pkV] at h1
    obtain ⟨n, rfl, h3, h4⟩ := h1
    obtain ⟨l, rfl, h5, h6⟩ := op_fds' h2
    exact ⟨n, l, rfl, h3, h4, h5, h6⟩
end Tb
end Cz
