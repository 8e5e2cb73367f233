/- Setting, part E: the contracts used. -/
import Derived.Test.YtpidadlehhcngaaCzT4
namespace Cz
open Go Go.RowKit Go.Proofs
set_option linter.unusedSimpArgs false
set_option linter.unusedVariables false
set_option maxRecDepth 100000
set_option maxHeartbeats 2000000
section
variable {S : Sy} {l : List Blk} {K : SV → List Blk → Prop} {xs : List SV}

theorem eta9 (s : St9) : s = ⟨s.so, s.t, s.w, s.f, s.li, s.to, s.pl, s.o, s.wa⟩ := rfl

theorem take_u (hS : S0 Try.prog = S) {k : Nat} {ro lit : Bool} {st n : Z} {F' : List SV} (hk : is9 xs = true) (ps : List (Int × Int)) (hl : POk ps) (hn : ilen ps = n.v) (hm : n.v < 1000000) (hrow : lget l k = .r ro lit st 2 F')
    (hs : FSub F' (cellsP ps)) (h : ∀ so t w f li to pl o wa fw fs fc e, takeR (st9 xs) ps = ⟨⟨so, t, w, f, li, to, pl, o, wa⟩, fw, fs, fc, e⟩ → K (R3.sv ⟨⟨so, t, w, f, li, to, pl, o, wa⟩, fw, fs, fc, e⟩) l) :
    S.call 8 [.ag xs, .sl k 2 (.l 0) n none] l K :=
  use_read hS (fun _ => k) (take_f (st9 xs) ps hl n.v hn (cellsP ps) rfl hm) (.cons (sub_st9 hk) (.cons (sub_sl rfl rfl) .nil)) (by simp [refsBL, refsB, St9.sv]) ⟨⟨_, _, _, _, _, _, _, _, rfl, cellsP_plain ps, hrow, hs⟩, trivial⟩ rfl
    (h _ _ _ _ _ _ _ _ _ _ _ _ _ rfl)
theorem take2_u (hS : S0 Try.prog = S) {k : Nat} {ro lit : Bool} {st n : Z} {F' : List SV} (hk : is9 xs = true) (ps : List (Int × Int)) (hl : POk ps) (hn : ilen ps = n.v) (hm : n.v < 1000000) (hrow : lget l k = .r ro lit st 2 F')
    (hs : FSub F' (cellsP ps)) (h : ∀ so t w f li to pl o wa fw fs fc e, takeR (st9 xs) ps = ⟨⟨so, t, w, f, li, to, pl, o, wa⟩, fw, fs, fc, e⟩ → K (R3.sv ⟨⟨so, t, w, f, li, to, pl, o, wa⟩, fw, fs, fc, e⟩) l) :
    S.call 9 [.ag xs, .sl k 2 (.l 0) n none] l K :=
  use_read hS (fun _ => k) (take2_f (st9 xs) ps hl n.v hn (cellsP ps) rfl hm) (.cons (sub_st9 hk) (.cons (sub_sl rfl rfl) .nil)) (by simp [refsBL, refsB, St9.sv]) ⟨⟨_, _, _, _, _, _, _, _, rfl, cellsP_plain ps, hrow, hs⟩, trivial⟩ rfl
    (h _ _ _ _ _ _ _ _ _ _ _ _ _ rfl)
/-- The same, of what is known whole. -/
theorem take_l (hS : S0 Try.prog = S) {k : Nat} {ro lt : Bool} {st n : Z} {F' : List SV} (hk : is9 xs = true) (ps : List (Int × Int)) (hl : POk ps) (hn : ilen ps = n.v) (hm : n.v < 1000000) (hrow : lget l k = .r ro lt st 2 F')
    (hs : FSub F' (cellsP ps)) (r : R3) (hr : takeR (st9 xs) ps = r) (h : K (lit r.sv) l) :
    S.call 8 [.ag xs, .sl k 2 (.l 0) n none] l K :=
  use_read hS (fun _ => k) (call_lit (take_f (st9 xs) ps hl n.v hn (cellsP ps) rfl hm)) (.cons (sub_st9 hk) (.cons (sub_sl rfl rfl) .nil)) (by simp [refsBL, refsB, St9.sv]) ⟨⟨_, _, _, _, _, _, _, _, rfl, cellsP_plain ps, hrow, hs⟩, trivial⟩ (refsB_lit _ rfl)
    (hr ▸ h)
theorem take2_k (hS : S0 Try.prog = S) {k : Nat} {ro lit : Bool} {st n : Z} {F' : List SV} (hk : is9 xs = true) (ps : List (Int × Int)) (hl : POk ps) (hn : ilen ps = n.v) (hm : n.v < 1000000) (hrow : lget l k = .r ro lit st 2 F')
    (hs : FSub F' (cellsP ps)) (r : R3) (hr : takeR (st9 xs) ps = r) (h : K r.sv l) : S.call 9 [.ag xs, .sl k 2 (.l 0) n none] l K :=
  use_read hS (fun _ => k) (take2_f (st9 xs) ps hl n.v hn (cellsP ps) rfl hm) (.cons (sub_st9 hk) (.cons (sub_sl rfl rfl) .nil)) (by simp [refsBL, refsB, St9.sv]) ⟨⟨_, _, _, _, _, _, _, _, rfl, cellsP_plain ps, hrow, hs⟩, trivial⟩ rfl
    (hr ▸ h)
theorem ack2_k (hS : S0 Try.prog = S) (hk : is9 xs = true) (r : R3) (hr : ackR (st9 xs) = r) (h : K r.sv l) : S.call 11 [.ag xs] l K :=
  use_val hS (ack2_f (st9 xs)) (.cons (sub_st9 hk) .nil) rfl rfl (hr ▸ h)
theorem paid2_k (hS : S0 Try.prog = S) (hk : is9 xs = true) (r : St9 × Bool) (hr : paidR (st9 xs) = r) (h : K (pdSv r) l) : S.call 13 [.ag xs] l K :=
  use_val hS (paid2_f (st9 xs)) (.cons (sub_st9 hk) .nil) rfl rfl (hr ▸ h)
theorem right_k (hS : S0 Try.prog = S) (hk : is9 xs = true) (b : Bool) (hr : rightB (st9 xs) = b) (h : K (.b b) l) : S.call 19 [.ag xs] l K :=
  use_val hS (right_f (st9 xs)) (.cons (sub_st9 hk) .nil) rfl rfl (hr ▸ h)
theorem right2_k (hS : S0 Try.prog = S) (hk : is9 xs = true) (b : Bool) (hr : rightB (st9 xs) = b) (h : K (.b b) l) : S.call 20 [.ag xs] l K :=
  use_val hS (right2_f (st9 xs)) (.cons (sub_st9 hk) .nil) rfl rfl (hr ▸ h)
theorem ack_u (hS : S0 Try.prog = S) (hk : is9 xs = true) (h : ∀ so t w f li to pl o wa fw fs fc e, ackR (st9 xs) = ⟨⟨so, t, w, f, li, to, pl, o, wa⟩, fw, fs, fc, e⟩ → K (R3.sv ⟨⟨so, t, w, f, li, to, pl, o, wa⟩, fw, fs, fc, e⟩) l) :
    S.call 10 [.ag xs] l K :=
  use_val hS (ack_f (st9 xs)) (.cons (sub_st9 hk) .nil) rfl rfl (h _ _ _ _ _ _ _ _ _ _ _ _ _ rfl)
theorem ack2_u (hS : S0 Try.prog = S) (hk : is9 xs = true) (h : ∀ so t w f li to pl o wa fw fs fc e, ackR (st9 xs) = ⟨⟨so, t, w, f, li, to, pl, o, wa⟩, fw, fs, fc, e⟩ → K (R3.sv ⟨⟨so, t, w, f, li, to, pl, o, wa⟩, fw, fs, fc, e⟩) l) :
    S.call 11 [.ag xs] l K :=
  use_val hS (ack2_f (st9 xs)) (.cons (sub_st9 hk) .nil) rfl rfl (h _ _ _ _ _ _ _ _ _ _ _ _ _ rfl)
theorem ack_l (hS : S0 Try.prog = S) (hk : is9 xs = true) (r : R3) (hr : ackR (st9 xs) = r) (h : K (lit r.sv) l) : S.call 10 [.ag xs] l K :=
  use_val hS (call_lit (ack_f (st9 xs))) (.cons (sub_st9 hk) .nil) rfl (refsB_lit _ rfl) (hr ▸ h)
theorem paid_u (hS : S0 Try.prog = S) (hk : is9 xs = true) (h : ∀ so t w f li to pl o wa b, paidR (st9 xs) = (⟨so, t, w, f, li, to, pl, o, wa⟩, b) → K (pdSv (⟨so, t, w, f, li, to, pl, o, wa⟩, b)) l) :
    S.call 12 [.ag xs] l K :=
  use_val hS (paid_f (st9 xs)) (.cons (sub_st9 hk) .nil) rfl rfl (h _ _ _ _ _ _ _ _ _ _ rfl)
theorem paid2_u (hS : S0 Try.prog = S) (hk : is9 xs = true) (h : ∀ so t w f li to pl o wa b, paidR (st9 xs) = (⟨so, t, w, f, li, to, pl, o, wa⟩, b) → K (pdSv (⟨so, t, w, f, li, to, pl, o, wa⟩, b)) l) :
    S.call 13 [.ag xs] l K :=
  use_val hS (paid2_f (st9 xs)) (.cons (sub_st9 hk) .nil) rfl rfl (h _ _ _ _ _ _ _ _ _ _ rfl)
theorem paid_l (hS : S0 Try.prog = S) (hk : is9 xs = true) (r : St9 × Bool) (hr : paidR (st9 xs) = r) (h : K (lit (pdSv r)) l) : S.call 12 [.ag xs] l K :=
  use_val hS (call_lit (paid_f (st9 xs))) (.cons (sub_st9 hk) .nil) rfl (refsB_lit _ rfl) (hr ▸ h)
theorem right_l (hS : S0 Try.prog = S) (hk : is9 xs = true) (b : Bool) (hr : rightB (st9 xs) = b) (h : K (ofB b) l) : S.call 19 [.ag xs] l K :=
  use_val hS (call_lit (right_f (st9 xs))) (.cons (sub_st9 hk) .nil) rfl (refsB_lit _ rfl) (by rw [hr]; exact h)
theorem fits_l (hS : S0 Try.prog = S) {a b c : Z} (x : Bool) (hr : fitsB a.v b.v c.v = x) (h : K (ofB x) l) : S.call 17 [.ag [.i .i64 a, .i .i64 b, .i .i64 c]] l K :=
  fits_u hS (fun e => by rw [hr] at e; subst e; exact h) (fun e => by rw [hr] at e; subst e; exact h)
theorem pairs_u (hS : S0 Try.prog = S) {k k' : Nat} {ro lt ro' lt' : Bool} {st st' n n' : Z} {F' G' : List SV} (ps qs : List (Int × Int)) (hn : ilen ps = n.v) (hn' : ilen qs = n'.v) (hm : n.v < 1000000) (hm' : n'.v < 1000000)
    (hrow : lget l k = .r ro lt st 2 F') (hrow' : lget l k' = .r ro' lt' st' 2 G') (hs : FSub F' (cellsP ps)) (hs' : FSub G' (cellsP qs)) (h1 : ps = qs → K .tt l) (h2 : ¬ ps = qs → K .ff l) :
    S.call 16 [.sl k 2 (.l 0) n none, .sl k' 2 (.l 0) n' none] l K := by
  refine use_read hS (fun j => match j with | 0 => k | _ => k') (call_lit (pairs_f ps qs n.v n'.v hn hn' (cellsP ps) (cellsP qs) rfl rfl hm hm')) (.cons (sub_sl rfl rfl) (.cons (sub_sl rfl rfl) .nil)) (by simp [refsBL, refsB])
    ⟨⟨_, _, _, _, _, _, _, _, rfl, cellsP_plain ps, hrow, hs⟩, ⟨_, _, _, _, _, _, _, _, rfl, cellsP_plain qs, hrow', hs'⟩, trivial⟩ (refsB_lit _ rfl) ?_
  by_cases h : ps = qs
  · rw [show decide (ps = qs) = true from decide_eq_true h]; exact h1 h
  · rw [show decide (ps = qs) = false from decide_eq_false h]; exact h2 h
theorem last_u (hS : S0 Try.prog = S) {k : Nat} {ro lit : Bool} {st n id : Z} {F' : List SV} (ps : List (Int × Int)) (hl : POk ps) (hn : ilen ps = n.v) (hm : n.v < 1000000) (hrow : lget l k = .r ro lit st 2 F')
    (hs : FSub F' (cellsP ps)) (h1 : ∀ v, lastR ps id.v = some v → K (.tp [.i .u32 (.y v), .tt]) l) (h2 : lastR ps id.v = none → K (.tp [.i .u32 (.l 0), .ff]) l) :
    S.call 25 [.sl k 2 (.l 0) n none, .i .u16 id] l K := by
  refine use_read hS (fun _ => k) (last_f ps hl n.v id.v hn (cellsP ps) rfl hm) (.cons (sub_sl rfl rfl) (.cons (sub_i rfl) .nil)) (by simp [refsBL, refsB]) ⟨⟨_, _, _, _, _, _, _, _, rfl, cellsP_plain ps, hrow, hs⟩, trivial⟩ ?_ ?_
  · cases lastR ps id.v <;> rfl
  · cases h : lastR ps id.v
    · exact h2 h
    · exact h1 _ h
/-- A call with a nil slice behind settings. -/
theorem nil_u (hS : S0 Try.prog = S) {g : FuncId} (hk : is9 xs = true) (h : (S0 Try.prog).call g [(st9 xs).sv, .sl (len l) 2 (.l 0) (.l 0) none] (snoc l (.r true true (.l 0) 2 [])) K) : S.call g [.ag xs, .re (.slice none 0 0)] l K := by
  subst hS
  refine call_sub (args' := [(st9 xs).sv, .re (.slice none 0 0)]) (.cons (sub_st9 hk) (.cons .rfl .nil)) (call_ghost (sz := 2) (by decide) ?_ rfl h)
  intro ρ vs hρ hd
  match vs, hd with
  | [v, u], hd =>
    simp only [denL, den] at hd ⊢
    refine ⟨hd.1, ⟨by simp [Z.v], by simp [Z.v], ⟨none, 0, 0⟩, by rw [hρ]; simp, by simp [Z.v], ?_⟩, trivial⟩
    rw [hd.2.1.1]
    exact ⟨by simp [Z.v], by simp [Z.v], none, rfl⟩
end
end Cz
