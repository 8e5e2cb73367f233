/- The engine, part G: each operation does what its condition says (moves, variables, reading, writing, calls). No condition. -/
import Derived.Test.YtjnpmipoenijdaaCzF
namespace Cz
open Go Go.RowKit
set_option linter.unusedSimpArgs false
set_option linter.unusedVariables false

section
variable {P : Program} {N : Nat} {W0 W : World} {ρ : Nms} {l : List Blk} {vs : List SV} {a : Act} {K : SV → List Blk → Prop} {o : Oper}

theorem brv_ok {x : SV} {v : Value} {k1 k2 : Unit → Prop} (h : brv (S0 P) x k1 k2) (hd : den ρ x v) : ∃ b, v = .bool b ∧ (b = true → k1 ()) ∧ (b = false → k2 ()) := by
  cases x <;> simp only [brv] at h <;> try exact h.elim
  case tt => simp only [den] at hd; exact ⟨true, hd, fun _ => h, (fun e => by cases e)⟩
  case ff => simp only [den] at hd; exact ⟨false, hd, (fun e => by cases e), fun _ => h⟩
  case b x => simp only [den] at hd; exact ⟨x, hd, h.1, h.2⟩

/-- What the operation o comes to when its condition holds. -/
def Sound (P : Program) (o : Oper) (ao : AOp) : Prop :=
  ∀ (N : Nat) (W0 W : World) (ρ : Nms) (l : List Blk) (vs : List SV) (a : Act) (K : SV → List Blk → Prop),
    vop (S0 P) ao vs l K → Rel P N W0 ρ l W → EnvOk ρ vs a.tmps → OpRuns P o a W (OpPost P N W0 ρ l K)

theorem s_move {x : Operand} {x' : Opd} (ho : o.op = .move x ∨ o.op = .assign x) (hx : cOpd x = some x') : Sound P o (.mv x') := by
  intro N W0 W ρ l vs a K h hR hE
  rcases ho with ho | ho
  · exact .val (v := a.eval x) (W' := W) (by simp [ho, isDefer]) (by simp [execOp, ho]) (post_same hR h (ev_ok hE hx))
  · exact .val (v := a.eval x) (W' := W) (by simp [ho, isDefer]) (by simp [execOp, ho]) (post_same hR h (ev_ok hE hx))

theorem s_pick {c x y : Operand} {c' x' y' : Opd} (ho : o.op = .pick c x y) (hc : cOpd c = some c') (hx : cOpd x = some x') (hy : cOpd y = some y') : Sound P o (.pick c' x' y') := by
  intro N W0 W ρ l vs a K h hR hE
  simp only [vop] at h
  obtain ⟨b, hb, h1, h2⟩ := brv_ok h (ev_ok hE hc)
  cases b with
  | true => exact .val (v := a.eval x) (W' := W) (by simp [ho, isDefer]) (by simp [execOp, ho, hb, asBool]) (post_same hR (h1 rfl) (ev_ok hE hx))
  | false => exact .val (v := a.eval y) (W' := W) (by simp [ho, isDefer]) (by simp [execOp, ho, hb, asBool]) (post_same hR (h2 rfl) (ev_ok hE hy))

theorem den_new {k : Nat} {b n cap : Nat} {ρ : Nms} : den (upd ρ k [⟨some ⟨b, 0, none⟩, n, cap⟩]) (.p k 0) (.pointer (some ⟨b, 0, none⟩)) := by
  simp only [den]
  exact ⟨_, by rw [upd_same]; exact List.mem_singleton.2 rfl, _, rfl, rfl⟩

theorem run_new {o : Obj} : (newObj o).run P W = .ok W.heap.size (W.alloc o) := by simp [newObj, Sem.run]

theorem s_alloc {t : TypeId} {cs : List SV} (ho : o.op = .alloc t) (hz : zeroOf P t = some cs) : Sound P o (.alloc cs) := by
  intro N W0 W ρ l vs a K h hR hE
  obtain ⟨i, z, hi, hz', hd⟩ := zeroOf_ok hz
  simp only [vop, len_eq, snoc_eq] at h
  refine .val (v := .pointer (some ⟨W.heap.size, 0, none⟩)) (W' := W.alloc (.cells z.cells t)) (by simp [ho, isDefer]) ?_
    ⟨_, _, _, h, le_new hR _, by simp, hR.newC t (hd ρ), den_new⟩
  simp [execOp, ho, Instr.alloc, run_zeroValue hi hz', newVar, newRow]

theorem s_box {t : TypeId} {x : Operand} {x' : Opd} (ho : o.op = .box t x) (hx : cOpd x = some x') : Sound P o (.box x') := by
  intro N W0 W ρ l vs a K h hR hE
  have hd := ev_ok hE hx
  simp only [vop, len_eq, snoc_eq] at h
  split at h
  · rename_i cs hcs
    split at h
    · refine .val (v := .pointer (some ⟨W.heap.size, 0, none⟩)) (W' := W.alloc (.cells (a.eval x).cells t)) (by simp [ho, isDefer]) ?_
        ⟨_, _, _, h, le_new hR _, by simp, hR.newC t (cells_ok hcs hd), den_new⟩
      simp [execOp, ho, Instr.box, newVar, newRow]
    · exact h.elim
  · exact h.elim

/-- A stretch of a known row. -/
theorem view_cells {F : List SV} {vw : View} (h : ViewOk W ρ F vw) {ad : Addr} (hb : vw.base = some ad) {off n : Nat} (hn : off + n ≤ vw.n) :
    ∀ (q : Nat) (x : SV), ((F.drop off).take n)[q]? = some x → ∃ v, W.cell? ⟨ad.block, ad.off + off + q, none⟩ = some v ∧ den ρ x v := by
  intro q x hx
  rw [List.getElem?_take] at hx
  split at hx
  · rw [List.getElem?_drop] at hx
    obtain ⟨a', v, e, c, d⟩ := h.2.2 (off + q) x (by omega) hx
    rw [hb] at e; simp at e; subst e
    exact ⟨v, by rw [Nat.add_assoc]; exact c, d⟩
  · cases hx

theorem mem_one {vw vw' : View} {ρ : Nms} {k : Nat} (e : ρ k = [vw']) (h : vw ∈ ρ k) : vw = vw' := by
  rw [e] at h; exact List.mem_singleton.1 h

theorem load_ok {agg : Bool} {n : Nat} {t : TypeId} {x : SV} {v : Value} {K : SV → Prop} (ha : aggOf P t = some agg) (hn : szOf P t = some n) (hR : Rel P N W0 ρ l W)
    (h : vload (S0 P) l agg n x K) (hd : den ρ x v) : ∃ u sv, (Instr.loadAt t v).run P W = .ok u W ∧ K sv ∧ den ρ sv u := by
  have go : ∀ (F : List SV) (vw : View) (ad : Addr) (off : Nat) (sv : SV), ViewOk W ρ F vw → vw.base = some ad → off + n ≤ vw.n → mkv agg ((F.drop off).take n) = some sv → K sv →
      v = .pointer (some ⟨ad.block, ad.off + off, none⟩) → ∃ u sv, (Instr.loadAt t v).run P W = .ok u W ∧ K sv ∧ den ρ sv u := by
    intro F vw ad off sv hv hb hle hm hK hve
    have hlen : ((F.drop off).take n).length = n := by
      have := hv.1
      simp; omega
    obtain ⟨u, hu, du⟩ := run_loadVar ha hn hlen (view_cells hv hb hle) hm
    exact ⟨u, sv, by rw [hve]; simp [Instr.loadAt, Instr.sureAddr, hu], hK, du⟩
  unfold vload at h
  split at h
  · rename_i k off
    simp only [den] at hd
    obtain ⟨vw, hvw, ad, hb, hve⟩ := hd
    split at h
    · rename_i cs hcs
      split at h
      · rename_i hle
        split at h
        · rename_i sv hm
          obtain ⟨b, e, hv, _⟩ := hR.blk k _ (lget_some hcs (by simp))
          obtain rfl := mem_one e hvw
          rw [dropS_eq, takeS_eq] at hm
          rw [lenS_eq] at hle
          exact go cs _ ad off sv hv hb hle hm h hve
        · exact h.elim
      · exact h.elim
    · exact h.elim
  · rename_i k i sz j
    simp only [den] at hd
    obtain ⟨h0, vw, hvw, ad, hb, hin, hve⟩ := hd
    split at h
    · rename_i ro lit st sz' F hF
      obtain ⟨hsz0, hvs, _, _⟩ := hR.blk k _ (lget_some hF (by simp))
      have hv := hvs vw hvw
      split at h
      · split at h
        · split at h
          · rename_i hle
            split at h
            · rename_i sv hm
              rw [dropS_eq, takeS_eq] at hm
              refine go F vw ad _ sv hv hb ?_ hm h hve
              have h3 : ∀ m : Nat, (m + 1) * sz = m * sz + sz := fun m => by rw [Nat.add_mul, Nat.one_mul]
              simp only [Z.v, h3] at hin
              omega
            · exact h.elim
          · exact h.elim
        · obtain ⟨_, _, hj, sv, hm, hK⟩ := h
          refine go F vw ad _ sv hv hb ?_ hm hK hve
          have : (i.v.toNat + 1) * sz = i.v.toNat * sz + sz := by rw [Nat.add_mul, Nat.one_mul]
          omega
      · exact h.elim
    · rename_i cs hcs
      obtain ⟨b, e, hv, _⟩ := hR.blk k _ (lget_some hcs (by simp))
      obtain rfl := mem_one e hvw
      split at h
      · rename_i i'
        split at h
        · rename_i hle
          split at h
          · rename_i sv hm
            rw [dropS_eq, takeS_eq] at hm
            rw [lenS_eq] at hle
            exact go cs _ ad _ sv hv hb hle hm h hve
          · exact h.elim
        · exact h.elim
      · rename_i i'
        obtain ⟨_, hl, hj, sv, hm, hK⟩ := h
        refine go cs _ ad _ sv hv hb ?_ hm hK hve
        have : (i'.toNat + 1) * sz = i'.toNat * sz + sz := by rw [Nat.add_mul, Nat.one_mul]
        show i'.toNat * sz + j + n ≤ cs.length
        omega
    · exact h.elim
  · exact h.elim

theorem s_load {t : TypeId} {x : Operand} {x' : Opd} {agg : Bool} {n : Nat} (ho : o.op = .load t x) (hx : cOpd x = some x') (ha : aggOf P t = some agg) (hn : szOf P t = some n) :
    Sound P o (.load agg n x') := by
  intro N W0 W ρ l vs a K h hR hE
  obtain ⟨u, sv, hu, hK, hd⟩ := load_ok ha hn hR h (ev_ok hE hx)
  exact .val (v := u) (W' := W) (by simp [ho, isDefer]) (by simp [execOp, ho, hu]) (post_same hR hK hd)

theorem s_nilc {x : Operand} {x' : Opd} (ho : o.op = .nilCheck x) (hx : cOpd x = some x') : Sound P o (.nilc x') := by
  intro N W0 W ρ l vs a K h hR hE
  have hd := ev_ok hE hx
  simp only [vop] at h
  split at h
  · rename_i k off he
    rw [he] at hd
    have hd' := hd
    simp only [den] at hd
    obtain ⟨vw, _, ad, _, hve⟩ := hd
    exact .val (v := a.eval x) (W' := W) (by simp [ho, isDefer]) (by simp [execOp, ho, hve]) (post_same hR h hd')
  · rename_i k i sz j he
    rw [he] at hd
    have hd' := hd
    simp only [den] at hd
    obtain ⟨_, vw, _, ad, _, _, hve⟩ := hd
    exact .val (v := a.eval x) (W' := W) (by simp [ho, isDefer]) (by simp [execOp, ho, hve]) (post_same hR h hd')
  · rename_i f fi c he
    rw [he] at hd
    have hd' := hd
    simp only [den] at hd
    obtain ⟨as, cs, hve, _, _⟩ := hd
    exact .val (v := a.eval x) (W' := W) (by simp [ho, isDefer]) (by simp [execOp, ho, hve]) (post_same hR h hd')
  · rename_i k he
    rw [he] at hd
    have hd' := hd
    simp only [den] at hd
    obtain ⟨vw, _, ad, _, hve⟩ := hd
    exact .val (v := a.eval x) (W' := W) (by simp [ho, isDefer]) (by simp [execOp, ho, hve]) (post_same hR h hd')
  · exact h.elim

theorem s_ext {x : Operand} {x' : Opd} {n : Nat} (ho : o.op = .extract x n) (hx : cOpd x = some x') : Sound P o (.ext x' n) := by
  intro N W0 W ρ l vs a K h hR hE
  have hd := ev_ok hE hx
  simp only [vop] at h
  split at h
  · rename_i ws he
    rw [he] at hd
    simp only [den] at hd
    obtain ⟨us, hve, d⟩ := hd
    split at h
    · rename_i hn
      rw [lenS_eq] at hn
      obtain ⟨v, hv, dv⟩ := denL_get n ws[n] d (List.getElem?_eq_getElem hn)
      refine .val (v := v) (W' := W) (by simp [ho, isDefer]) ?_ (post_same hR h ?_)
      · have hv' : us[n]? = some v := by simpa using hv
        simp [execOp, ho, Instr.extract, hve, hv']
      · rw [nth_eq, List.getD_eq_getElem?_getD, List.getElem?_eq_getElem hn]; exact dv
    · exact h.elim
  · exact h.elim

theorem s_not {t : TypeId} {x : Operand} {x' : Opd} (ho : o.op = .unOp .not t x) (hx : cOpd x = some x') : Sound P o (.not x') := by
  intro N W0 W ρ l vs a K h hR hE
  have hd := ev_ok hE hx
  simp only [vop] at h
  split at h
  · rename_i he
    rw [he] at hd; simp only [den] at hd
    exact .val (v := .bool false) (W' := W) (by simp [ho, isDefer]) (by simp [execOp, ho, hd, Op.unary]) (post_same hR h (by simp [den]))
  · rename_i he
    rw [he] at hd; simp only [den] at hd
    exact .val (v := .bool true) (W' := W) (by simp [ho, isDefer]) (by simp [execOp, ho, hd, Op.unary]) (post_same hR h (by simp [den]))
  · rename_i b he
    rw [he] at hd; simp only [den] at hd
    exact .val (v := .bool (!b)) (W' := W) (by simp [ho, isDefer]) (by simp [execOp, ho, hd, Op.unary]) (post_same hR h (by simp [den, S0]))
  · exact h.elim

theorem s_mkF {g : FuncId} {fi c : Array Operand} {fi' c' : List Opd} (ho : o.op = .makeFunc (.func g) fi c) (hf : cOpds fi.toList = some fi') (hc : cOpds c.toList = some c') :
    Sound P o (.mkF (.func g) fi' c') := by
  intro N W0 W ρ l vs a K h hR hE
  refine .val (v := .func (.func g) (fi.map a.eval) (c.map a.eval)) (W' := W) (by simp [ho, isDefer]) (by simp [execOp, ho, Instr.makeFunc]) (post_same hR h ?_)
  simp only [den]
  exact ⟨_, _, rfl, by simpa using evs_ok hE hf, by simpa using evs_ok hE hc⟩

theorem s_fad {t : TypeId} {x : Operand} {x' : Opd} {f n : Nat} {fs : Array Field} {g : Field} (ho : o.op = .fieldAddr t x f) (hx : cOpd x = some x') (ht : P.underlying t = some (.struct fs))
    (hg : fs[f]? = some g) (hn : szOf P g.type = some n) (h0 : n ≠ 0) : Sound P o (.fad g.offset x') := by
  intro N W0 W ρ l vs a K h hR hE
  have hd := ev_ok hE hx
  have run : ∀ b q, a.eval x = .pointer (some ⟨b, q, none⟩) → (execOp a.eval o).run P W = .ok (.value (.pointer (some ⟨b, q + g.offset, none⟩))) W := by
    intro b q he
    have : (fieldPlace (⟨b, q, none⟩ : Addr) g).run P W = .ok ⟨b, q + g.offset, none⟩ W := by
      simp [fieldPlace, run_sizeOf hn, h0, addr_add]
    simp [execOp, ho, Instr.fieldAt, run_underlying ht, hg, Instr.sureAddr, he, this]
  simp only [vop] at h
  split at h
  · rename_i k off he
    rw [he] at hd; simp only [den] at hd
    obtain ⟨vw, hvw, ad, hb, hve⟩ := hd
    refine .val (by simp [ho, isDefer]) (run _ _ hve) (post_same hR h ?_)
    simp only [den]
    exact ⟨vw, hvw, ad, hb, by rw [Nat.add_assoc]⟩
  · rename_i k i sz j he
    rw [he] at hd; simp only [den] at hd
    obtain ⟨hi, vw, hvw, ad, hb, hin, hve⟩ := hd
    refine .val (by simp [ho, isDefer]) (run _ _ hve) (post_same hR h ?_)
    simp only [den]
    exact ⟨hi, vw, hvw, ad, hb, hin, by rw [Nat.add_assoc, Nat.add_assoc]⟩
  · exact h.elim

theorem den_sl_shape {ρ : Nms} {k sz : Nat} {off ln : Z} {cap : Option Z} {v : Value} (hd : den ρ (.sl k sz off ln cap) v) : ∃ b c, v = .slice b ln.v.toNat c ∧ 0 ≤ off.v ∧ 0 ≤ ln.v := by
  simp only [den] at hd
  obtain ⟨h0, h1, vw, _, _, hs⟩ := hd
  unfold SlVal at hs
  split at hs
  · obtain ⟨_, e0, a', e⟩ := hs; exact ⟨_, _, by rw [e0]; exact e, h0, h1⟩
  · rcases hs with ⟨c, e, _⟩ | ⟨e0, ⟨a', e⟩, _⟩
    · exact ⟨_, _, e, h0, h1⟩
    · exact ⟨_, _, by rw [e0]; exact e, h0, h1⟩

theorem s_len {c : Call} {t : TypeId} {x : Operand} {x' : Opd} {str : Bool} (ho : o.op = .call c) (hcal : c.callee = .builtin .len) (ht0 : c.argTypes[0]? = some t) (hx0 : c.args[0]? = some x)
    (ht : if str then P.underlying t = some .string else ∃ e, P.underlying t = some (.slice e)) (hx : cOpd x = some x') : Sound P o (.len str x') := by
  intro N W0 W ρ l vs a K h hR hE
  have hd := ev_ok hE hx
  have hsl : ∀ b n cp, str = false → a.eval x = .slice b n cp → (execOp a.eval o).run P W = .ok (.value (.int .i64 n)) W := by
    intro b n cp hs e1
    subst hs
    simp only [Bool.false_eq_true, if_false] at ht
    obtain ⟨e, ht⟩ := ht
    simp [execOp, ho, resolve, hcal, invoke, builtin, Builtin.len_, ht0, hx0, e1, run_underlying ht, goInt]
  simp only [vop] at h
  split at h
  · rename_i k sz off ln cap he
    rw [he] at hd
    obtain ⟨b, cp, e1, _, h1⟩ := den_sl_shape hd
    refine .val (by simp [ho, isDefer]) (hsl _ _ _ rfl e1) (post_same hR h ?_)
    simp only [den]
    rw [Int.toNat_of_nonneg h1]
  · rename_i cp he
    rw [he] at hd
    simp only [den] at hd
    refine .val (by simp [ho, isDefer]) (hsl _ _ _ rfl hd.1) (post_same hR h ?_)
    simp [den, Z.v]
  · rename_i s he
    rw [he] at hd
    simp only [den] at hd
    simp only [if_true] at ht
    refine .val (v := .int .i64 s.length) (W' := W) (by simp [ho, isDefer]) ?_ (post_same hR h (by simp [den, Z.v, S0]))
    have hs : (ByteArray.mk s.toArray).size = s.length := by show s.toArray.size = s.length; simp
    simp [execOp, ho, resolve, hcal, invoke, builtin, Builtin.len_, ht0, hx0, hd, run_underlying ht, goInt, hs]
  · exact h.elim

/-- A call of a function or of a loop's round. -/
theorem s_call {c : Call} {f : Operand} {f' : Opd} {args' : List Opd} (ho : o.op = .call c) (hcal : c.callee = .value f) (hf : cOpd f = some f') (ha : cOpds c.args.toList = some args') :
    Sound P o (.call f' args') := by
  intro N W0 W ρ l vs a K h hR hE
  have hd := ev_ok hE hf
  have hargs : denL ρ (evs vs args') (c.args.map a.eval).toList := by simpa using evs_ok hE ha
  simp only [vop] at h
  obtain ⟨cal, args, tys⟩ := c
  simp only at hcal; subst hcal
  split at h
  · rename_i g fi ca he
    rw [he] at hd
    simp only [den] at hd
    obtain ⟨as, cs, hve, d1, d2⟩ := hd
    refine ⟨by simp [ho, isDefer], ?_⟩
    have hrun := run_callAny (P := P) (ops := args) (tys := tys) (ty := o.type) hve W
    have : (execOp a.eval o).run P W = (callFunc g (as ++ args.map a.eval ++ cs)).run P W := by
      rw [← hrun]; simp only [execOp, ho]
    rw [this]
    simp only [catS_eq] at h
    refine h N W0 ρ W _ hR ?_
    have := denL_append d1 (denL_append hargs d2)
    simpa [List.append_assoc] using this
  · rename_i k he
    rw [he] at hd
    simp only [den] at hd
    obtain ⟨vw, hvw, ad, hb, hve⟩ := hd
    refine ⟨by simp [ho, isDefer], ?_⟩
    have : (execOp a.eval o).run P W = (Instr.yield ad.block (args.map a.eval)).run P W := by
      simp [execOp, ho, resolve, hve, Deferred.ofValue, invoke]
    rw [this]
    exact h N W0 ρ W _ ad.block hR hargs ⟨vw, hvw, ad, hb, rfl⟩
  · exact h.elim
end
end Cz
