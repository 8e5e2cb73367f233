/- What the claims of this group lean on, part 6: our engine, the functions' simplified codes, their contracts. No condition. -/
import Derived.Test.YtdbnbknghhpbiaaDoorKTb5
namespace Cz
open Go Go.RowKit Go.Proofs
set_option linter.unusedSimpArgs false
set_option linter.unusedVariables false
namespace Tb
theorem op_i {svs : List SV} (h : pkVs [.i .i64] svs) : ∃ n, svs = [.i .i64 (.y n)] ∧ -9223372036854775808 ≤ n ∧ n ≤ 9223372036854775807 := by
  obtain ⟨x, rfl, h'⟩ := pkVs_one h
  simp only [pkV] at h'
  obtain ⟨n, rfl, h1, h2⟩ := h'
  exact ⟨n, rfl, h1, h2⟩
theorem op_fd' {svs : List SV} (h : pkVs [.s, .s] svs) : ∃ f : Fd, svs = fdE f ∧ ilen f.1 ≤ 140737488355328 ∧ ilen f.2 ≤ 140737488355328 := by
  match svs, h with
  | [], h => simp [pkVs] at h
  | [_], h => simp [pkVs] at h
  | _ :: _ :: _ :: _, h => simp [pkVs] at h
  | [x, y], h =>
    simp only [pkVs, pkV] at h
    obtain ⟨⟨a, rfl, ha⟩, ⟨b, rfl, hb⟩, _⟩ := h
    exact ⟨(a, b), rfl, ha, hb⟩
theorem op_fd {svs : List SV} (h : pkVs [.s, .s] svs) : ∃ a b, svs = [.s a, .s b] ∧ shortL [(a, b)] := by
  obtain ⟨f, rfl, h1, h2⟩ := op_fd' h
  exact ⟨f.1, f.2, rfl, fun g hg => by rw [List.mem_singleton.1 hg]; exact ⟨h1, h2⟩⟩
theorem op_fds' {x : SV} (h : pkV (.sl [.s, .s]) x) : ∃ l : List Fd, x = .v false 2 (cellsF l) (.y (ilen l)) ∧ ilen l ≤ 140737488355328 ∧ shortL l := by
  obtain ⟨l, h1, h2, h3⟩ := pk_rows (ec := fdE) (good := fun f => ilen f.1 ≤ 140737488355328 ∧ ilen f.2 ≤ 140737488355328) (fun svs h => op_fd' h) h
  exact ⟨l, h1, h2, h3⟩
theorem op_tab {svs : List SV} (h : pkVs [.i .i64, .sl [.s, .s]] svs) : ∃ mx l, svs = [.i .i64 (.y mx), .v false 2 (cellsF l) (.y (ilen l))] ∧ -9223372036854775808 ≤ mx ∧ mx ≤ 9223372036854775807 ∧ ilen l ≤ 140737488355328 ∧ shortL l := by
  match svs, h with
  | [], h => simp [pkVs] at h
  | [_], h => simp [pkVs] at h
  | _ :: _ :: _ :: _, h => simp [pkVs] at h
  | [x, y], h =>
    simp only [pkVs] at h
    obtain ⟨h1, h2, _⟩ := h
    simp only [pkV] at h1
    obtain ⟨n, rfl, h3, h4⟩ := h1
    obtain ⟨l, rfl, h5, h6⟩ := op_fds' h2
    exact ⟨n, l, rfl, h3, h4, h5, h6⟩
end Tb
end Cz
