/- Setting, part H: arguments opened. -/
import Derived.Test.YtpidadlehhcngaaCzT7
import Derived.Test.YtpidadlehhcngaaCzFr
namespace Cz
open Go Go.RowKit Go.Proofs
set_option linter.unusedSimpArgs false
set_option linter.unusedVariables false
def ks9 : List Pk := [.b, .i .i64, .i .i64, .i .i64, .i .i64, .b, .b, .i .i64, .i .i64]
def St9.In (s : St9) : Prop := (lo .i64 ≤ s.t ∧ s.t ≤ hi .i64) ∧ (lo .i64 ≤ s.w ∧ s.w ≤ hi .i64) ∧ (lo .i64 ≤ s.f ∧ s.f ≤ hi .i64) ∧ (lo .i64 ≤ s.li ∧ s.li ≤ hi .i64) ∧ (lo .i64 ≤ s.o ∧ s.o ≤ hi .i64) ∧ (lo .i64 ≤ s.wa ∧ s.wa ≤ hi .i64)
theorem pkVs_cons {k : Pk} {ks : List Pk} {xs : List SV} (h : pkVs (k :: ks) xs) : ∃ x xs', xs = x :: xs' ∧ pkV k x ∧ pkVs ks xs' := by
  cases xs with
  | nil => exact h.elim
  | cons x xs => exact ⟨x, xs, rfl, h.1, h.2⟩
theorem pkVs_nil {xs : List SV} (h : pkVs [] xs) : xs = [] := by
  cases xs with
  | nil => rfl
  | cons x xs => exact h.elim
theorem pk9 {svs : List SV} (h : pkVs ks9 svs) : ∃ s : St9, SV.ag svs = s.sv ∧ s.In := by
  obtain ⟨_, _, rfl, hxa, ha⟩ := pkVs_cons h
  obtain ⟨a, rfl⟩ := hxa
  obtain ⟨_, _, rfl, hxb, hb⟩ := pkVs_cons ha
  obtain ⟨b, rfl, eb⟩ := hxb
  obtain ⟨_, _, rfl, hxc, hc⟩ := pkVs_cons hb
  obtain ⟨c, rfl, ec⟩ := hxc
  obtain ⟨_, _, rfl, hxd, hd⟩ := pkVs_cons hc
  obtain ⟨d, rfl, ed⟩ := hxd
  obtain ⟨_, _, rfl, hxe, he⟩ := pkVs_cons hd
  obtain ⟨e, rfl, ee⟩ := hxe
  obtain ⟨_, _, rfl, hxf, hf⟩ := pkVs_cons he
  obtain ⟨f, rfl⟩ := hxf
  obtain ⟨_, _, rfl, hxg, hg⟩ := pkVs_cons hf
  obtain ⟨g, rfl⟩ := hxg
  obtain ⟨_, _, rfl, hxi, hi⟩ := pkVs_cons hg
  obtain ⟨i, rfl, ei⟩ := hxi
  obtain ⟨_, _, rfl, hxj, hj⟩ := pkVs_cons hi
  obtain ⟨j, rfl, ej⟩ := hxj
  obtain rfl := pkVs_nil hj
  exact ⟨⟨a, b, c, d, e, f, g, i, j⟩, rfl, eb, ec, ed, ee, ei, ej⟩
theorem pk3 {svs : List SV} (h : pkVs [.i .i64, .i .i64, .i .i64] svs) : ∃ a b c, SV.ag svs = cf a b c := by
  obtain ⟨_, _, rfl, hxa, ha⟩ := pkVs_cons h
  obtain ⟨a, rfl, ea⟩ := hxa
  obtain ⟨_, _, rfl, hxb, hb⟩ := pkVs_cons ha
  obtain ⟨b, rfl, eb⟩ := hxb
  obtain ⟨_, _, rfl, hxc, hc⟩ := pkVs_cons hb
  obtain ⟨c, rfl, ec⟩ := hxc
  obtain rfl := pkVs_nil hc
  exact ⟨a, b, c, rfl⟩
theorem pk2 {svs : List SV} (h : pkVs [.i .u16, .i .u32] svs) : ∃ p : Int × Int, svs = pr p ∧ (0 ≤ p.1 ∧ p.1 < 65536 ∧ 0 ≤ p.2 ∧ p.2 < 4294967296) := by
  obtain ⟨_, _, rfl, hxa, ha⟩ := pkVs_cons h
  obtain ⟨a, rfl, ea⟩ := hxa
  obtain ⟨_, _, rfl, hxb, hb⟩ := pkVs_cons ha
  obtain ⟨b, rfl, eb⟩ := hxb
  obtain rfl := pkVs_nil hb
  simp only [lo, hi] at ea eb
  exact ⟨(a, b), rfl, by simp only; omega⟩
end Cz
