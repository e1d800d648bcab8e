import Derived.Test.YthhlflmjikdgcaaBd
import Derived.Test.YthhlflmjikdgcaaReads
import Derived.KernelRfl
set_option linter.unusedVariables false
set_option linter.unusedSimpArgs false
namespace Go.Proofs.Ythhlflmjikdgcaa.Lf
open Go Go.Proofs Go.Proofs.Ythhlflmjikdgcaa.Sv
theorem rd_GCandidate : Rd Try.prog 46 2 eCandidate Bd_GCandidate := by
  refine Rd.struct Try.underlying46 (by kernel_rfl) (.cons rfl (Rd.int Try.underlying3 (by kernel_rfl)) (.cons rfl (Rd.int Try.underlying3 (by kernel_rfl)) (.nil))) ?_ (fun ds ⟨a, h, _⟩ => by rw [h]; rfl)
  intro dss h
  cases h with
  | cons q0 h =>
  obtain ⟨a0, rfl, b0⟩ := q0
  cases h with
  | cons q1 h =>
  obtain ⟨a1, rfl, b1⟩ := q1
  cases h
  exact ⟨⟨a0, a1⟩, rfl, trivial⟩
end Go.Proofs.Ythhlflmjikdgcaa.Lf
