/- Plain laws: EdgeForms. -/
import Derived.Test.YtmhlgpdoedbedaaGreatE6
namespace Go.Proofs.YtmhlgpdoedbedaaGreat.Pu
set_option linter.unusedSimpArgs false
set_option linter.unusedVariables false
open Go Go.RowKit Go.Proofs.YtmhlgpdoedbedaaGreat.Sv Go.Proofs.YtmhlgpdoedbedaaGreat.Lf
def givenC : GConfig := ⟨3, [⟨2, false, 2, [⟨1, false⟩, ⟨3, false⟩]⟩, ⟨1, false, 4, [⟨1, false⟩]⟩]⟩
theorem given_ok : ∀ y ∈ givenC.Sites, y.Backs.length ≤ 100 := by
  intro y hy
  simp only [givenC, List.mem_cons, List.not_mem_nil, or_false] at hy
  rcases hy with rfl | rfl <;> decide
end Go.Proofs.YtmhlgpdoedbedaaGreat.Pu
