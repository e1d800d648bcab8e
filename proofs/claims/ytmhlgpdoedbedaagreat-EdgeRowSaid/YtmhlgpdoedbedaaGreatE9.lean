/- Plain laws: EdgeForms. -/
import Derived.Test.YtmhlgpdoedbedaaGreatE6
namespace Go.Proofs.YtmhlgpdoedbedaaGreat.Pu
set_option linter.unusedSimpArgs false
set_option linter.unusedVariables false
open Go Go.RowKit Go.Proofs.YtmhlgpdoedbedaaGreat.Sv Go.Proofs.YtmhlgpdoedbedaaGreat.Lf
def givenC : GConfig := ⟨3, [⟨2, false, 2, [⟨1, false⟩, ⟨3, false⟩]⟩, ⟨1, false, 4, [⟨1, false⟩]⟩]⟩
def newsH : List GHealth := [⟨true, 0⟩, ⟨true, 0⟩, ⟨true, 0⟩]
def gE : GEdge := ⟨0, givenC, newsH, []⟩
theorem repeatH : L_slices_Repeat_api_Health_api_Health 281474976710656 [⟨true, 0⟩] 3 = some newsH := by kernel_rfl
theorem New_eq {id : Int} {c : GConfig} (hs : c.Sites.length ≤ 100) (hb : ∀ y ∈ c.Sites, y.Backs.length ≤ 100) : L_edge_New 281474976710656 id c = some (if edgeOk ⟨id, c, newsH, []⟩ = true then (⟨id, c, newsH, []⟩, 0) else (zEdge, 1900)) := by
  unfold L_edge_New
  have h1 := CopyC_eq (N := 281474976710656) (by decide) c hs hb
  have h2 : L_health_New 281474976710656 = some ⟨true, 0⟩ := rfl
  have h3 := EdgeMay_eq (N := 281474976710656) (by decide) ⟨id, c, newsH, []⟩ ⟨⟨Nat.le_trans hs (by decide), fun y hy => Nat.le_trans (hb y hy) (by decide)⟩, show newsH.length ≤ 140737488355328 by decide, Nat.zero_le _⟩
  refine stB h1 (stB h2 (stB repeatH (stB h3 ?_)))
  cases edgeOk ⟨id, c, newsH, []⟩ with
  | true => rfl
  | false => rfl
theorem given_ok : ∀ y ∈ givenC.Sites, y.Backs.length ≤ 100 := by
  intro y hy
  simp only [givenC, List.mem_cons, List.not_mem_nil, or_false] at hy
  rcases hy with rfl | rfl <;> decide
end Go.Proofs.YtmhlgpdoedbedaaGreat.Pu
