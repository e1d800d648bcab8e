import Derived.Test.YtdpkfpbdadloaaaFHWharfagelaw11HealthGood
import Derived.Test.YtdpkfpbdadloaaaHealth
namespace Go.Proofs.Ytdpkfpbdadloaaa.Pure
open Go Go.RowKit Go.Proofs.Ytdpkfpbdadloaaa.PH Go.Proofs.Ytdpkfpbdadloaaa.Wh
theorem HealthGood (b : Bool) (c : Int) (g : Bool) (_ : (Lit.int .i64 c).wf = true) : ∃ k, wharfagelaw11_HealthGood.f k b c g = some true := by
  refine ⟨20, ?_⟩
  unfold wharfagelaw11_HealthGood.f
  rw [awakeH, Option.bind_some, if_pos rfl, may_eq, Option.bind_some]
  refine ite_to (fun h => ?_) (fun _ => rfl)
  have h := of_decide_eq_true h
  obtain rfl | rfl | rfl : c = 0 ∨ c = 1 ∨ c = 2 := by omega
  all_goals (cases b <;> cases g <;> decide +kernel)
end Go.Proofs.Ytdpkfpbdadloaaa.Pure
