import Derived.Test.YtdpkfpbdadloaaaFHWharfagelaw11HealthForms
import Derived.Test.YtdpkfpbdadloaaaHealth
namespace Go.Proofs.Ytdpkfpbdadloaaa.Pure
open Go Go.RowKit Go.Proofs.Ytdpkfpbdadloaaa.PH Go.Proofs.Ytdpkfpbdadloaaa.Wh
theorem HealthForms : wharfagelaw11_HealthForms.Pure := by
  intro a x g _ _
  unfold wharfagelaw11_HealthForms.f
  rw [awakeH, Option.bind_some, if_pos rfl, Option.bind_some]
  obtain ⟨d, hd, d0, d1⟩ : ∃ d, wrap64 (1 + bits .and .i64 x 1023) = d ∧ 1 ≤ d ∧ d ≤ 1024 := by
    refine ⟨_, rfl, ?_⟩
    rw [and_1023, wrap64_id (by omega) (by omega)]; omega
  rw [hd, wrap64_id (show -9223372036854775808 ≤ 2 + d by omega) (by omega), wrap64_id (show -9223372036854775808 ≤ -d by omega) (by omega)]
  obtain ⟨j, hj, j0, j1⟩ : ∃ j, wrap64 (Int.tmod (IntKind.u64.wrap a) 4) = j ∧ 0 ≤ j ∧ j < 4 := by
    refine ⟨_, rfl, ?_⟩
    rw [u64_wrap]
    have h1 : 0 ≤ a % 18446744073709551616 := Int.emod_nonneg _ (by decide)
    rw [Int.tmod_eq_emod_of_nonneg h1, wrap64_id (by omega) (by omega)]; omega
  rw [hj, if_pos j0, if_pos (by simpa using j1)]
  have bad : ∀ (b : Bool) (c : Int), ¬ (0 ≤ c ∧ c < 3) → probe b c g = (false, 0, 1100) := fun b c h => by unfold probe; rw [if_neg h]
  have r4 : ∀ a b c d : S24, rd_T24 [a, b, c, d] 0 = a ∧ rd_T24 [a, b, c, d] 1 = b ∧ rd_T24 [a, b, c, d] 2 = c ∧ rd_T24 [a, b, c, d] 3 = d := fun a b c d => ⟨rfl, rfl, rfl, rfl⟩
  obtain rfl | rfl | rfl | rfl : j = 0 ∨ j = 1 ∨ j = 2 ∨ j = 3 := by omega
  all_goals
    simp only [(r4 _ _ _ _).1, (r4 _ _ _ _).2.1, (r4 _ _ _ _).2.2.1, (r4 _ _ _ _).2.2.2, probe_eq, may_eq, Option.bind_some]
    rw [bad _ _ (by omega), if_neg (by simp; omega)]
    simp [wharfagelaw0_Num.f]
end Go.Proofs.Ytdpkfpbdadloaaa.Pure
