import Derived.Test.YtdpkfpbdadloaaaFHWharfagelaw11HealthRows
import Derived.Test.YtdpkfpbdadloaaaHealth
namespace Go.Proofs.Ytdpkfpbdadloaaa.Pure
open Go Go.RowKit Go.Proofs.Ytdpkfpbdadloaaa.PH Go.Proofs.Ytdpkfpbdadloaaa.Wh Go.Proofs.YtdpkfpbdadloaaaW.PrintWords Go.Proofs.YtdpkfpbdadloaaaW.PrintLast
theorem rows (l : List Int) (n : Nat) : ∀ (u : Bool) (c i : Int), 0 ≤ i → i ≤ 40 → 40 - i ≤ (n : Int) → 0 ≤ c → c < 3 → wharfagelaw11_HealthRows.l0 (2 * n + 2) l u c i u c = some true := by
  induction n with
  | zero =>
    intro u c i h0 h1 h2 c0 c1
    show wharfagelaw11_HealthRows.l0 2 l u c i u c = some true
    unfold wharfagelaw11_HealthRows.l0
    refine ite_to (fun hi => ?_) (fun _ => rfl)
    unfold wharfagelaw11_HealthRows.j1
    rw [if_neg (by simp; omega)]
  | succ n ih =>
    intro u c i h0 h1 h2 c0 c1
    show wharfagelaw11_HealthRows.l0 (2 * n + 2 + 2) l u c i u c = some true
    unfold wharfagelaw11_HealthRows.l0
    refine ite_to (fun hi => ?_) (fun _ => rfl)
    unfold wharfagelaw11_HealthRows.j1
    refine ite_to (fun hj => ?_) (fun _ => rfl)
    have hj := of_decide_eq_true hj
    rw [if_pos h0, if_pos hi, probe_eq, Option.bind_some]
    generalize (bits .and .i64 (rd l i) 1 == 1) = g
    rw [wrap64_id (show -9223372036854775808 ≤ c + 1 by omega) (by omega), wrap64_id (show -9223372036854775808 ≤ i + 1 by omega) (by omega)]
    by_cases e : g = u
    · subst e
      have hp : probe g c g = (g, 0, 0) := by unfold probe; rw [if_pos ⟨c0, c1⟩, if_pos rfl]
      rw [hp]
      dsimp only [wharfagelaw0_Num.f, Option.bind_some]
      rw [if_pos rfl, if_pos (by simp), if_neg (by decide), if_neg (by simp), if_pos rfl]
      exact ih g 0 (i + 1) (by omega) (by omega) (by omega) (by decide) (by decide)
    · by_cases e2 : c = 2
      · have hp : probe u c g = (!u, 0, 0) := by unfold probe; rw [if_pos ⟨c0, c1⟩, if_neg e, if_pos e2]
        rw [hp]
        dsimp only [wharfagelaw0_Num.f, Option.bind_some]
        rw [if_pos rfl, if_neg (by simpa using e), if_pos (by omega), if_neg (by simp), if_pos rfl]
        exact ih (!u) 0 (i + 1) (by omega) (by omega) (by omega) (by decide) (by decide)
      · have hp : probe u c g = (u, c + 1, 0) := by unfold probe; rw [if_pos ⟨c0, c1⟩, if_neg e, if_neg e2]
        rw [hp]
        dsimp only [wharfagelaw0_Num.f, Option.bind_some]
        rw [if_pos rfl, if_neg (by simpa using e), if_neg (by omega), if_neg (by simp), if_pos rfl]
        exact ih u (c + 1) (i + 1) (by omega) (by omega) (by omega) (by omega) (by omega)
theorem HealthRows : wharfagelaw11_HealthRows.Pure := by
  intro l _ _ _
  refine ⟨82, ?_⟩
  unfold wharfagelaw11_HealthRows.f
  rw [awakeH, Option.bind_some, if_pos rfl, newH, Option.bind_some]
  exact rows l 40 true 0 0 (by decide) (by decide) (by decide) (by decide) (by decide)
end Go.Proofs.Ytdpkfpbdadloaaa.Pure
