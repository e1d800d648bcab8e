import Derived.Test.YtdpkfpbdadloaaaFHWharfagelaw11HealthFlaps
import Derived.Test.YtdpkfpbdadloaaaHealth
namespace Go.Proofs.Ytdpkfpbdadloaaa.Pure
open Go Go.RowKit Go.Proofs.Ytdpkfpbdadloaaa.PH Go.Proofs.Ytdpkfpbdadloaaa.Wh
def Fl (up : Bool) (i c : Int) : Prop := (i % 2 = 0 → (up = true → c = 0) ∧ (up = false → 0 ≤ c ∧ c ≤ 1)) ∧ (i % 2 = 1 → (up = true → c = 1) ∧ (up = false → c = 0))
theorem loop (m : Int) (up : Bool) (hm : bits .and .i64 m 63 ≤ 63) (n : Nat) : ∀ (i : Int) (c : Int), 0 ≤ i → i ≤ 64 → 64 - i ≤ (n : Int) → Fl up i c → wharfagelaw11_HealthFlaps.l0 (n + 1) m up i up c = some true := by
  induction n with
  | zero =>
    intro i c h0 h1 h2 _
    unfold wharfagelaw11_HealthFlaps.l0
    rw [if_neg (by omega)]
  | succ n ih =>
    intro i c h0 h1 h2 hc
    unfold wharfagelaw11_HealthFlaps.l0
    refine ite_to (fun hi => ?_) (fun _ => rfl)
    rw [probe_eq, Option.bind_some, and_1]
    obtain ⟨c', hp, hc'⟩ : ∃ c', probe up c (i % 2 == 1) = (up, c', 0) ∧ Fl up (i + 1) c' := by
      obtain h | h : i % 2 = 0 ∨ i % 2 = 1 := by omega
      · rw [h]
        have hc := hc.1 h
        cases up
        · have := hc.2 rfl
          refine ⟨0, ?_, fun h => by omega, fun h => ⟨fun h => (by cases h), fun _ => rfl⟩⟩
          obtain rfl | rfl : c = 0 ∨ c = 1 := by omega
          · rfl
          · rfl
        · have := hc.1 rfl; subst this
          exact ⟨1, rfl, fun h => by omega, fun h => ⟨fun _ => rfl, fun h => (by cases h)⟩⟩
      · rw [h]
        have hc := hc.2 h
        cases up
        · have := hc.2 rfl; subst this
          exact ⟨1, rfl, fun _ => ⟨fun h => (by cases h), fun _ => by omega⟩, fun h => by omega⟩
        · have := hc.1 rfl; subst this
          exact ⟨0, rfl, fun _ => ⟨fun _ => rfl, fun h => (by cases h)⟩, fun h => by omega⟩
    rw [hp]
    simp only [wharfagelaw0_Num.f, Option.bind_some, if_true, bne_self_eq_false]
    rw [if_neg (by decide), wrap64_id (by omega) (by omega)]
    exact ih (i + 1) c' (by omega) (by omega) (by omega) hc'
theorem HealthFlaps : wharfagelaw11_HealthFlaps.Pure := by
  intro m up _
  refine ⟨65, ?_⟩
  unfold wharfagelaw11_HealthFlaps.f
  rw [awakeH, Option.bind_some, if_pos rfl, newH, Option.bind_some]
  exact loop m up (by rw [and_63]; omega) 64 0 0 (by decide) (by decide) (by decide) ⟨fun _ => ⟨fun _ => rfl, fun _ => by decide⟩, fun h => by cases h⟩
end Go.Proofs.Ytdpkfpbdadloaaa.Pure
