/- Plain laws of the healths. -/
import Derived.Test.YtdpkfpbdadloaaaBase
import Derived.Test.YtdpkfpbdadloaaaFHWharfagelaw11Awake
import Derived.Test.YtdpkfpbdadloaaaFHWharfageref10Probe
namespace Go.Proofs.Ytdpkfpbdadloaaa.Wh
open Go Go.RowKit Go.Proofs.Ytdpkfpbdadloaaa.PH
theorem turns_eq (b : Bool) (c : Int) : health_turns.f b c = some (3, b, c) := by
  unfold health_turns.f; by_cases q : b = true
  · rw [if_pos q]
  · rw [if_neg q]
theorem may_eq (b : Bool) (c : Int) : health_May.f b c = some (decide (0 ≤ c ∧ c < 3)) := by
  unfold health_May.f
  rw [turns_eq]
  by_cases q : c ≥ 0
  · rw [if_pos q, Option.bind_some]; congr 1; simp only [decide_eq_decide]; omega
  · rw [if_neg q]; congr 1; symm; rw [decide_eq_false_iff_not]; omega
theorem refMay_eq (b : Bool) (c : Int) : wharfageref10_HealthMay.f b c = some (decide (0 ≤ c ∧ c < 3)) := by
  unfold wharfageref10_HealthMay.f
  by_cases q : b = true
  · rw [if_pos q]
    by_cases q : c ≥ 0
    · rw [if_pos q]; congr 1; simp only [decide_eq_decide]; omega
    · rw [if_neg q]; congr 1; symm; rw [decide_eq_false_iff_not]; omega
  · rw [if_neg q]
    by_cases q : c ≥ 0
    · rw [if_pos q]; congr 1; simp only [decide_eq_decide]; omega
    · rw [if_neg q]; congr 1; symm; rw [decide_eq_false_iff_not]; omega
def probe (b : Bool) (c : Int) (g : Bool) : Bool × Int × Int :=
  if 0 ≤ c ∧ c < 3 then (if g = b then (b, 0, 0) else if c = 2 then (!b, 0, 0) else (b, c + 1, 0)) else (false, 0, 1100)
theorem probe_eq (b : Bool) (c : Int) (g : Bool) : health_Probe.f b c g = some (probe b c g) := by
  unfold health_Probe.f probe
  rw [may_eq, Option.bind_some]
  by_cases q : 0 ≤ c ∧ c < 3
  · rw [if_pos (decide_eq_true q), if_pos q]
    by_cases e : g = b
    · rw [if_pos (by simpa using e), if_pos e]
    · rw [if_neg (by simpa using e), if_neg e, turns_eq, Option.bind_some]
      rw [wrap64_id (by omega) (by omega)]
      by_cases e2 : c = 2
      · rw [if_pos (by dsimp only; omega), if_pos e2]
      · rw [if_neg (by dsimp only; omega), if_neg e2]
  · rw [if_neg (by simpa using q), if_neg q]
theorem refProbe_eq (b : Bool) (c : Int) (g : Bool) : wharfageref10_Probe.f b c g = some (probe b c g) := by
  unfold wharfageref10_Probe.f probe
  rw [refMay_eq, Option.bind_some]
  by_cases q : 0 ≤ c ∧ c < 3
  · rw [if_pos (decide_eq_true q), if_pos q]
    by_cases e : g = b
    · rw [if_pos (by simpa using e), if_pos e]
    · rw [if_neg (by simpa using e), if_neg e]
      rw [wrap64_id (by omega) (by omega)]
      by_cases q3 : b = true
      · rw [if_pos q3]
        by_cases e2 : c = 2
        · rw [if_pos (by omega), if_pos e2]
        · rw [if_neg (by omega), if_neg e2]
      · rw [if_neg q3]
        by_cases e2 : c = 2
        · rw [if_pos (by omega), if_pos e2]
        · rw [if_neg (by omega), if_neg e2]
  · rw [if_neg (by simpa using q), if_neg q]
theorem awakeH : wharfagelaw11_awake.f = some true := by decide +kernel
theorem newH : health_New.f = some (true, 0) := rfl
end Go.Proofs.Ytdpkfpbdadloaaa.Wh
