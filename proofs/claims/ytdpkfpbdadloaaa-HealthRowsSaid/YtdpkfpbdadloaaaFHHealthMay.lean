-- printed by a program of this session (myprint.py) out of the translation
import Derived.Test.YtdpkfpbdadloaaaFH0
import Derived.Test.YtdpkfpbdadloaaaFHHealthTurns
namespace Go.Proofs.Ytdpkfpbdadloaaa.PH
open Go.RowKit Go.Proofs.YtdpkfpbdadloaaaW.PrintWords Go.Proofs.YtdpkfpbdadloaaaW.PrintLast Go.Proofs.YtdpkfpbdadloaaaW.PrintMore
attribute [local go_sem] max2_int min2_int max_two min_two max_three min_three max_four min_four   -- for this text's walks alone
set_option linter.unusedVariables false
set_option linter.unusedSimpArgs false

/-! ### health_May: function 29 -/
def health_May.f (a0_0 : Bool) (a0_1 : Int) : Option (Bool) := if a0_1 ≥ 0 then ((health_turns.f a0_0 a0_1).bind fun bt102 => (some (decide (a0_1 < bt102.1)))) else (some false)
set_option maxHeartbeats 8000000 in
set_option maxRecDepth 100000 in
theorem health_May.calls (a0_0 : Bool) (a0_1 : Int) (r : Bool) (w : World) (h : health_May.f a0_0 a0_1 = some r) :
    Calls Try.prog 29 #[.agg #[.bool a0_0, .int .i64 a0_1]] w fun e w' => e = .returned (.bool r) ∧ Below w.heap.size w w' := by
  have HB := Aside0.mk (Below.refl w.heap.size w)
  unfold health_May.f at h
  have hu24 := Try.underlying24
  have I1 := IsS24.new w w a0_0 a0_1 HB.out
  have B1 : Below w.heap.size w (w.alloc (.cells #[.bool a0_0, .int .i64 a0_1] 24)) := below_alloc HB.out _
  by_cases c : a0_1 ≥ 0
  · rw [if_pos c] at h
    simp only [Option.bind_eq_some_iff, Prod.exists] at h
    obtain ⟨t1, b0, b1, A1, h⟩ := h
    have same : b0 = a0_0 ∧ b1 = a0_1 := by
      unfold health_turns.f at A1
      by_cases q : a0_0 = true
      · rw [if_pos q] at A1; cases A1; exact ⟨rfl, rfl⟩
      · rw [if_neg q] at A1; cases A1; exact ⟨rfl, rfl⟩
    obtain ⟨rfl, rfl⟩ := same
    cases h
    replace A1 := Aside0.mk A1
    have q0 := cellS24_1 I1.1
    go_enter Try.func29, Try.ntmps29
    go_wp2
    go_region_held3 (fun w' => IsS24 w w' w.heap.size b0 b1 ∧ Below w.heap.size w w' ∧ w'.cell? ⟨w.heap.size, 1, none⟩ = some (.int .i64 b1))
      (first | exact ⟨I1, B1, q0⟩ | exact ⟨I1.drew, below_drew B1, q0⟩ | exact ⟨hi2, hb2, cellS24_1 hi2.1⟩ | (go_split_ands; exact ⟨(by assumption : IsS24 w _ w.heap.size b0 b1).drewN nd, pw_below_drewN (by assumption) nd, by assumption⟩))
      ((go_at_call 43; go_split_ands; refine (health_turns.calls _ _ _ _ _ _ w _ (by assumption) (by assumption) A1.out).mono ?_; rintro e w2 ⟨rfl, hi2, hb2, hk2⟩))
    go_wp2
    go_ret
    exact ⟨rfl, by go_split_ands; assumption⟩
  · rw [if_neg c] at h
    cases h
    have c' : a0_1 < 0 := Int.not_le.mp c
    have c2 : decide (0 ≤ a0_1) = false := decide_eq_false c
    clear c
    have q0 := cellS24_1 I1.1
    go_enter Try.func29, Try.ntmps29
    go_wp2
    go_quiet (fail)
    go_wp2
    go_ret
    exact ⟨rfl, pw_below_drewN B1 _⟩

end Go.Proofs.Ytdpkfpbdadloaaa.PH
