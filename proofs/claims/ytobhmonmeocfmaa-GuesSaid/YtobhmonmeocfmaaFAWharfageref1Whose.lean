-- printed by a program of this session (myprint.py) out of the translation
import Derived.Test.YtobhmonmeocfmaaFAM0
namespace Go.Proofs.Ytobhmonmeocfmaa.PA
open Go.RowKit Go.Proofs.YtobhmonmeocfmaaW.PrintWords Go.Proofs.YtobhmonmeocfmaaW.PrintLast Go.Proofs.YtobhmonmeocfmaaW.PrintMore
attribute [local go_sem] max2_int min2_int max_two min_two max_three min_three max_four min_four   -- for this text's walks alone
set_option linter.unusedVariables false
set_option linter.unusedSimpArgs false

/-! ### wharfageref1_Whose: function 57 -/
mutual
def wharfageref1_Whose.l0 : Nat → Int → Int → Option (Int × Int × Int × Bool)
  | 0, _, _ => none
  | k + 1, x0, x6 => if x6 < 2 then (if x0 = (wrap64 (167837696 + x6)) then (some (0, 0, x6, true)) else (wharfageref1_Whose.l0 k x0 (wrap64 (x6 + 1)))) else (wharfageref1_Whose.l1 k x0 0)
def wharfageref1_Whose.l1 : Nat → Int → Int → Option (Int × Int × Int × Bool)
  | 0, _, _ => none
  | k + 1, x0, x7 => if x7 < 3 then (if x0 = (wrap64 (167903232 + x7)) then (some (1, x7, 0, true)) else (wharfageref1_Whose.l2 k x0 x7 0)) else (some (0, 0, 0, false))
def wharfageref1_Whose.l2 : Nat → Int → Int → Int → Option (Int × Int × Int × Bool)
  | 0, _, _, _ => none
  | k + 1, x0, x7, x8 => if x8 < 4 then (if x0 = (wrap64 ((wrap64 (167968768 + (wrap64 (256 * x7)))) + x8)) then (some (2, x7, x8, true)) else (wharfageref1_Whose.l2 k x0 x7 (wrap64 (x8 + 1)))) else (wharfageref1_Whose.l1 k x0 (wrap64 (x7 + 1)))
end
def wharfageref1_Whose.f (k : Nat) (a0 : Int) : Option (Int × Int × Int × Bool) := wharfageref1_Whose.l0 k a0 0
theorem wharfageref1_Whose.mono_l : ∀ k, (∀ y0 y1, LeO (wharfageref1_Whose.l0 k y0 y1) (wharfageref1_Whose.l0 (k + 1) y0 y1)) ∧ (∀ y0 y1, LeO (wharfageref1_Whose.l1 k y0 y1) (wharfageref1_Whose.l1 (k + 1) y0 y1)) ∧ (∀ y0 y1 y2, LeO (wharfageref1_Whose.l2 k y0 y1 y2) (wharfageref1_Whose.l2 (k + 1) y0 y1 y2))
  | 0 => ⟨fun _ _ r h => by simp [wharfageref1_Whose.l0] at h, fun _ _ r h => by simp [wharfageref1_Whose.l1] at h, fun _ _ _ r h => by simp [wharfageref1_Whose.l2] at h⟩
  | k + 1 => by
    obtain ⟨ih0, ih1, ih2⟩ := wharfageref1_Whose.mono_l k
    refine ⟨?_, ?_, ?_⟩
    · intro y0 y1
      unfold wharfageref1_Whose.l0
      repeat' first
      | (with_reducible exact ih0 _ _)
      | (with_reducible exact ih1 _ _)
      | (with_reducible exact ih2 _ _ _)
      | (with_reducible exact LeO.refl _)
      | (with_reducible exact LeO.none _)
      | (with_reducible refine LeO.ite ?_ ?_)
      | (with_reducible refine LeO.bind ?_ (fun _ => ?_))
      | exact ih0 _ _
      | exact ih1 _ _
      | exact ih2 _ _ _
      | exact LeO.none _
      | refine LeO.ite ?_ ?_
      | refine LeO.bind ?_ (fun _ => ?_)
    · intro y0 y1
      unfold wharfageref1_Whose.l1
      repeat' first
      | (with_reducible exact ih0 _ _)
      | (with_reducible exact ih1 _ _)
      | (with_reducible exact ih2 _ _ _)
      | (with_reducible exact LeO.refl _)
      | (with_reducible exact LeO.none _)
      | (with_reducible refine LeO.ite ?_ ?_)
      | (with_reducible refine LeO.bind ?_ (fun _ => ?_))
      | exact ih0 _ _
      | exact ih1 _ _
      | exact ih2 _ _ _
      | exact LeO.none _
      | refine LeO.ite ?_ ?_
      | refine LeO.bind ?_ (fun _ => ?_)
    · intro y0 y1 y2
      unfold wharfageref1_Whose.l2
      repeat' first
      | (with_reducible exact ih0 _ _)
      | (with_reducible exact ih1 _ _)
      | (with_reducible exact ih2 _ _ _)
      | (with_reducible exact LeO.refl _)
      | (with_reducible exact LeO.none _)
      | (with_reducible refine LeO.ite ?_ ?_)
      | (with_reducible refine LeO.bind ?_ (fun _ => ?_))
      | exact ih0 _ _
      | exact ih1 _ _
      | exact ih2 _ _ _
      | exact LeO.none _
      | refine LeO.ite ?_ ?_
      | refine LeO.bind ?_ (fun _ => ?_)
theorem wharfageref1_Whose.mono : ∀ a0 k, LeO (wharfageref1_Whose.f k a0) (wharfageref1_Whose.f (k + 1) a0) := by
  intro a0 k
  obtain ⟨ih0, ih1, ih2⟩ := wharfageref1_Whose.mono_l k
  unfold wharfageref1_Whose.f
  repeat' first
      | (with_reducible exact ih0 _ _)
      | (with_reducible exact ih1 _ _)
      | (with_reducible exact ih2 _ _ _)
      | (with_reducible exact LeO.refl _)
      | (with_reducible exact LeO.none _)
      | (with_reducible refine LeO.ite ?_ ?_)
      | (with_reducible refine LeO.bind ?_ (fun _ => ?_))
      | exact ih0 _ _
      | exact ih1 _ _
      | exact ih2 _ _ _
      | exact LeO.none _
      | refine LeO.ite ?_ ?_
      | refine LeO.bind ?_ (fun _ => ?_)
set_option maxHeartbeats 8000000 in
set_option maxRecDepth 100000 in
theorem wharfageref1_Whose.calls (k : Nat) (a0 : Int) (r1 : Int) (r2 : Int) (r3 : Int) (r4 : Bool) (w : World) (h : wharfageref1_Whose.f k a0 = some (r1, r2, r3, r4)) :
    Calls Try.prog 57 #[.int .i64 a0] w fun e w' => e = .returned (.tuple #[.int .i64 r1, .int .i64 r2, .int .i64 r3, .bool r4]) ∧ Drawn0 w w' := by
  have H : (wharfageref1_Whose.l0 k a0 0) = some (r1, r2, r3, r4) := h
  clear h
  have H' := Aside0.mk H
  clear H
  go_enter Try.func57, Try.ntmps57
  go_wp2
  go_loopg [6] k (fun kq v6 w' => ∃ (x6_1 : Int), v6 = .int .i64 x6_1 ∧ Aside0 (wharfageref1_Whose.l0 kq a0 x6_1 = some (r1, r2, r3, r4)) ∧ Aside0 (kq ≤ k) ∧ Drawn0 w w')
  case atStart => exact ⟨(0), (by first | rfl | (simp; done) | (simp [*]; done)), H', ⟨Nat.le_refl _⟩, by repeat (first | exact Drawn0.refl _ | apply Drawn0.step)⟩
  case round =>
    clear H'
    obtain ⟨x6_1, rfl, HA, HK1, ⟨m1, rfl⟩⟩ := hrel
    cases gk with
    | zero => exact absurd HA.out (by simp [wharfageref1_Whose.l0])
    | succ k1 =>
      have H := HA.out
      clear HA
      simp only [wharfageref1_Whose.l0] at H
      by_cases c2 : x6_1 < 2
      · rw [if_pos c2] at H
        have c2b0 : decide (x6_1 < 2) = true := decide_eq_true c2
        clear c2
        by_cases c3 : a0 = (wrap64 (167837696 + x6_1))
        · rw [if_pos c3] at H
          have c3b0 : (a0 == (wrap64 (167837696 + x6_1))) = true := beq_iff_eq.mpr c3
          have c3b1 : (a0 != (wrap64 (167837696 + x6_1))) = false := bne_eq_false_iff_eq.mpr c3
          clear c3
          simp only [Option.some.injEq, Prod.mk.injEq] at H
          obtain ⟨rfl, rfl, rfl, rfl⟩ := H
          go_wp2
          refine bodyPost_ret (results_list (rs := [.tmp 2, .tmp 3, .tmp 4, .tmp 5]) rfl (by simp) (.tmp (.tmp (.tmp (.tmp .nil))))) rfl ?_
          exact ⟨by first | rfl | (simp; done) | (simp [*]; done), by repeat (first | exact Drawn0.refl _ | apply Drawn0.step)⟩
        · rw [if_neg c3] at H
          have c3b0 : (a0 == (wrap64 (167837696 + x6_1))) = false := beq_eq_false_iff_ne.mpr c3
          have c3b1 : (a0 != (wrap64 (167837696 + x6_1))) = true := bne_iff_ne.mpr c3
          have H' := Aside0.mk H
          clear H
          go_wp2
          go_roundg k1
          case measure => have := HK1.out; omega
          case rel => exact ⟨(wrap64 (x6_1 + 1)), (by first | rfl | (simp; done) | (simp [*]; done)), H', ⟨by have := HK1.out; omega⟩, by repeat (first | exact Drawn0.refl _ | apply Drawn0.step)⟩
      · rw [if_neg c2] at H
        have c2b0 : decide (x6_1 < 2) = false := decide_eq_false c2
        clear c2
        have H' := Aside0.mk H
        clear H
        go_wp2
        go_loopg [7] k1 (fun kq v7 w' => ∃ (x7_2 : Int), v7 = .int .i64 x7_2 ∧ Aside0 (wharfageref1_Whose.l1 kq a0 x7_2 = some (r1, r2, r3, r4)) ∧ Aside0 (kq ≤ k1) ∧ Drawn0 w w')
        case atStart => exact ⟨(0), (by first | rfl | (simp; done) | (simp [*]; done)), H', ⟨Nat.le_refl _⟩, by repeat (first | exact Drawn0.refl _ | apply Drawn0.step)⟩
        case round =>
          clear H'
          try clear c2
          try clear c2b0
          try clear p2
          try clear c3
          try clear c3b0
          try clear c3b1
          obtain ⟨x7_2, rfl, HA, HK2, ⟨m2, rfl⟩⟩ := hrel
          cases gk with
          | zero => exact absurd HA.out (by simp [wharfageref1_Whose.l1])
          | succ k2 =>
            have H := HA.out
            clear HA
            simp only [wharfageref1_Whose.l1] at H
            by_cases c4 : x7_2 < 3
            · rw [if_pos c4] at H
              have c4b0 : decide (x7_2 < 3) = true := decide_eq_true c4
              clear c4
              by_cases c5 : a0 = (wrap64 (167903232 + x7_2))
              · rw [if_pos c5] at H
                have c5b0 : (a0 == (wrap64 (167903232 + x7_2))) = true := beq_iff_eq.mpr c5
                have c5b1 : (a0 != (wrap64 (167903232 + x7_2))) = false := bne_eq_false_iff_eq.mpr c5
                clear c5
                simp only [Option.some.injEq, Prod.mk.injEq] at H
                obtain ⟨rfl, rfl, rfl, rfl⟩ := H
                go_wp2
                refine bodyPost_ret (results_list (rs := [.tmp 2, .tmp 3, .tmp 4, .tmp 5]) rfl (by simp) (.tmp (.tmp (.tmp (.tmp .nil))))) rfl ?_
                exact ⟨by first | rfl | (simp; done) | (simp [*]; done), by repeat (first | exact Drawn0.refl _ | apply Drawn0.step)⟩
              · rw [if_neg c5] at H
                have c5b0 : (a0 == (wrap64 (167903232 + x7_2))) = false := beq_eq_false_iff_ne.mpr c5
                have c5b1 : (a0 != (wrap64 (167903232 + x7_2))) = true := bne_iff_ne.mpr c5
                have H' := Aside0.mk H
                clear H
                go_wp2
                go_loopg [8] k2 (fun kq v8 w' => ∃ (x8_3 : Int), v8 = .int .i64 x8_3 ∧ Aside0 (wharfageref1_Whose.l2 kq a0 x7_2 x8_3 = some (r1, r2, r3, r4)) ∧ Aside0 (kq ≤ k2) ∧ Drawn0 w w')
                case atStart => exact ⟨(0), (by first | rfl | (simp; done) | (simp [*]; done)), H', ⟨Nat.le_refl _⟩, by repeat (first | exact Drawn0.refl _ | apply Drawn0.step)⟩
                case round =>
                  clear H'
                  try clear c2
                  try clear c2b0
                  try clear p2
                  try clear c3
                  try clear c3b0
                  try clear c3b1
                  try clear c4
                  try clear c4b0
                  try clear c5
                  try clear c5b0
                  try clear c5b1
                  try clear p2
                  obtain ⟨x8_3, rfl, HA, HK3, ⟨m3, rfl⟩⟩ := hrel
                  cases gk with
                  | zero => exact absurd HA.out (by simp [wharfageref1_Whose.l2])
                  | succ k3 =>
                    have H := HA.out
                    clear HA
                    simp only [wharfageref1_Whose.l2] at H
                    by_cases c6 : x8_3 < 4
                    · rw [if_pos c6] at H
                      have c6b0 : decide (x8_3 < 4) = true := decide_eq_true c6
                      clear c6
                      by_cases c7 : a0 = (wrap64 ((wrap64 (167968768 + (wrap64 (256 * x7_2)))) + x8_3))
                      · rw [if_pos c7] at H
                        have c7b0 : (a0 == (wrap64 ((wrap64 (167968768 + (wrap64 (256 * x7_2)))) + x8_3))) = true := beq_iff_eq.mpr c7
                        have c7b1 : (a0 != (wrap64 ((wrap64 (167968768 + (wrap64 (256 * x7_2)))) + x8_3))) = false := bne_eq_false_iff_eq.mpr c7
                        clear c7
                        simp only [Option.some.injEq, Prod.mk.injEq] at H
                        obtain ⟨rfl, rfl, rfl, rfl⟩ := H
                        go_wp2
                        refine bodyPost_ret (results_list (rs := [.tmp 2, .tmp 3, .tmp 4, .tmp 5]) rfl (by simp) (.tmp (.tmp (.tmp (.tmp .nil))))) rfl ?_
                        exact ⟨by first | rfl | (simp; done) | (simp [*]; done), by repeat (first | exact Drawn0.refl _ | apply Drawn0.step)⟩
                      · rw [if_neg c7] at H
                        have c7b0 : (a0 == (wrap64 ((wrap64 (167968768 + (wrap64 (256 * x7_2)))) + x8_3))) = false := beq_eq_false_iff_ne.mpr c7
                        have c7b1 : (a0 != (wrap64 ((wrap64 (167968768 + (wrap64 (256 * x7_2)))) + x8_3))) = true := bne_iff_ne.mpr c7
                        have H' := Aside0.mk H
                        clear H
                        go_wp2
                        go_roundg k3
                        case measure => have := HK1.out; have := HK2.out; have := HK3.out; omega
                        case rel => exact ⟨(wrap64 (x8_3 + 1)), (by first | rfl | (simp; done) | (simp [*]; done)), H', ⟨by have := HK1.out; have := HK2.out; have := HK3.out; omega⟩, by repeat (first | exact Drawn0.refl _ | apply Drawn0.step)⟩
                    · rw [if_neg c6] at H
                      have c6b0 : decide (x8_3 < 4) = false := decide_eq_false c6
                      clear c6
                      have H' := Aside0.mk H
                      clear H
                      go_wp2
                      go_roundg k3
                      case measure => have := HK1.out; have := HK2.out; have := HK3.out; omega
                      case rel => exact ⟨(wrap64 (x7_2 + 1)), (by first | rfl | (simp; done) | (simp [*]; done)), H', ⟨by have := HK1.out; have := HK2.out; have := HK3.out; omega⟩, by repeat (first | exact Drawn0.refl _ | apply Drawn0.step)⟩
            · rw [if_neg c4] at H
              have c4b0 : decide (x7_2 < 3) = false := decide_eq_false c4
              clear c4
              simp only [Option.some.injEq, Prod.mk.injEq] at H
              obtain ⟨rfl, rfl, rfl, rfl⟩ := H
              go_wp2
              refine bodyPost_ret (results_list (rs := [.tmp 2, .tmp 3, .tmp 4, .tmp 5]) rfl (by simp) (.tmp (.tmp (.tmp (.tmp .nil))))) rfl ?_
              exact ⟨by first | rfl | (simp; done) | (simp [*]; done), by repeat (first | exact Drawn0.refl _ | apply Drawn0.step)⟩

end Go.Proofs.Ytobhmonmeocfmaa.PA
