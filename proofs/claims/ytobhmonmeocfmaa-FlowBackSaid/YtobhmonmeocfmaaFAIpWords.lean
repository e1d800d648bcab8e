-- printed by a program of this session (myprint.py) out of the translation
import Derived.Test.YtobhmonmeocfmaaFAM0
namespace Go.Proofs.Ytobhmonmeocfmaa.PA
open Go.RowKit Go.Proofs.YtobhmonmeocfmaaW.PrintWords Go.Proofs.YtobhmonmeocfmaaW.PrintLast Go.Proofs.YtobhmonmeocfmaaW.PrintMore
attribute [local go_sem] max2_int min2_int max_two min_two max_three min_three max_four min_four   -- for this text's walks alone
set_option linter.unusedVariables false
set_option linter.unusedSimpArgs false

/-! ### ip_words: function 86 -/
mutual
def ip_words.j0 : Nat → ByteArray → Bool → Option (Int × Bool)
  | 0, _, _ => none
  | k + 1, x0, x12 => if x12 = true then (some (0, false)) else (if 0 < (x0.size : Int) then (if ((bt x0 0) / 16) = 4 then (if (wrap64 (Go.bits .and .u8 (bt x0 0) 15)) < 5 then (ip_words.j1 k x0 (wrap64 (Go.bits .and .u8 (bt x0 0) 15)) true) else (ip_words.j1 k x0 (wrap64 (Go.bits .and .u8 (bt x0 0) 15)) (decide ((wrap64 (4 * (wrap64 (Go.bits .and .u8 (bt x0 0) 15)))) > (x0.size : Int))))) else (ip_words.j1 k x0 (wrap64 (Go.bits .and .u8 (bt x0 0) 15)) true)) else (none))
def ip_words.j1 : Nat → ByteArray → Int → Bool → Option (Int × Bool)
  | 0, _, _, _ => none
  | k + 1, x0, x4, x31 => if x31 = true then (some (0, false)) else (if 2 ≤ 4 then (if 4 ≤ (x0.size : Int) then ((ip_Number.f k (x0.extract 2 4)).bind fun t691 => (if t691 = (x0.size : Int) then (if 0 ≤ (wrap64 (4 * x4)) then (if (wrap64 (4 * x4)) ≤ (x0.size : Int) then ((sum_Sum.f k (x0.extract 0 ((wrap64 (4 * x4)) : Int).toNat)).bind fun t692 => (some (x4, (t692 == 65535)))) else (none)) else (none)) else (some (x4, false)))) else (none)) else (none))
end
def ip_words.f (k : Nat) (a0 : ByteArray) : Option (Int × Bool) := if (a0.size : Int) < 20 then (ip_words.j0 k a0 true) else (ip_words.j0 k a0 (decide ((a0.size : Int) > 512)))
theorem ip_words.mono_l : ∀ k, (∀ y0 y1, LeO (ip_words.j0 k y0 y1) (ip_words.j0 (k + 1) y0 y1)) ∧ (∀ y0 y1 y2, LeO (ip_words.j1 k y0 y1 y2) (ip_words.j1 (k + 1) y0 y1 y2))
  | 0 => ⟨fun _ _ r h => by simp [ip_words.j0] at h, fun _ _ _ r h => by simp [ip_words.j1] at h⟩
  | k + 1 => by
    obtain ⟨ih0, ih1⟩ := ip_words.mono_l k
    refine ⟨?_, ?_⟩
    · intro y0 y1
      unfold ip_words.j0
      repeat' first
      | (with_reducible exact ih0 _ _)
      | (with_reducible exact ih1 _ _ _)
      | (with_reducible exact ip_Number.mono _ _)
      | (with_reducible exact sum_Sum.mono _ _)
      | (with_reducible exact LeO.refl _)
      | (with_reducible exact LeO.none _)
      | (with_reducible refine LeO.ite ?_ ?_)
      | (with_reducible refine LeO.bind ?_ (fun _ => ?_))
      | exact ih0 _ _
      | exact ih1 _ _ _
      | exact ip_Number.mono _ _
      | exact sum_Sum.mono _ _
      | exact LeO.none _
      | refine LeO.ite ?_ ?_
      | refine LeO.bind ?_ (fun _ => ?_)
    · intro y0 y1 y2
      unfold ip_words.j1
      repeat' first
      | (with_reducible exact ih0 _ _)
      | (with_reducible exact ih1 _ _ _)
      | (with_reducible exact ip_Number.mono _ _)
      | (with_reducible exact sum_Sum.mono _ _)
      | (with_reducible exact LeO.refl _)
      | (with_reducible exact LeO.none _)
      | (with_reducible refine LeO.ite ?_ ?_)
      | (with_reducible refine LeO.bind ?_ (fun _ => ?_))
      | exact ih0 _ _
      | exact ih1 _ _ _
      | exact ip_Number.mono _ _
      | exact sum_Sum.mono _ _
      | exact LeO.none _
      | refine LeO.ite ?_ ?_
      | refine LeO.bind ?_ (fun _ => ?_)
theorem ip_words.mono : ∀ a0 k, LeO (ip_words.f k a0) (ip_words.f (k + 1) a0) := by
  intro a0 k
  obtain ⟨ih0, ih1⟩ := ip_words.mono_l k
  unfold ip_words.f
  repeat' first
      | (with_reducible exact ih0 _ _)
      | (with_reducible exact ih1 _ _ _)
      | (with_reducible exact ip_Number.mono _ _)
      | (with_reducible exact sum_Sum.mono _ _)
      | (with_reducible exact LeO.refl _)
      | (with_reducible exact LeO.none _)
      | (with_reducible refine LeO.ite ?_ ?_)
      | (with_reducible refine LeO.bind ?_ (fun _ => ?_))
      | exact ih0 _ _
      | exact ih1 _ _ _
      | exact ip_Number.mono _ _
      | exact sum_Sum.mono _ _
      | exact LeO.none _
      | refine LeO.ite ?_ ?_
      | refine LeO.bind ?_ (fun _ => ?_)
set_option maxHeartbeats 8000000 in
set_option maxRecDepth 100000 in
theorem ip_words.calls (k : Nat) (a0 : ByteArray) (r1 : Int) (r2 : Bool) (w : World) (h : ip_words.f k a0 = some (r1, r2)) :
    Calls Try.prog 86 #[.string a0] w fun e w' => e = .returned (.tuple #[.int .i64 r1, .bool r2]) ∧ Drawn0 w w' := by
  have H : (if (a0.size : Int) < 20 then (ip_words.j0 k a0 true) else (ip_words.j0 k a0 (decide ((a0.size : Int) > 512)))) = some (r1, r2) := h
  clear h
  have HC2 := Aside0.mk H
  clear H
  go_enter Try.func86, Try.ntmps86
  go_upto_region 1 with (fail)
  go_cut [12] (fun v12 wc => ∃ (kq : Nat) (x12_1 : Bool), v12 = .bool x12_1 ∧ Aside0 (ip_words.j0 kq a0 x12_1 = some (r1, r2)) ∧ Aside0 (kq ≤ k) ∧ Drawn0 w wc)
  case first =>
    have H := HC2.out
    clear HC2
    by_cases c3 : (a0.size : Int) < 20
    · rw [if_pos c3] at H
      have c3b0 : decide ((a0.size : Int) < 20) = true := decide_eq_true c3
      have c3b1 : decide (a0.size < 20) = true := decide_eq_true (by omega)
      clear c3
      (first | rw [c3b0] | (simp only [i64_w, i32_w]; rw [c3b0]) | skip)
      have H' := Aside0.mk H
      clear H
      go_wp2
      go_meet
      case rel => exact ⟨_, (true), (by first | rfl | (simp; done) | (simp [*]; done)), H', ⟨by first | omega | exact Nat.le_refl _⟩, by repeat (first | exact Drawn0.refl _ | apply Drawn0.step)⟩
    · rw [if_neg c3] at H
      have c3b0 : decide ((a0.size : Int) < 20) = false := decide_eq_false c3
      have c3b1 : decide (a0.size < 20) = false := decide_eq_false (by omega)
      clear c3
      (first | rw [c3b0] | (simp only [i64_w, i32_w]; rw [c3b0]) | skip)
      have H' := Aside0.mk H
      clear H
      go_wp2
      go_meet
      case rel => exact ⟨_, (decide ((a0.size : Int) > 512)), (by first | rfl | (simp; done) | (simp [*]; done)), H', ⟨by first | omega | exact Nat.le_refl _⟩, by repeat (first | exact Drawn0.refl _ | apply Drawn0.step)⟩
  case rest =>
    clear HC2
    try clear p2
    try clear c3
    try clear c3b0
    try clear c3b1
    obtain ⟨kq, x12_1, rfl, HA, HJ1, ⟨mc1, rfl⟩⟩ := hcut
    cases kq with
    | zero => exact absurd HA.out (by simp [ip_words.j0])
    | succ kj1 =>
      have H := HA.out
      clear HA
      simp only [ip_words.j0] at H
      by_cases c4 : x12_1 = true
      · subst c4
        have H1 : (some (0, false)) = some (r1, r2) := by rw [if_pos rfl] at H; exact H
        clear H
        have H := H1
        clear H1
        simp only [Option.some.injEq, Prod.mk.injEq] at H
        obtain ⟨rfl, rfl⟩ := H
        go_wp2
        go_ret2
        exact ⟨by first | rfl | (simp; done) | (simp [*]; done), by repeat (first | exact Drawn0.refl _ | apply Drawn0.step)⟩
      · replace c4 := Bool.eq_false_iff.mpr c4
        subst c4
        have H1 : (if 0 < (a0.size : Int) then (if ((bt a0 0) / 16) = 4 then (if (wrap64 (Go.bits .and .u8 (bt a0 0) 15)) < 5 then (ip_words.j1 kj1 a0 (wrap64 (Go.bits .and .u8 (bt a0 0) 15)) true) else (ip_words.j1 kj1 a0 (wrap64 (Go.bits .and .u8 (bt a0 0) 15)) (decide ((wrap64 (4 * (wrap64 (Go.bits .and .u8 (bt a0 0) 15)))) > (a0.size : Int))))) else (ip_words.j1 kj1 a0 (wrap64 (Go.bits .and .u8 (bt a0 0) 15)) true)) else (none)) = some (r1, r2) := by rw [if_neg (show ¬ (false = true) by decide)] at H; exact H
        clear H
        have H := H1
        clear H1
        by_cases c5 : 0 < (a0.size : Int)
        · rw [if_pos c5] at H
          have c5b0 : decide (0 < (a0.size : Int)) = true := decide_eq_true c5
          have c5b1 : decide (0 < a0.size) = true := decide_eq_true (by omega)
          clear c5
          have HC7 := Aside0.mk H
          clear H
          have p6 : 0 ≤ (0 : Int) := (by omega)
          have q6 : 0 < a0.size := (by have : (0 : Int) < (a0.size : Int) := of_decide_eq_true (by first | (with_reducible assumption) | assumption); omega)
          have hx6 : ∀ h : 0 < a0.size, ((a0[0]'h).toNat : Int) = bt a0 0 := bt_at a0 0
          clear p6
          have qi6 : (0 < (a0.size : Int)) = True := eq_true (of_decide_eq_true (by first | (with_reducible assumption) | assumption))
          replace q6 := eq_true q6
          go_upto_region 4 with (fail)
          go_cut [31] (fun v31 wc => ∃ (kq : Nat) (x31_6 : Bool), v31 = .bool x31_6 ∧ Aside0 (ip_words.j1 kq a0 (wrap64 (Go.bits .and .u8 (bt a0 0) 15)) x31_6 = some (r1, r2)) ∧ Aside0 (kq ≤ kj1) ∧ Drawn0 w wc)
          case first =>
            have H := HC7.out
            clear HC7
            by_cases c9 : ((bt a0 0) / 16) = 4
            · rw [if_pos c9] at H
              have c9b0 : (((bt a0 0) / 16) == 4) = true := beq_iff_eq.mpr c9
              have c9b1 : (((bt a0 0) / 16) != 4) = false := bne_eq_false_iff_eq.mpr c9
              clear c9
              (first | rw [c9b0] | (simp only [i64_w, i32_w]; rw [c9b0]) | skip)
              by_cases c10 : (wrap64 (Go.bits .and .u8 (bt a0 0) 15)) < 5
              · rw [if_pos c10] at H
                have c10b0 : decide ((wrap64 (Go.bits .and .u8 (bt a0 0) 15)) < 5) = true := decide_eq_true c10
                clear c10
                have H' := Aside0.mk H
                clear H
                have p8 : 0 ≤ (0 : Int) := (by omega)
                have q8 : 0 < a0.size := (by have : (0 : Int) < (a0.size : Int) := of_decide_eq_true (by first | (with_reducible assumption) | assumption); omega)
                have hx8 : ∀ h : 0 < a0.size, ((a0[0]'h).toNat : Int) = bt a0 0 := bt_at a0 0
                clear p8
                have qi8 : (0 < (a0.size : Int)) = True := eq_true (of_decide_eq_true (by first | (with_reducible assumption) | assumption))
                replace q8 := eq_true q8
                go_wp2
                go_meet
                case rel => exact ⟨_, (true), (by first | rfl | (simp; done) | (simp [*]; done)), H', ⟨by have := HJ1.out; first | omega | exact Nat.le_refl _⟩, by repeat (first | exact Drawn0.refl _ | apply Drawn0.step)⟩
              · rw [if_neg c10] at H
                have c10b0 : decide ((wrap64 (Go.bits .and .u8 (bt a0 0) 15)) < 5) = false := decide_eq_false c10
                clear c10
                have H' := Aside0.mk H
                clear H
                have p8 : 0 ≤ (0 : Int) := (by omega)
                have q8 : 0 < a0.size := (by have : (0 : Int) < (a0.size : Int) := of_decide_eq_true (by first | (with_reducible assumption) | assumption); omega)
                have hx8 : ∀ h : 0 < a0.size, ((a0[0]'h).toNat : Int) = bt a0 0 := bt_at a0 0
                clear p8
                have qi8 : (0 < (a0.size : Int)) = True := eq_true (of_decide_eq_true (by first | (with_reducible assumption) | assumption))
                replace q8 := eq_true q8
                go_wp2
                go_meet
                case rel => exact ⟨_, (decide ((wrap64 (4 * (wrap64 (Go.bits .and .u8 (bt a0 0) 15)))) > (a0.size : Int))), (by first | rfl | (simp; done) | (simp [*]; done)), H', ⟨by have := HJ1.out; first | omega | exact Nat.le_refl _⟩, by repeat (first | exact Drawn0.refl _ | apply Drawn0.step)⟩
            · rw [if_neg c9] at H
              have c9b0 : (((bt a0 0) / 16) == 4) = false := beq_eq_false_iff_ne.mpr c9
              have c9b1 : (((bt a0 0) / 16) != 4) = true := bne_iff_ne.mpr c9
              (first | rw [c9b0] | (simp only [i64_w, i32_w]; rw [c9b0]) | skip)
              have H' := Aside0.mk H
              clear H
              have p8 : 0 ≤ (0 : Int) := (by omega)
              have q8 : 0 < a0.size := (by have : (0 : Int) < (a0.size : Int) := of_decide_eq_true (by first | (with_reducible assumption) | assumption); omega)
              have hx8 : ∀ h : 0 < a0.size, ((a0[0]'h).toNat : Int) = bt a0 0 := bt_at a0 0
              clear p8
              have qi8 : (0 < (a0.size : Int)) = True := eq_true (of_decide_eq_true (by first | (with_reducible assumption) | assumption))
              replace q8 := eq_true q8
              go_wp2
              go_meet
              case rel => exact ⟨_, (true), (by first | rfl | (simp; done) | (simp [*]; done)), H', ⟨by have := HJ1.out; first | omega | exact Nat.le_refl _⟩, by repeat (first | exact Drawn0.refl _ | apply Drawn0.step)⟩
          case rest =>
            clear HC7
            try clear c1
            try clear p2
            try clear c3
            try clear c3b0
            try clear c3b1
            try clear c4
            try clear c5
            try clear c5b0
            try clear c5b1
            try clear p6
            try clear q6
            try clear hx6
            try clear qi6
            try clear c8
            try clear p8
            try clear q8
            try clear hx8
            try clear qi8
            try clear c9
            try clear c9b0
            try clear c9b1
            try clear c10
            try clear c10b0
            try clear p2
            try clear p6
            try clear p8
            try clear q6
            try clear q8
            obtain ⟨kq, x31_6, rfl, HA, HJ6, ⟨mc6, rfl⟩⟩ := hcut
            cases kq with
            | zero => exact absurd HA.out (by simp [ip_words.j1])
            | succ kj6 =>
              have H := HA.out
              clear HA
              simp only [ip_words.j1] at H
              by_cases c11 : x31_6 = true
              · subst c11
                have H1 : (some (0, false)) = some (r1, r2) := by rw [if_pos rfl] at H; exact H
                clear H
                have H := H1
                clear H1
                simp only [Option.some.injEq, Prod.mk.injEq] at H
                obtain ⟨rfl, rfl⟩ := H
                go_wp2
                go_ret2
                exact ⟨by first | rfl | (simp; done) | (simp [*]; done), by repeat (first | exact Drawn0.refl _ | apply Drawn0.step)⟩
              · replace c11 := Bool.eq_false_iff.mpr c11
                subst c11
                have H1 : (if 2 ≤ 4 then (if 4 ≤ (a0.size : Int) then ((ip_Number.f kj6 (a0.extract 2 4)).bind fun t691 => (if t691 = (a0.size : Int) then (if 0 ≤ (wrap64 (4 * (wrap64 (Go.bits .and .u8 (bt a0 0) 15)))) then (if (wrap64 (4 * (wrap64 (Go.bits .and .u8 (bt a0 0) 15)))) ≤ (a0.size : Int) then ((sum_Sum.f kj6 (a0.extract 0 ((wrap64 (4 * (wrap64 (Go.bits .and .u8 (bt a0 0) 15)))) : Int).toNat)).bind fun t692 => (some ((wrap64 (Go.bits .and .u8 (bt a0 0) 15)), (t692 == 65535)))) else (none)) else (none)) else (some ((wrap64 (Go.bits .and .u8 (bt a0 0) 15)), false)))) else (none)) else (none)) = some (r1, r2) := by rw [if_neg (show ¬ (false = true) by decide)] at H; exact H
                clear H
                have H := H1
                clear H1
                by_cases c12 : 2 ≤ 4
                · rw [if_pos c12] at H
                  have c12b0 := eq_true c12
                  have c12b1 : decide (2 ≤ 4) = true := decide_eq_true c12
                  clear c12
                  by_cases c13 : 4 ≤ (a0.size : Int)
                  · rw [if_pos c13] at H
                    have c13b0 := eq_true c13
                    have c13b1 : decide (4 ≤ (a0.size : Int)) = true := decide_eq_true c13
                    clear c13
                    replace H := Option.bind_eq_some_iff.mp H
                    obtain ⟨t691, A140, H⟩ := H
                    replace H : (if t691 = (a0.size : Int) then (if 0 ≤ (wrap64 (4 * (wrap64 (Go.bits .and .u8 (bt a0 0) 15)))) then (if (wrap64 (4 * (wrap64 (Go.bits .and .u8 (bt a0 0) 15)))) ≤ (a0.size : Int) then ((sum_Sum.f kj6 (a0.extract 0 ((wrap64 (4 * (wrap64 (Go.bits .and .u8 (bt a0 0) 15)))) : Int).toNat)).bind fun t692 => (some ((wrap64 (Go.bits .and .u8 (bt a0 0) 15)), (t692 == 65535)))) else (none)) else (none)) else (some ((wrap64 (Go.bits .and .u8 (bt a0 0) 15)), false))) = some (r1, r2) := H
                    have A14 := Aside0.mk A140
                    clear A140
                    by_cases c15 : t691 = (a0.size : Int)
                    · rw [if_pos c15] at H
                      have c15b0 : (t691 == (a0.size : Int)) = true := beq_iff_eq.mpr c15
                      have c15b1 : (t691 != (a0.size : Int)) = false := bne_eq_false_iff_eq.mpr c15
                      clear c15
                      obtain ⟨ji16, hji16⟩ : ∃ j_ : Int, (wrap64 (4 * (wrap64 (Go.bits .and .u8 (bt a0 0) 15)))) = j_ := ⟨_, rfl⟩
                      replace H : (if 0 ≤ (ji16) then (if (ji16) ≤ (a0.size : Int) then ((sum_Sum.f kj6 (a0.extract 0 ((ji16) : Int).toNat)).bind fun t692 => (some ((wrap64 (Go.bits .and .u8 (bt a0 0) 15)), (t692 == 65535)))) else (none)) else (none)) = some (r1, r2) := by first | (rw [hji16] at H; exact H) | (simp only [hji16] at H ⊢; exact H)
                      (try rw [hji16] at A14)
                      have hji16w : (IntKind.i64.wrap (4 * (wrap64 (Go.bits .and .u8 (bt a0 0) 15)))) = ji16 := (i64_w _).trans hji16
                      by_cases c17 : 0 ≤ (ji16)
                      · rw [if_pos c17] at H
                        have c17b0 := eq_true c17
                        have c17b1 : decide (0 ≤ (ji16)) = true := decide_eq_true c17
                        clear c17
                        by_cases c18 : (ji16) ≤ (a0.size : Int)
                        · rw [if_pos c18] at H
                          have c18b0 := eq_true c18
                          have c18b1 : decide ((ji16) ≤ (a0.size : Int)) = true := decide_eq_true c18
                          clear c18
                          replace H := Option.bind_eq_some_iff.mp H
                          obtain ⟨t692, A190, H⟩ := H
                          replace H : (some ((wrap64 (Go.bits .and .u8 (bt a0 0) 15)), (t692 == 65535))) = some (r1, r2) := H
                          have A19 := Aside0.mk A190
                          clear A190
                          simp only [Option.some.injEq, Prod.mk.injEq] at H
                          obtain ⟨rfl, rfl⟩ := H
                          go_wp2_with (first | ((with_reducible refine gate_callee (f := 53) rfl ?_); refine goesL_ (some 35) rfl rfl Try.func53 (by kernel_rfl) rfl #[.string (a0.extract 2 4)] rfl (by (try simp only [List.map_toArray, List.map_cons, List.map_nil]); first | done | rfl | (simp only [List.length_drop, List.length_take]; rfl)) ?_; (with_reducible refine (ip_Number.calls kj6 (a0.extract 2 4) t691 _ A14.out).mono ?_); rintro e w' ⟨rfl, ⟨nd, rfl⟩⟩; refine ⟨_, rfl, ?_⟩) | (go_at_call 84; (with_reducible refine (sum_Sum.calls kj6 (a0.extract 0 ((ji16) : Int).toNat) t692 _ A19.out).mono ?_); rintro e w' ⟨rfl, ⟨nd, rfl⟩⟩))
                          go_ret2
                          exact ⟨by first | rfl | (simp; done) | (simp only [← hji16] <;> (first | rfl | simp)) | (simp [*]; done), by repeat (first | exact Drawn0.refl _ | apply Drawn0.step)⟩
                        · rw [if_neg c18] at H
                          exact absurd H (by simp)
                      · rw [if_neg c17] at H
                        exact absurd H (by simp)
                    · rw [if_neg c15] at H
                      have c15b0 : (t691 == (a0.size : Int)) = false := beq_eq_false_iff_ne.mpr c15
                      have c15b1 : (t691 != (a0.size : Int)) = true := bne_iff_ne.mpr c15
                      simp only [Option.some.injEq, Prod.mk.injEq] at H
                      obtain ⟨rfl, rfl⟩ := H
                      go_wp2_with (first | ((with_reducible refine gate_callee (f := 53) rfl ?_); refine goesL_ (some 35) rfl rfl Try.func53 (by kernel_rfl) rfl #[.string (a0.extract 2 4)] rfl (by (try simp only [List.map_toArray, List.map_cons, List.map_nil]); first | done | rfl | (simp only [List.length_drop, List.length_take]; rfl)) ?_; (with_reducible refine (ip_Number.calls kj6 (a0.extract 2 4) t691 _ A14.out).mono ?_); rintro e w' ⟨rfl, ⟨nd, rfl⟩⟩; refine ⟨_, rfl, ?_⟩))
                      go_ret2
                      exact ⟨by first | rfl | (simp; done) | (simp [*]; done), by repeat (first | exact Drawn0.refl _ | apply Drawn0.step)⟩
                  · rw [if_neg c13] at H
                    exact absurd H (by simp)
                · rw [if_neg c12] at H
                  exact absurd H (by simp)
        · rw [if_neg c5] at H
          exact absurd H (by simp)

end Go.Proofs.Ytobhmonmeocfmaa.PA
