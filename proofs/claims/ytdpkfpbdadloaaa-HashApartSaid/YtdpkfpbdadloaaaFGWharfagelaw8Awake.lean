-- printed by a program of this session (myprint.py) out of the translation
import Derived.Test.YtdpkfpbdadloaaaFG0
import Derived.Test.YtdpkfpbdadloaaaFGWharfagelaw0Num
import Derived.Test.YtdpkfpbdadloaaaFGHashMixB
import Derived.Test.YtdpkfpbdadloaaaFGHashFlow
namespace Go.Proofs.Ytdpkfpbdadloaaa.PG
open Go.RowKit Go.Proofs.YtdpkfpbdadloaaaW.PrintWords Go.Proofs.YtdpkfpbdadloaaaW.PrintLast Go.Proofs.YtdpkfpbdadloaaaW.PrintMore
attribute [local go_sem] max2_int min2_int max_two min_two max_three min_three max_four min_four   -- for this text's walks alone
set_option linter.unusedVariables false
set_option linter.unusedSimpArgs false

/-! ### wharfagelaw8_awake: function 42 -/
def wharfagelaw8_awake.f (k : Nat)  : Option (Bool) := (hash_Mix.f 1 2).bind fun bt118 => ((hash_Mix.f (-1) 2).bind fun bt120 => ((hash_Flow.f k 0 0 0 0 0 0).bind fun bt122 => ((hash_Flow.f k 1 0 0 17 0 0).bind fun bt124 => (if bt118.1 ≥ 0 then (if bt118.1 ≤ 4294967295 then ((wharfagelaw0_Num.f bt118.2).bind fun t126 => (if t126 = 0 then ((wharfagelaw0_Num.f bt120.2).bind fun t127 => (if t127 = 800 then ((wharfagelaw0_Num.f bt122.2).bind fun t128 => (if t128 = 800 then (if bt124.1 ≥ 0 then (if bt124.1 ≤ 4294967295 then ((wharfagelaw0_Num.f bt124.2).bind fun t129 => (some (t129 == 0))) else (none)) else (none)) else (none))) else (none))) else (none))) else (none)) else (none)))))
theorem wharfagelaw8_awake.mono : ∀ k, LeO (wharfagelaw8_awake.f k ) (wharfagelaw8_awake.f (k + 1) ) := by
  intro  k
  unfold wharfagelaw8_awake.f
  repeat' first
      | (with_reducible exact hash_Flow.mono _ _ _ _ _ _ _)
      | (with_reducible exact LeO.refl _)
      | (with_reducible exact LeO.none _)
      | (with_reducible refine LeO.ite ?_ ?_)
      | (with_reducible refine LeO.bind ?_ (fun _ => ?_))
      | exact hash_Flow.mono _ _ _ _ _ _ _
      | exact LeO.none _
      | refine LeO.ite ?_ ?_
      | refine LeO.bind ?_ (fun _ => ?_)
set_option maxHeartbeats 8000000 in
set_option maxRecDepth 100000 in
theorem wharfagelaw8_awake.calls (k : Nat)  (r : Bool) (w : World) (h : wharfagelaw8_awake.f k  = some r) :
    Calls Try.prog 42 #[] w fun e w' => e = .returned (.bool r) ∧ Below w.heap.size w w' := by
  have hu50 := Try.underlying50
  have HB := Aside0.mk (Below.refl w.heap.size w)
  have H : ((hash_Mix.f 1 2).bind fun bt118 => ((hash_Mix.f (-1) 2).bind fun bt120 => ((hash_Flow.f k 0 0 0 0 0 0).bind fun bt122 => ((hash_Flow.f k 1 0 0 17 0 0).bind fun bt124 => (if bt118.1 ≥ 0 then (if bt118.1 ≤ 4294967295 then ((wharfagelaw0_Num.f bt118.2).bind fun t126 => (if t126 = 0 then ((wharfagelaw0_Num.f bt120.2).bind fun t127 => (if t127 = 800 then ((wharfagelaw0_Num.f bt122.2).bind fun t128 => (if t128 = 800 then (if bt124.1 ≥ 0 then (if bt124.1 ≤ 4294967295 then ((wharfagelaw0_Num.f bt124.2).bind fun t129 => (some (t129 == 0))) else (none)) else (none)) else (none))) else (none))) else (none))) else (none)) else (none)))))) = some r := h
  clear h
  replace H := Option.bind_eq_some_iff.mp H
  obtain ⟨⟨t118, t119⟩, A10, H⟩ := H
  replace H : ((hash_Mix.f (-1) 2).bind fun bt120 => ((hash_Flow.f k 0 0 0 0 0 0).bind fun bt122 => ((hash_Flow.f k 1 0 0 17 0 0).bind fun bt124 => (if t118 ≥ 0 then (if t118 ≤ 4294967295 then ((wharfagelaw0_Num.f t119).bind fun t126 => (if t126 = 0 then ((wharfagelaw0_Num.f bt120.2).bind fun t127 => (if t127 = 800 then ((wharfagelaw0_Num.f bt122.2).bind fun t128 => (if t128 = 800 then (if bt124.1 ≥ 0 then (if bt124.1 ≤ 4294967295 then ((wharfagelaw0_Num.f bt124.2).bind fun t129 => (some (t129 == 0))) else (none)) else (none)) else (none))) else (none))) else (none))) else (none)) else (none))))) = some r := H
  have A1 := Aside0.mk A10
  clear A10
  replace H := Option.bind_eq_some_iff.mp H
  obtain ⟨⟨t120, t121⟩, A20, H⟩ := H
  replace H : ((hash_Flow.f k 0 0 0 0 0 0).bind fun bt122 => ((hash_Flow.f k 1 0 0 17 0 0).bind fun bt124 => (if t118 ≥ 0 then (if t118 ≤ 4294967295 then ((wharfagelaw0_Num.f t119).bind fun t126 => (if t126 = 0 then ((wharfagelaw0_Num.f t121).bind fun t127 => (if t127 = 800 then ((wharfagelaw0_Num.f bt122.2).bind fun t128 => (if t128 = 800 then (if bt124.1 ≥ 0 then (if bt124.1 ≤ 4294967295 then ((wharfagelaw0_Num.f bt124.2).bind fun t129 => (some (t129 == 0))) else (none)) else (none)) else (none))) else (none))) else (none))) else (none)) else (none)))) = some r := H
  have A2 := Aside0.mk A20
  clear A20
  replace H := Option.bind_eq_some_iff.mp H
  obtain ⟨⟨t122, t123⟩, A30, H⟩ := H
  replace H : ((hash_Flow.f k 1 0 0 17 0 0).bind fun bt124 => (if t118 ≥ 0 then (if t118 ≤ 4294967295 then ((wharfagelaw0_Num.f t119).bind fun t126 => (if t126 = 0 then ((wharfagelaw0_Num.f t121).bind fun t127 => (if t127 = 800 then ((wharfagelaw0_Num.f t123).bind fun t128 => (if t128 = 800 then (if bt124.1 ≥ 0 then (if bt124.1 ≤ 4294967295 then ((wharfagelaw0_Num.f bt124.2).bind fun t129 => (some (t129 == 0))) else (none)) else (none)) else (none))) else (none))) else (none))) else (none)) else (none))) = some r := H
  have A3 := Aside0.mk A30
  clear A30
  replace H := Option.bind_eq_some_iff.mp H
  obtain ⟨⟨t124, t125⟩, A40, H⟩ := H
  replace H : (if t118 ≥ 0 then (if t118 ≤ 4294967295 then ((wharfagelaw0_Num.f t119).bind fun t126 => (if t126 = 0 then ((wharfagelaw0_Num.f t121).bind fun t127 => (if t127 = 800 then ((wharfagelaw0_Num.f t123).bind fun t128 => (if t128 = 800 then (if t124 ≥ 0 then (if t124 ≤ 4294967295 then ((wharfagelaw0_Num.f t125).bind fun t129 => (some (t129 == 0))) else (none)) else (none)) else (none))) else (none))) else (none))) else (none)) else (none)) = some r := H
  have A4 := Aside0.mk A40
  clear A40
  by_cases c5 : t118 ≥ 0
  · rw [if_pos c5] at H
    have c5b0 : decide (0 ≤ t118) = true := decide_eq_true c5
    clear c5
    by_cases c6 : t118 ≤ 4294967295
    · rw [if_pos c6] at H
      have c6b0 : decide (t118 ≤ 4294967295) = true := decide_eq_true c6
      clear c6
      replace H := Option.bind_eq_some_iff.mp H
      obtain ⟨t126, A70, H⟩ := H
      replace H : (if t126 = 0 then ((wharfagelaw0_Num.f t121).bind fun t127 => (if t127 = 800 then ((wharfagelaw0_Num.f t123).bind fun t128 => (if t128 = 800 then (if t124 ≥ 0 then (if t124 ≤ 4294967295 then ((wharfagelaw0_Num.f t125).bind fun t129 => (some (t129 == 0))) else (none)) else (none)) else (none))) else (none))) else (none)) = some r := H
      have A7 := Aside0.mk A70
      clear A70
      by_cases c8 : t126 = 0
      · rw [if_pos c8] at H
        have c8b0 : (t126 == 0) = true := beq_iff_eq.mpr c8
        have c8b1 : (t126 != 0) = false := bne_eq_false_iff_eq.mpr c8
        clear c8
        replace H := Option.bind_eq_some_iff.mp H
        obtain ⟨t127, A90, H⟩ := H
        replace H : (if t127 = 800 then ((wharfagelaw0_Num.f t123).bind fun t128 => (if t128 = 800 then (if t124 ≥ 0 then (if t124 ≤ 4294967295 then ((wharfagelaw0_Num.f t125).bind fun t129 => (some (t129 == 0))) else (none)) else (none)) else (none))) else (none)) = some r := H
        have A9 := Aside0.mk A90
        clear A90
        by_cases c10 : t127 = 800
        · rw [if_pos c10] at H
          have c10b0 : (t127 == 800) = true := beq_iff_eq.mpr c10
          have c10b1 : (t127 != 800) = false := bne_eq_false_iff_eq.mpr c10
          clear c10
          replace H := Option.bind_eq_some_iff.mp H
          obtain ⟨t128, A110, H⟩ := H
          replace H : (if t128 = 800 then (if t124 ≥ 0 then (if t124 ≤ 4294967295 then ((wharfagelaw0_Num.f t125).bind fun t129 => (some (t129 == 0))) else (none)) else (none)) else (none)) = some r := H
          have A11 := Aside0.mk A110
          clear A110
          by_cases c12 : t128 = 800
          · rw [if_pos c12] at H
            have c12b0 : (t128 == 800) = true := beq_iff_eq.mpr c12
            have c12b1 : (t128 != 800) = false := bne_eq_false_iff_eq.mpr c12
            clear c12
            by_cases c13 : t124 ≥ 0
            · rw [if_pos c13] at H
              have c13b0 : decide (0 ≤ t124) = true := decide_eq_true c13
              clear c13
              by_cases c14 : t124 ≤ 4294967295
              · rw [if_pos c14] at H
                have c14b0 : decide (t124 ≤ 4294967295) = true := decide_eq_true c14
                clear c14
                replace H := Option.bind_eq_some_iff.mp H
                obtain ⟨t129, A150, H⟩ := H
                replace H : (some (t129 == 0)) = some r := H
                have A15 := Aside0.mk A150
                clear A150
                obtain rfl := Option.some.inj H
                go_enter Try.func42, Try.ntmps42
                go_wp2_with (first | ((with_reducible refine gate_callee (f := 38) rfl ?_); refine goesL_ (some 10) rfl rfl Try.func38 (by kernel_rfl) rfl #[.int .i64 1, .int .i64 2] rfl (by (try simp only [List.map_toArray, List.map_cons, List.map_nil]); first | done | rfl | (simp only [List.length_drop, List.length_take]; rfl)) ?_; (with_reducible refine (hash_Mix.calls 1 2 t118 t119 _ A1.out).mono ?_); rintro e w' ⟨rfl, ⟨nd, rfl⟩⟩; refine ⟨_, rfl, ?_⟩) | ((with_reducible refine gate_callee (f := 38) rfl ?_); refine goesL_ (some 14) rfl rfl Try.func38 (by kernel_rfl) rfl #[.int .i64 (-1), .int .i64 2] rfl (by (try simp only [List.map_toArray, List.map_cons, List.map_nil]); first | done | rfl | (simp only [List.length_drop, List.length_take]; rfl)) ?_; (with_reducible refine (hash_Mix.calls (-1) 2 t120 t121 _ A2.out).mono ?_); rintro e w' ⟨rfl, ⟨nd, rfl⟩⟩; refine ⟨_, rfl, ?_⟩) | ((with_reducible refine gate_callee (f := 40) rfl ?_); refine goesL_ (some 19) rfl rfl Try.func40 (by kernel_rfl) rfl #[.int .i64 0, .agg #[.int .i64 0, .int .i64 0, .int .i64 0, .int .i64 0, .int .i64 0]] rfl (by (try simp only [List.map_toArray, List.map_cons, List.map_nil]); first | done | rfl | (simp only [List.length_drop, List.length_take]; rfl)) ?_; (with_reducible refine (hash_Flow.calls k 0 0 0 0 0 0 t122 t123 _ A3.out).mono ?_); rintro e w16 ⟨rfl, hb⟩; refine ⟨_, rfl, ?_⟩; have n0_ := Aside0.mk (below_step (by repeat (first | (with_reducible first | exact HB.out | apply below_alloc | apply pw_below_drewN | apply below_drew1) | exact HB.out)) hb); clear HB; have HB := n0_; clear n0_; (try clear hb); (try clear hb2); (try clear hk); (try clear hi)) | ((with_reducible refine gate_callee (f := 40) rfl ?_); refine goesL_ (some 24) rfl rfl Try.func40 (by kernel_rfl) rfl #[.int .i64 1, .agg #[.int .i64 0, .int .i64 0, .int .i64 17, .int .i64 0, .int .i64 0]] rfl (by (try simp only [List.map_toArray, List.map_cons, List.map_nil]); first | done | rfl | (simp only [List.length_drop, List.length_take]; rfl)) ?_; (with_reducible refine (hash_Flow.calls k 1 0 0 17 0 0 t124 t125 _ A4.out).mono ?_); rintro e w17 ⟨rfl, hb⟩; refine ⟨_, rfl, ?_⟩; have n0_ := Aside0.mk (below_step (by repeat (first | (with_reducible first | exact HB.out | apply below_alloc | apply pw_below_drewN | apply below_drew1) | exact HB.out)) hb); clear HB; have HB := n0_; clear n0_; (try clear hb); (try clear hb2); (try clear hk); (try clear hi)) | (go_at_call 28; (with_reducible refine (wharfagelaw0_Num.calls t119 t126 _ A7.out).mono ?_); rintro e w' ⟨rfl, ⟨nd, rfl⟩⟩) | (go_at_call 28; (with_reducible refine (wharfagelaw0_Num.calls t121 t127 _ A9.out).mono ?_); rintro e w' ⟨rfl, ⟨nd, rfl⟩⟩) | (go_at_call 28; (with_reducible refine (wharfagelaw0_Num.calls t123 t128 _ A11.out).mono ?_); rintro e w' ⟨rfl, ⟨nd, rfl⟩⟩) | (go_at_call 28; (with_reducible refine (wharfagelaw0_Num.calls t125 t129 _ A15.out).mono ?_); rintro e w' ⟨rfl, ⟨nd, rfl⟩⟩))
                go_ret
                exact ⟨by first | rfl | (simp [errW_none, errW_some] <;> rfl) | (simp [*, errW_none, errW_some] <;> rfl), by repeat (first | (with_reducible first | exact HB.out | apply below_alloc | apply pw_below_drewN | apply below_drew1) | exact HB.out)⟩
              · rw [if_neg c14] at H
                exact absurd H (by simp)
            · rw [if_neg c13] at H
              exact absurd H (by simp)
          · rw [if_neg c12] at H
            exact absurd H (by simp)
        · rw [if_neg c10] at H
          exact absurd H (by simp)
      · rw [if_neg c8] at H
        exact absurd H (by simp)
    · rw [if_neg c6] at H
      exact absurd H (by simp)
  · rw [if_neg c5] at H
    exact absurd H (by simp)

end Go.Proofs.Ytdpkfpbdadloaaa.PG
