-- printed by a program of this session (myprint.py) out of the translation
import Derived.Test.YtobhmonmeocfmaaFAM0
namespace Go.Proofs.Ytobhmonmeocfmaa.PA
open Go.RowKit Go.Proofs.YtobhmonmeocfmaaW.PrintWords Go.Proofs.YtobhmonmeocfmaaW.PrintLast Go.Proofs.YtobhmonmeocfmaaW.PrintMore
attribute [local go_sem] max2_int min2_int max_two min_two max_three min_three max_four min_four   -- for this text's walks alone
set_option linter.unusedVariables false
set_option linter.unusedSimpArgs false

/-! ### wharfageref1_pseudo: function 62 -/
def wharfageref1_pseudo.f (k : Nat) (a0 : Int) (a1 : ByteArray) (a2 : Int) (a3 : Int) : Option (Int) := (wharfageref1_Num.f k a2 4).bind fun t419 => ((wharfageref1_Num.f k a3 4).bind fun t420 => (if t419.size + t420.size ≤ 9223372036854775807 then ((wharfageref1_Num.f k a0 2).bind fun t421 => (if (t419 ++ t420).size + t421.size ≤ 9223372036854775807 then ((wharfageref1_Num.f k (a1.size : Int) 2).bind fun t422 => (if ((t419 ++ t420) ++ t421).size + t422.size ≤ 9223372036854775807 then (if (((t419 ++ t420) ++ t421) ++ t422).size + a1.size ≤ 9223372036854775807 then ((wharfageref1_Sum.f k ((((t419 ++ t420) ++ t421) ++ t422) ++ a1)).bind fun t423 => (some t423)) else (none)) else (none))) else (none))) else (none)))
theorem wharfageref1_pseudo.mono : ∀ a0 a1 a2 a3 k, LeO (wharfageref1_pseudo.f k a0 a1 a2 a3) (wharfageref1_pseudo.f (k + 1) a0 a1 a2 a3) := by
  intro a0 a1 a2 a3 k
  unfold wharfageref1_pseudo.f
  repeat' first
      | (with_reducible exact wharfageref1_Num.mono _ _ _)
      | (with_reducible exact wharfageref1_Sum.mono _ _)
      | (with_reducible exact LeO.refl _)
      | (with_reducible exact LeO.none _)
      | (with_reducible refine LeO.ite ?_ ?_)
      | (with_reducible refine LeO.bind ?_ (fun _ => ?_))
      | exact wharfageref1_Num.mono _ _ _
      | exact wharfageref1_Sum.mono _ _
      | exact LeO.none _
      | refine LeO.ite ?_ ?_
      | refine LeO.bind ?_ (fun _ => ?_)
set_option maxHeartbeats 8000000 in
set_option maxRecDepth 100000 in
theorem wharfageref1_pseudo.calls (k : Nat) (a0 : Int) (a1 : ByteArray) (a2 : Int) (a3 : Int) (r : Int) (w : World) (h : wharfageref1_pseudo.f k a0 a1 a2 a3 = some r) :
    Calls Try.prog 62 #[.int .i64 a0, .string a1, .int .i64 a2, .int .i64 a3] w fun e w' => e = .returned (.int .i64 r) ∧ Below w.heap.size w w' := by
  have HB := Aside0.mk (Below.refl w.heap.size w)
  have H : ((wharfageref1_Num.f k a2 4).bind fun t419 => ((wharfageref1_Num.f k a3 4).bind fun t420 => (if t419.size + t420.size ≤ 9223372036854775807 then ((wharfageref1_Num.f k a0 2).bind fun t421 => (if (t419 ++ t420).size + t421.size ≤ 9223372036854775807 then ((wharfageref1_Num.f k (a1.size : Int) 2).bind fun t422 => (if ((t419 ++ t420) ++ t421).size + t422.size ≤ 9223372036854775807 then (if (((t419 ++ t420) ++ t421) ++ t422).size + a1.size ≤ 9223372036854775807 then ((wharfageref1_Sum.f k ((((t419 ++ t420) ++ t421) ++ t422) ++ a1)).bind fun t423 => (some t423)) else (none)) else (none))) else (none))) else (none)))) = some r := h
  clear h
  replace H := Option.bind_eq_some_iff.mp H
  obtain ⟨t419, A50, H⟩ := H
  replace H : ((wharfageref1_Num.f k a3 4).bind fun t420 => (if t419.size + t420.size ≤ 9223372036854775807 then ((wharfageref1_Num.f k a0 2).bind fun t421 => (if (t419 ++ t420).size + t421.size ≤ 9223372036854775807 then ((wharfageref1_Num.f k (a1.size : Int) 2).bind fun t422 => (if ((t419 ++ t420) ++ t421).size + t422.size ≤ 9223372036854775807 then (if (((t419 ++ t420) ++ t421) ++ t422).size + a1.size ≤ 9223372036854775807 then ((wharfageref1_Sum.f k ((((t419 ++ t420) ++ t421) ++ t422) ++ a1)).bind fun t423 => (some t423)) else (none)) else (none))) else (none))) else (none))) = some r := H
  have A5 := Aside0.mk A50
  clear A50
  replace H := Option.bind_eq_some_iff.mp H
  obtain ⟨t420, A60, H⟩ := H
  replace H : (if t419.size + t420.size ≤ 9223372036854775807 then ((wharfageref1_Num.f k a0 2).bind fun t421 => (if (t419 ++ t420).size + t421.size ≤ 9223372036854775807 then ((wharfageref1_Num.f k (a1.size : Int) 2).bind fun t422 => (if ((t419 ++ t420) ++ t421).size + t422.size ≤ 9223372036854775807 then (if (((t419 ++ t420) ++ t421) ++ t422).size + a1.size ≤ 9223372036854775807 then ((wharfageref1_Sum.f k ((((t419 ++ t420) ++ t421) ++ t422) ++ a1)).bind fun t423 => (some t423)) else (none)) else (none))) else (none))) else (none)) = some r := H
  have A6 := Aside0.mk A60
  clear A60
  by_cases c7 : t419.size + t420.size ≤ 9223372036854775807
  · rw [if_pos c7] at H
    have c7b0 := eq_true c7
    have c7b1 : decide (t419.size + t420.size ≤ 9223372036854775807) = true := decide_eq_true c7
    try have c7b2 : (9223372036854775807 < t419.size + t420.size) = False := eq_false (Nat.not_lt.2 c7)
    replace H := Option.bind_eq_some_iff.mp H
    obtain ⟨t421, A80, H⟩ := H
    replace H : (if (t419 ++ t420).size + t421.size ≤ 9223372036854775807 then ((wharfageref1_Num.f k (a1.size : Int) 2).bind fun t422 => (if ((t419 ++ t420) ++ t421).size + t422.size ≤ 9223372036854775807 then (if (((t419 ++ t420) ++ t421) ++ t422).size + a1.size ≤ 9223372036854775807 then ((wharfageref1_Sum.f k ((((t419 ++ t420) ++ t421) ++ t422) ++ a1)).bind fun t423 => (some t423)) else (none)) else (none))) else (none)) = some r := H
    have A8 := Aside0.mk A80
    clear A80
    by_cases c9 : (t419 ++ t420).size + t421.size ≤ 9223372036854775807
    · rw [if_pos c9] at H
      have c9b0 := eq_true c9
      have c9b1 : decide ((t419 ++ t420).size + t421.size ≤ 9223372036854775807) = true := decide_eq_true c9
      try have c9b2 : (9223372036854775807 < (t419 ++ t420).size + t421.size) = False := eq_false (Nat.not_lt.2 c9)
      have c9z := eq_false (Nat.not_lt.mpr c9)
      (try simp only [ByteArray.size_append', ByteArray.size_mk', ByteArray.size_extract, List.size_toArray, List.length_cons, List.length_nil, Nat.reduceAdd, Nat.zero_add, Nat.sub_zero, Nat.min_self] at c9z)
      replace H := Option.bind_eq_some_iff.mp H
      obtain ⟨t422, A100, H⟩ := H
      replace H : (if ((t419 ++ t420) ++ t421).size + t422.size ≤ 9223372036854775807 then (if (((t419 ++ t420) ++ t421) ++ t422).size + a1.size ≤ 9223372036854775807 then ((wharfageref1_Sum.f k ((((t419 ++ t420) ++ t421) ++ t422) ++ a1)).bind fun t423 => (some t423)) else (none)) else (none)) = some r := H
      have A10 := Aside0.mk A100
      clear A100
      by_cases c11 : ((t419 ++ t420) ++ t421).size + t422.size ≤ 9223372036854775807
      · rw [if_pos c11] at H
        have c11b0 := eq_true c11
        have c11b1 : decide (((t419 ++ t420) ++ t421).size + t422.size ≤ 9223372036854775807) = true := decide_eq_true c11
        try have c11b2 : (9223372036854775807 < ((t419 ++ t420) ++ t421).size + t422.size) = False := eq_false (Nat.not_lt.2 c11)
        have c11z := eq_false (Nat.not_lt.mpr c11)
        (try simp only [ByteArray.size_append', ByteArray.size_mk', ByteArray.size_extract, List.size_toArray, List.length_cons, List.length_nil, Nat.reduceAdd, Nat.zero_add, Nat.sub_zero, Nat.min_self] at c11z)
        by_cases c12 : (((t419 ++ t420) ++ t421) ++ t422).size + a1.size ≤ 9223372036854775807
        · rw [if_pos c12] at H
          have c12b0 := eq_true c12
          have c12b1 : decide ((((t419 ++ t420) ++ t421) ++ t422).size + a1.size ≤ 9223372036854775807) = true := decide_eq_true c12
          try have c12b2 : (9223372036854775807 < (((t419 ++ t420) ++ t421) ++ t422).size + a1.size) = False := eq_false (Nat.not_lt.2 c12)
          have c12z := eq_false (Nat.not_lt.mpr c12)
          (try simp only [ByteArray.size_append', ByteArray.size_mk', ByteArray.size_extract, List.size_toArray, List.length_cons, List.length_nil, Nat.reduceAdd, Nat.zero_add, Nat.sub_zero, Nat.min_self] at c12z)
          replace H := Option.bind_eq_some_iff.mp H
          obtain ⟨t423, A130, H⟩ := H
          replace H : (some t423) = some r := H
          have A13 := Aside0.mk A130
          clear A130
          obtain rfl := Option.some.inj H
          go_enter Try.func62, Try.ntmps62
          go_wp2_with (first | ((with_reducible refine gate_callee (f := 52) rfl ?_); refine goesL_ (some 10) rfl rfl Try.func52 (by kernel_rfl) rfl #[.int .i64 a2, .int .i64 4] rfl (by (try simp only [List.map_toArray, List.map_cons, List.map_nil]); first | done | rfl | (simp only [List.length_drop, List.length_take]; rfl)) ?_; (with_reducible refine (wharfageref1_Num.calls k a2 4 t419 _ A5.out).mono ?_); rintro e w14 ⟨rfl, hb⟩; refine ⟨_, rfl, ?_⟩; have n0_ := Aside0.mk (below_step (by repeat (first | (with_reducible first | exact HB.out | apply below_alloc | apply pw_below_drewN | apply below_drew1) | exact HB.out)) hb); clear HB; have HB := n0_; clear n0_; (try clear hb); (try clear hb2); (try clear hk); (try clear hi)) | ((with_reducible refine gate_callee (f := 52) rfl ?_); refine goesL_ (some 12) rfl rfl Try.func52 (by kernel_rfl) rfl #[.int .i64 a3, .int .i64 4] rfl (by (try simp only [List.map_toArray, List.map_cons, List.map_nil]); first | done | rfl | (simp only [List.length_drop, List.length_take]; rfl)) ?_; (with_reducible refine (wharfageref1_Num.calls k a3 4 t420 _ A6.out).mono ?_); rintro e w15 ⟨rfl, hb⟩; refine ⟨_, rfl, ?_⟩; have n0_ := Aside0.mk (below_step (by repeat (first | (with_reducible first | exact HB.out | apply below_alloc | apply pw_below_drewN | apply below_drew1) | exact HB.out)) hb); clear HB; have HB := n0_; clear n0_; (try clear hb); (try clear hb2); (try clear hk); (try clear hi)) | ((with_reducible refine gate_callee (f := 52) rfl ?_); refine goesL_ (some 15) rfl rfl Try.func52 (by kernel_rfl) rfl #[.int .i64 a0, .int .i64 2] rfl (by (try simp only [List.map_toArray, List.map_cons, List.map_nil]); first | done | rfl | (simp only [List.length_drop, List.length_take]; rfl)) ?_; (with_reducible refine (wharfageref1_Num.calls k a0 2 t421 _ A8.out).mono ?_); rintro e w16 ⟨rfl, hb⟩; refine ⟨_, rfl, ?_⟩; have n0_ := Aside0.mk (below_step (by repeat (first | (with_reducible first | exact HB.out | apply below_alloc | apply pw_below_drewN | apply below_drew1) | exact HB.out)) hb); clear HB; have HB := n0_; clear n0_; (try clear hb); (try clear hb2); (try clear hk); (try clear hi)) | ((with_reducible refine gate_callee (f := 52) rfl ?_); refine goesL_ (some 19) rfl rfl Try.func52 (by kernel_rfl) rfl #[.int .i64 (a1.size : Int), .int .i64 2] rfl (by (try simp only [List.map_toArray, List.map_cons, List.map_nil]); first | done | rfl | (simp only [List.length_drop, List.length_take]; rfl)) ?_; (with_reducible refine (wharfageref1_Num.calls k (a1.size : Int) 2 t422 _ A10.out).mono ?_); rintro e w17 ⟨rfl, hb⟩; refine ⟨_, rfl, ?_⟩; have n0_ := Aside0.mk (below_step (by repeat (first | (with_reducible first | exact HB.out | apply below_alloc | apply pw_below_drewN | apply below_drew1) | exact HB.out)) hb); clear HB; have HB := n0_; clear n0_; (try clear hb); (try clear hb2); (try clear hk); (try clear hi)) | ((with_reducible refine gate_callee (f := 69) rfl ?_); refine goesL_ (some 23) rfl rfl Try.func69 (by kernel_rfl) rfl #[.string ((((t419 ++ t420) ++ t421) ++ t422) ++ a1)] rfl (by (try simp only [List.map_toArray, List.map_cons, List.map_nil]); first | done | rfl | (simp only [List.length_drop, List.length_take]; rfl)) ?_; (with_reducible refine (wharfageref1_Sum.calls k ((((t419 ++ t420) ++ t421) ++ t422) ++ a1) t423 _ A13.out).mono ?_); rintro e w' ⟨rfl, ⟨nd, rfl⟩⟩; refine ⟨_, rfl, ?_⟩))
          go_ret
          exact ⟨by first | rfl | (simp [errW_none, errW_some] <;> rfl) | (simp [*, errW_none, errW_some] <;> rfl), by repeat (first | (with_reducible first | exact HB.out | apply below_alloc | apply pw_below_drewN | apply below_drew1) | exact HB.out)⟩
        · rw [if_neg c12] at H
          exact absurd H (by simp)
      · rw [if_neg c11] at H
        exact absurd H (by simp)
    · rw [if_neg c9] at H
      exact absurd H (by simp)
  · rw [if_neg c7] at H
    exact absurd H (by simp)

end Go.Proofs.Ytobhmonmeocfmaa.PA
