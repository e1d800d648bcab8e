-- printed by a program of this session (myprint.py) out of the translation
import Derived.Test.YtdpkfpbdadloaaaFG0
import Derived.Test.YtdpkfpbdadloaaaFGWharfageref1Within
namespace Go.Proofs.Ytdpkfpbdadloaaa.PG
open Go.RowKit Go.Proofs.YtdpkfpbdadloaaaW.PrintWords Go.Proofs.YtdpkfpbdadloaaaW.PrintLast Go.Proofs.YtdpkfpbdadloaaaW.PrintMore
attribute [local go_sem] max2_int min2_int max_two min_two max_three min_three max_four min_four   -- for this text's walks alone
set_option linter.unusedVariables false
set_option linter.unusedSimpArgs false

/-! ### wharfageref1_Mix: function 39 -/
def wharfageref1_Mix.f (a0 : Int) (a1 : Int) : Option (Int × Int) := (wharfageref1_within.f a0 32).bind fun t143 => (if t143 = true then ((wharfageref1_within.f a1 32).bind fun t144 => (if t144 = true then (some (wrap64 (Go.bits .xor .u32 (((Go.bits .xor .u32 (((Go.bits .xor .u32 (Go.bits .xor .u32 ((((a0) % 4294967296) + 2654435769) % 4294967296) ((a1) % 4294967296)) ((Go.bits .xor .u32 ((((a0) % 4294967296) + 2654435769) % 4294967296) ((a1) % 4294967296)) / 65536)) * 2246822507) % 4294967296) ((((Go.bits .xor .u32 (Go.bits .xor .u32 ((((a0) % 4294967296) + 2654435769) % 4294967296) ((a1) % 4294967296)) ((Go.bits .xor .u32 ((((a0) % 4294967296) + 2654435769) % 4294967296) ((a1) % 4294967296)) / 65536)) * 2246822507) % 4294967296) / 8192)) * 3266489909) % 4294967296) ((((Go.bits .xor .u32 (((Go.bits .xor .u32 (Go.bits .xor .u32 ((((a0) % 4294967296) + 2654435769) % 4294967296) ((a1) % 4294967296)) ((Go.bits .xor .u32 ((((a0) % 4294967296) + 2654435769) % 4294967296) ((a1) % 4294967296)) / 65536)) * 2246822507) % 4294967296) ((((Go.bits .xor .u32 (Go.bits .xor .u32 ((((a0) % 4294967296) + 2654435769) % 4294967296) ((a1) % 4294967296)) ((Go.bits .xor .u32 ((((a0) % 4294967296) + 2654435769) % 4294967296) ((a1) % 4294967296)) / 65536)) * 2246822507) % 4294967296) / 8192)) * 3266489909) % 4294967296) / 65536)), 0)) else (some (0, 800)))) else (some (0, 800)))
set_option maxHeartbeats 8000000 in
set_option maxRecDepth 100000 in
theorem wharfageref1_Mix.calls (a0 : Int) (a1 : Int) (r1 : Int) (r2 : Int) (w : World) (h : wharfageref1_Mix.f a0 a1 = some (r1, r2)) :
    Calls Try.prog 39 #[.int .i64 a0, .int .i64 a1] w fun e w' => e = .returned (.tuple #[.int .i64 r1, .int .i64 r2]) ∧ Drawn0 w w' := by
  have H := h
  unfold wharfageref1_Mix.f at H
  clear h
  replace H := Option.bind_eq_some_iff.mp H
  obtain ⟨t143, A30, H⟩ := H
  have A3 := Aside0.mk A30
  clear A30
  by_cases c4 : t143 = true
  · subst c4
    have H1 : ((wharfageref1_within.f a1 32).bind fun t144 => (if t144 = true then (some (wrap64 (Go.bits .xor .u32 (((Go.bits .xor .u32 (((Go.bits .xor .u32 (Go.bits .xor .u32 ((((a0) % 4294967296) + 2654435769) % 4294967296) ((a1) % 4294967296)) ((Go.bits .xor .u32 ((((a0) % 4294967296) + 2654435769) % 4294967296) ((a1) % 4294967296)) / 65536)) * 2246822507) % 4294967296) ((((Go.bits .xor .u32 (Go.bits .xor .u32 ((((a0) % 4294967296) + 2654435769) % 4294967296) ((a1) % 4294967296)) ((Go.bits .xor .u32 ((((a0) % 4294967296) + 2654435769) % 4294967296) ((a1) % 4294967296)) / 65536)) * 2246822507) % 4294967296) / 8192)) * 3266489909) % 4294967296) ((((Go.bits .xor .u32 (((Go.bits .xor .u32 (Go.bits .xor .u32 ((((a0) % 4294967296) + 2654435769) % 4294967296) ((a1) % 4294967296)) ((Go.bits .xor .u32 ((((a0) % 4294967296) + 2654435769) % 4294967296) ((a1) % 4294967296)) / 65536)) * 2246822507) % 4294967296) ((((Go.bits .xor .u32 (Go.bits .xor .u32 ((((a0) % 4294967296) + 2654435769) % 4294967296) ((a1) % 4294967296)) ((Go.bits .xor .u32 ((((a0) % 4294967296) + 2654435769) % 4294967296) ((a1) % 4294967296)) / 65536)) * 2246822507) % 4294967296) / 8192)) * 3266489909) % 4294967296) / 65536)), 0)) else (some (0, 800)))) = some (r1, r2) := by rw [if_pos rfl] at H; exact H
    clear H
    have H := H1
    clear H1
    replace H := Option.bind_eq_some_iff.mp H
    obtain ⟨t144, A50, H⟩ := H
    replace H : (if t144 = true then (some (wrap64 (Go.bits .xor .u32 (((Go.bits .xor .u32 (((Go.bits .xor .u32 (Go.bits .xor .u32 ((((a0) % 4294967296) + 2654435769) % 4294967296) ((a1) % 4294967296)) ((Go.bits .xor .u32 ((((a0) % 4294967296) + 2654435769) % 4294967296) ((a1) % 4294967296)) / 65536)) * 2246822507) % 4294967296) ((((Go.bits .xor .u32 (Go.bits .xor .u32 ((((a0) % 4294967296) + 2654435769) % 4294967296) ((a1) % 4294967296)) ((Go.bits .xor .u32 ((((a0) % 4294967296) + 2654435769) % 4294967296) ((a1) % 4294967296)) / 65536)) * 2246822507) % 4294967296) / 8192)) * 3266489909) % 4294967296) ((((Go.bits .xor .u32 (((Go.bits .xor .u32 (Go.bits .xor .u32 ((((a0) % 4294967296) + 2654435769) % 4294967296) ((a1) % 4294967296)) ((Go.bits .xor .u32 ((((a0) % 4294967296) + 2654435769) % 4294967296) ((a1) % 4294967296)) / 65536)) * 2246822507) % 4294967296) ((((Go.bits .xor .u32 (Go.bits .xor .u32 ((((a0) % 4294967296) + 2654435769) % 4294967296) ((a1) % 4294967296)) ((Go.bits .xor .u32 ((((a0) % 4294967296) + 2654435769) % 4294967296) ((a1) % 4294967296)) / 65536)) * 2246822507) % 4294967296) / 8192)) * 3266489909) % 4294967296) / 65536)), 0)) else (some (0, 800))) = some (r1, r2) := H
    have A5 := Aside0.mk A50
    clear A50
    by_cases c6 : t144 = true
    · subst c6
      have H1 : (some (wrap64 (Go.bits .xor .u32 (((Go.bits .xor .u32 (((Go.bits .xor .u32 (Go.bits .xor .u32 ((((a0) % 4294967296) + 2654435769) % 4294967296) ((a1) % 4294967296)) ((Go.bits .xor .u32 ((((a0) % 4294967296) + 2654435769) % 4294967296) ((a1) % 4294967296)) / 65536)) * 2246822507) % 4294967296) ((((Go.bits .xor .u32 (Go.bits .xor .u32 ((((a0) % 4294967296) + 2654435769) % 4294967296) ((a1) % 4294967296)) ((Go.bits .xor .u32 ((((a0) % 4294967296) + 2654435769) % 4294967296) ((a1) % 4294967296)) / 65536)) * 2246822507) % 4294967296) / 8192)) * 3266489909) % 4294967296) ((((Go.bits .xor .u32 (((Go.bits .xor .u32 (Go.bits .xor .u32 ((((a0) % 4294967296) + 2654435769) % 4294967296) ((a1) % 4294967296)) ((Go.bits .xor .u32 ((((a0) % 4294967296) + 2654435769) % 4294967296) ((a1) % 4294967296)) / 65536)) * 2246822507) % 4294967296) ((((Go.bits .xor .u32 (Go.bits .xor .u32 ((((a0) % 4294967296) + 2654435769) % 4294967296) ((a1) % 4294967296)) ((Go.bits .xor .u32 ((((a0) % 4294967296) + 2654435769) % 4294967296) ((a1) % 4294967296)) / 65536)) * 2246822507) % 4294967296) / 8192)) * 3266489909) % 4294967296) / 65536)), 0)) = some (r1, r2) := by rw [if_pos rfl] at H; exact H
      clear H
      have H := H1
      clear H1
      simp only [Option.some.injEq, Prod.mk.injEq] at H
      generalize e1 : Go.bits .xor .u32 ((a0 % 4294967296 + 2654435769) % 4294967296) (a1 % 4294967296) = z1 at H
      rw [show (a0 % 4294967296 + 2654435769) % 4294967296 = (a0 + 2654435769) % 4294967296 by omega] at e1
      generalize e2 : Go.bits .xor .u32 z1 (z1 / 65536) = z2 at H
      generalize e3 : Go.bits .xor .u32 (z2 * 2246822507 % 4294967296) (z2 * 2246822507 % 4294967296 / 8192) = z3 at H
      generalize e4 : Go.bits .xor .u32 (z3 * 3266489909 % 4294967296) (z3 * 3266489909 % 4294967296 / 65536) = z4 at H
      obtain ⟨rfl, rfl⟩ := H
      go_enter Try.func39, Try.ntmps39
      go_wp2_with (first | ((with_reducible refine gate_callee (f := 47) rfl ?_); refine goesL_ (some 8) rfl rfl Try.func47 (by kernel_rfl) rfl #[.int .i64 a0, .int .i64 32] rfl (by (try simp only [List.map_toArray, List.map_cons, List.map_nil]); first | done | rfl | (simp only [List.length_drop, List.length_take]; rfl)) ?_; (with_reducible refine (wharfageref1_within.calls a0 32 true _ A3.out).mono ?_); rintro e w' ⟨rfl, ⟨nd, rfl⟩⟩; refine ⟨_, rfl, ?_⟩) | (go_at_call 47; (with_reducible refine (wharfageref1_within.calls a1 32 true _ A5.out).mono ?_); rintro e w' ⟨rfl, ⟨nd, rfl⟩⟩))
      go_ret2
      exact ⟨by first | rfl | (simp; done) | (simp [*]; done), by repeat (first | exact Drawn0.refl _ | apply Drawn0.step)⟩
    · replace c6 := Bool.eq_false_iff.mpr c6
      subst c6
      have H1 : (some (0, 800)) = some (r1, r2) := by rw [if_neg (show ¬ (false = true) by decide)] at H; exact H
      clear H
      have H := H1
      clear H1
      simp only [Option.some.injEq, Prod.mk.injEq] at H
      obtain ⟨rfl, rfl⟩ := H
      go_enter Try.func39, Try.ntmps39
      go_wp2_with (first | ((with_reducible refine gate_callee (f := 47) rfl ?_); refine goesL_ (some 8) rfl rfl Try.func47 (by kernel_rfl) rfl #[.int .i64 a0, .int .i64 32] rfl (by (try simp only [List.map_toArray, List.map_cons, List.map_nil]); first | done | rfl | (simp only [List.length_drop, List.length_take]; rfl)) ?_; (with_reducible refine (wharfageref1_within.calls a0 32 true _ A3.out).mono ?_); rintro e w' ⟨rfl, ⟨nd, rfl⟩⟩; refine ⟨_, rfl, ?_⟩) | (go_at_call 47; (with_reducible refine (wharfageref1_within.calls a1 32 false _ A5.out).mono ?_); rintro e w' ⟨rfl, ⟨nd, rfl⟩⟩))
      go_ret2
      exact ⟨by first | rfl | (simp; done) | (simp [*]; done), by repeat (first | exact Drawn0.refl _ | apply Drawn0.step)⟩
  · replace c4 := Bool.eq_false_iff.mpr c4
    subst c4
    have H1 : (some (0, 800)) = some (r1, r2) := by rw [if_neg (show ¬ (false = true) by decide)] at H; exact H
    clear H
    have H := H1
    clear H1
    simp only [Option.some.injEq, Prod.mk.injEq] at H
    obtain ⟨rfl, rfl⟩ := H
    go_enter Try.func39, Try.ntmps39
    go_wp2_with (first | ((with_reducible refine gate_callee (f := 47) rfl ?_); refine goesL_ (some 8) rfl rfl Try.func47 (by kernel_rfl) rfl #[.int .i64 a0, .int .i64 32] rfl (by (try simp only [List.map_toArray, List.map_cons, List.map_nil]); first | done | rfl | (simp only [List.length_drop, List.length_take]; rfl)) ?_; (with_reducible refine (wharfageref1_within.calls a0 32 false _ A3.out).mono ?_); rintro e w' ⟨rfl, ⟨nd, rfl⟩⟩; refine ⟨_, rfl, ?_⟩))
    go_ret2
    exact ⟨by first | rfl | (simp; done) | (simp [*]; done), by repeat (first | exact Drawn0.refl _ | apply Drawn0.step)⟩

end Go.Proofs.Ytdpkfpbdadloaaa.PG
