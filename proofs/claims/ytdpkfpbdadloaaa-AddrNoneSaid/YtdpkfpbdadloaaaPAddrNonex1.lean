-- PRINTED BY print.sh 35421559b90ae4d0a3588c463048766b98c2df88dd9212a6774a882060cdf62d: not written by this session
import Derived.Test.YtdpkfpbdadloaaaPAddrNonex0
namespace Go.Proofs.Ytdpkfpbdadloaaa.PAddrNone
open Go.RowKit Go.Proofs.YtdpkfpbdadloaaaW.PrintWords Go.Proofs.YtdpkfpbdadloaaaW.PrintLast Go.Proofs.YtdpkfpbdadloaaaW.PrintMore
attribute [local go_sem] max2_int min2_int max_two min_two max_three min_three max_four min_four   -- for this text's walks alone
set_option linter.unusedVariables false
set_option linter.unusedSimpArgs false

/-! ### wharfagelaw0_Num: function 28 -/
def wharfagelaw0_Num.f (a0 : Int) : Option (Int) := some a0
set_option maxHeartbeats 8000000 in
set_option maxRecDepth 100000 in
theorem wharfagelaw0_Num.calls (a0 : Int) (r : Int) (w : World) (h : wharfagelaw0_Num.f a0 = some r) :
    Calls Try.prog 28 #[.int .i64 a0] w fun e w' => e = .returned (.int .i64 r) ∧ Drawn0 w w' := by
  have H : (some a0) = some r := h
  clear h
  obtain rfl := Option.some.inj H
  go_enter Try.func28, Try.ntmps28
  go_wp2
  go_ret
  exact ⟨by first | rfl | (simp; done) | (simp [*]; done), by repeat (first | exact Drawn0.refl _ | apply Drawn0.step)⟩

/-! ### addr_below: function 44 -/
def addr_below.f (a0 : Int) (a1 : Int) : Option (Bool) := if a0 ≥ 0 then (some (decide (a0 < a1))) else (some false)
set_option maxHeartbeats 8000000 in
set_option maxRecDepth 100000 in
theorem addr_below.calls (a0 : Int) (a1 : Int) (r : Bool) (w : World) (h : addr_below.f a0 a1 = some r) :
    Calls Try.prog 44 #[.int .i64 a0, .int .i64 a1] w fun e w' => e = .returned (.bool r) ∧ Drawn0 w w' := by
  have H : (if a0 ≥ 0 then (some (decide (a0 < a1))) else (some false)) = some r := h
  clear h
  by_cases c3 : a0 ≥ 0
  · rw [if_pos c3] at H
    have c3b0 : decide (0 ≤ a0) = true := decide_eq_true c3
    clear c3
    obtain rfl := Option.some.inj H
    go_enter Try.func44, Try.ntmps44
    go_wp2
    go_ret
    exact ⟨by first | rfl | (simp; done) | (simp [*]; done), by repeat (first | exact Drawn0.refl _ | apply Drawn0.step)⟩
  · rw [if_neg c3] at H
    have c3b0 : decide (0 ≤ a0) = false := decide_eq_false c3
    clear c3
    obtain rfl := Option.some.inj H
    go_enter Try.func44, Try.ntmps44
    go_wp2
    go_ret
    exact ⟨by first | rfl | (simp; done) | (simp [*]; done), by repeat (first | exact Drawn0.refl _ | apply Drawn0.step)⟩

/-! ### addr_Whose: function 35 -/
def addr_Whose.f (a0 : Int) : Option (Int × Int × Int × Bool) := (addr_below.f (wrap64 (a0 - 167837696)) 2).bind fun t101 => (if t101 = true then (some (0, 0, wrap64 (a0 - 167837696), true)) else ((addr_below.f (wrap64 (a0 - 167903232)) 3).bind fun t102 => (if t102 = true then (some (1, wrap64 (a0 - 167903232), 0, true)) else ((addr_below.f (wrap64 (a0 - 167968768)) 768).bind fun t103 => (if t103 = true then (if (Int.tmod (wrap64 (a0 - 167968768)) 256) < 4 then (some (2, wrap64 (Int.tdiv (wrap64 (a0 - 167968768)) 256), Int.tmod (wrap64 (a0 - 167968768)) 256, true)) else (some (0, 0, 0, false))) else (some (0, 0, 0, false)))))))
set_option maxHeartbeats 8000000 in
set_option maxRecDepth 100000 in
theorem addr_Whose.calls (a0 : Int) (r1 : Int) (r2 : Int) (r3 : Int) (r4 : Bool) (w : World) (h : addr_Whose.f a0 = some (r1, r2, r3, r4)) :
    Calls Try.prog 35 #[.int .i64 a0] w fun e w' => e = .returned (.tuple #[.int .i64 r1, .int .i64 r2, .int .i64 r3, .bool r4]) ∧ Drawn0 w w' := by
  have H : ((addr_below.f (wrap64 (a0 - 167837696)) 2).bind fun t101 => (if t101 = true then (some (0, 0, wrap64 (a0 - 167837696), true)) else ((addr_below.f (wrap64 (a0 - 167903232)) 3).bind fun t102 => (if t102 = true then (some (1, wrap64 (a0 - 167903232), 0, true)) else ((addr_below.f (wrap64 (a0 - 167968768)) 768).bind fun t103 => (if t103 = true then (if (Int.tmod (wrap64 (a0 - 167968768)) 256) < 4 then (some (2, wrap64 (Int.tdiv (wrap64 (a0 - 167968768)) 256), Int.tmod (wrap64 (a0 - 167968768)) 256, true)) else (some (0, 0, 0, false))) else (some (0, 0, 0, false)))))))) = some (r1, r2, r3, r4) := h
  clear h
  replace H := Option.bind_eq_some_iff.mp H
  obtain ⟨t101, A20, H⟩ := H
  replace H : (if t101 = true then (some (0, 0, wrap64 (a0 - 167837696), true)) else ((addr_below.f (wrap64 (a0 - 167903232)) 3).bind fun t102 => (if t102 = true then (some (1, wrap64 (a0 - 167903232), 0, true)) else ((addr_below.f (wrap64 (a0 - 167968768)) 768).bind fun t103 => (if t103 = true then (if (Int.tmod (wrap64 (a0 - 167968768)) 256) < 4 then (some (2, wrap64 (Int.tdiv (wrap64 (a0 - 167968768)) 256), Int.tmod (wrap64 (a0 - 167968768)) 256, true)) else (some (0, 0, 0, false))) else (some (0, 0, 0, false))))))) = some (r1, r2, r3, r4) := H
  have A2 := Aside0.mk A20
  clear A20
  by_cases c3 : t101 = true
  · subst c3
    have H1 : (some (0, 0, wrap64 (a0 - 167837696), true)) = some (r1, r2, r3, r4) := by rw [if_pos rfl] at H; exact H
    clear H
    have H := H1
    clear H1
    simp only [Option.some.injEq, Prod.mk.injEq] at H
    obtain ⟨rfl, rfl, rfl, rfl⟩ := H
    go_enter Try.func35, Try.ntmps35
    go_wp2_with (first | ((with_reducible refine gate_callee (f := 44) rfl ?_); refine goesL_ (some 17) rfl rfl Try.func44 (by kernel_rfl) rfl #[.int .i64 (wrap64 (a0 - 167837696)), .int .i64 2] rfl (by (try simp only [List.map_toArray, List.map_cons, List.map_nil]); first | done | rfl | (simp only [List.length_drop, List.length_take]; rfl)) ?_; (with_reducible refine (addr_below.calls (wrap64 (a0 - 167837696)) 2 true _ A2.out).mono ?_); rintro e w' ⟨rfl, ⟨nd, rfl⟩⟩; refine ⟨_, rfl, ?_⟩))
    refine bodyPost_ret (results_list (rs := [.tmp 2, .tmp 3, .tmp 4, .tmp 5]) rfl (by simp) (.tmp (.tmp (.tmp (.tmp .nil))))) rfl ?_
    exact ⟨by first | rfl | (simp; done) | (simp [*]; done), by repeat (first | exact Drawn0.refl _ | apply Drawn0.step)⟩
  · replace c3 := Bool.eq_false_iff.mpr c3
    subst c3
    have H1 : ((addr_below.f (wrap64 (a0 - 167903232)) 3).bind fun t102 => (if t102 = true then (some (1, wrap64 (a0 - 167903232), 0, true)) else ((addr_below.f (wrap64 (a0 - 167968768)) 768).bind fun t103 => (if t103 = true then (if (Int.tmod (wrap64 (a0 - 167968768)) 256) < 4 then (some (2, wrap64 (Int.tdiv (wrap64 (a0 - 167968768)) 256), Int.tmod (wrap64 (a0 - 167968768)) 256, true)) else (some (0, 0, 0, false))) else (some (0, 0, 0, false)))))) = some (r1, r2, r3, r4) := by rw [if_neg (show ¬ (false = true) by decide)] at H; exact H
    clear H
    have H := H1
    clear H1
    replace H := Option.bind_eq_some_iff.mp H
    obtain ⟨t102, A40, H⟩ := H
    replace H : (if t102 = true then (some (1, wrap64 (a0 - 167903232), 0, true)) else ((addr_below.f (wrap64 (a0 - 167968768)) 768).bind fun t103 => (if t103 = true then (if (Int.tmod (wrap64 (a0 - 167968768)) 256) < 4 then (some (2, wrap64 (Int.tdiv (wrap64 (a0 - 167968768)) 256), Int.tmod (wrap64 (a0 - 167968768)) 256, true)) else (some (0, 0, 0, false))) else (some (0, 0, 0, false))))) = some (r1, r2, r3, r4) := H
    have A4 := Aside0.mk A40
    clear A40
    by_cases c5 : t102 = true
    · subst c5
      have H1 : (some (1, wrap64 (a0 - 167903232), 0, true)) = some (r1, r2, r3, r4) := by rw [if_pos rfl] at H; exact H
      clear H
      have H := H1
      clear H1
      simp only [Option.some.injEq, Prod.mk.injEq] at H
      obtain ⟨rfl, rfl, rfl, rfl⟩ := H
      go_enter Try.func35, Try.ntmps35
      go_wp2_with (first | ((with_reducible refine gate_callee (f := 44) rfl ?_); refine goesL_ (some 17) rfl rfl Try.func44 (by kernel_rfl) rfl #[.int .i64 (wrap64 (a0 - 167837696)), .int .i64 2] rfl (by (try simp only [List.map_toArray, List.map_cons, List.map_nil]); first | done | rfl | (simp only [List.length_drop, List.length_take]; rfl)) ?_; (with_reducible refine (addr_below.calls (wrap64 (a0 - 167837696)) 2 false _ A2.out).mono ?_); rintro e w' ⟨rfl, ⟨nd, rfl⟩⟩; refine ⟨_, rfl, ?_⟩) | ((with_reducible refine gate_callee (f := 44) rfl ?_); refine goesL_ (some 21) rfl rfl Try.func44 (by kernel_rfl) rfl #[.int .i64 (wrap64 (a0 - 167903232)), .int .i64 3] rfl (by (try simp only [List.map_toArray, List.map_cons, List.map_nil]); first | done | rfl | (simp only [List.length_drop, List.length_take]; rfl)) ?_; (with_reducible refine (addr_below.calls (wrap64 (a0 - 167903232)) 3 true _ A4.out).mono ?_); rintro e w' ⟨rfl, ⟨nd, rfl⟩⟩; refine ⟨_, rfl, ?_⟩))
      refine bodyPost_ret (results_list (rs := [.tmp 2, .tmp 3, .tmp 4, .tmp 5]) rfl (by simp) (.tmp (.tmp (.tmp (.tmp .nil))))) rfl ?_
      exact ⟨by first | rfl | (simp; done) | (simp [*]; done), by repeat (first | exact Drawn0.refl _ | apply Drawn0.step)⟩
    · replace c5 := Bool.eq_false_iff.mpr c5
      subst c5
      have H1 : ((addr_below.f (wrap64 (a0 - 167968768)) 768).bind fun t103 => (if t103 = true then (if (Int.tmod (wrap64 (a0 - 167968768)) 256) < 4 then (some (2, wrap64 (Int.tdiv (wrap64 (a0 - 167968768)) 256), Int.tmod (wrap64 (a0 - 167968768)) 256, true)) else (some (0, 0, 0, false))) else (some (0, 0, 0, false)))) = some (r1, r2, r3, r4) := by rw [if_neg (show ¬ (false = true) by decide)] at H; exact H
      clear H
      have H := H1
      clear H1
      replace H := Option.bind_eq_some_iff.mp H
      obtain ⟨t103, A60, H⟩ := H
      replace H : (if t103 = true then (if (Int.tmod (wrap64 (a0 - 167968768)) 256) < 4 then (some (2, wrap64 (Int.tdiv (wrap64 (a0 - 167968768)) 256), Int.tmod (wrap64 (a0 - 167968768)) 256, true)) else (some (0, 0, 0, false))) else (some (0, 0, 0, false))) = some (r1, r2, r3, r4) := H
      have A6 := Aside0.mk A60
      clear A60
      by_cases c7 : t103 = true
      · subst c7
        have H1 : (if (Int.tmod (wrap64 (a0 - 167968768)) 256) < 4 then (some (2, wrap64 (Int.tdiv (wrap64 (a0 - 167968768)) 256), Int.tmod (wrap64 (a0 - 167968768)) 256, true)) else (some (0, 0, 0, false))) = some (r1, r2, r3, r4) := by rw [if_pos rfl] at H; exact H
        clear H
        have H := H1
        clear H1
        by_cases c8 : (Int.tmod (wrap64 (a0 - 167968768)) 256) < 4
        · rw [if_pos c8] at H
          have c8b0 : decide ((Int.tmod (wrap64 (a0 - 167968768)) 256) < 4) = true := decide_eq_true c8
          clear c8
          simp only [Option.some.injEq, Prod.mk.injEq] at H
          obtain ⟨rfl, rfl, rfl, rfl⟩ := H
          go_enter Try.func35, Try.ntmps35
          go_wp2_with (first | ((with_reducible refine gate_callee (f := 44) rfl ?_); refine goesL_ (some 17) rfl rfl Try.func44 (by kernel_rfl) rfl #[.int .i64 (wrap64 (a0 - 167837696)), .int .i64 2] rfl (by (try simp only [List.map_toArray, List.map_cons, List.map_nil]); first | done | rfl | (simp only [List.length_drop, List.length_take]; rfl)) ?_; (with_reducible refine (addr_below.calls (wrap64 (a0 - 167837696)) 2 false _ A2.out).mono ?_); rintro e w' ⟨rfl, ⟨nd, rfl⟩⟩; refine ⟨_, rfl, ?_⟩) | ((with_reducible refine gate_callee (f := 44) rfl ?_); refine goesL_ (some 21) rfl rfl Try.func44 (by kernel_rfl) rfl #[.int .i64 (wrap64 (a0 - 167903232)), .int .i64 3] rfl (by (try simp only [List.map_toArray, List.map_cons, List.map_nil]); first | done | rfl | (simp only [List.length_drop, List.length_take]; rfl)) ?_; (with_reducible refine (addr_below.calls (wrap64 (a0 - 167903232)) 3 false _ A4.out).mono ?_); rintro e w' ⟨rfl, ⟨nd, rfl⟩⟩; refine ⟨_, rfl, ?_⟩) | ((with_reducible refine gate_callee (f := 44) rfl ?_); refine goesL_ (some 25) rfl rfl Try.func44 (by kernel_rfl) rfl #[.int .i64 (wrap64 (a0 - 167968768)), .int .i64 768] rfl (by (try simp only [List.map_toArray, List.map_cons, List.map_nil]); first | done | rfl | (simp only [List.length_drop, List.length_take]; rfl)) ?_; (with_reducible refine (addr_below.calls (wrap64 (a0 - 167968768)) 768 true _ A6.out).mono ?_); rintro e w' ⟨rfl, ⟨nd, rfl⟩⟩; refine ⟨_, rfl, ?_⟩))
          refine bodyPost_ret (results_list (rs := [.tmp 2, .tmp 3, .tmp 4, .tmp 5]) rfl (by simp) (.tmp (.tmp (.tmp (.tmp .nil))))) rfl ?_
          exact ⟨by first | rfl | (simp; done) | (simp [*]; done), by repeat (first | exact Drawn0.refl _ | apply Drawn0.step)⟩
        · rw [if_neg c8] at H
          have c8b0 : decide ((Int.tmod (wrap64 (a0 - 167968768)) 256) < 4) = false := decide_eq_false c8
          clear c8
          simp only [Option.some.injEq, Prod.mk.injEq] at H
          obtain ⟨rfl, rfl, rfl, rfl⟩ := H
          go_enter Try.func35, Try.ntmps35
          go_wp2_with (first | ((with_reducible refine gate_callee (f := 44) rfl ?_); refine goesL_ (some 17) rfl rfl Try.func44 (by kernel_rfl) rfl #[.int .i64 (wrap64 (a0 - 167837696)), .int .i64 2] rfl (by (try simp only [List.map_toArray, List.map_cons, List.map_nil]); first | done | rfl | (simp only [List.length_drop, List.length_take]; rfl)) ?_; (with_reducible refine (addr_below.calls (wrap64 (a0 - 167837696)) 2 false _ A2.out).mono ?_); rintro e w' ⟨rfl, ⟨nd, rfl⟩⟩; refine ⟨_, rfl, ?_⟩) | ((with_reducible refine gate_callee (f := 44) rfl ?_); refine goesL_ (some 21) rfl rfl Try.func44 (by kernel_rfl) rfl #[.int .i64 (wrap64 (a0 - 167903232)), .int .i64 3] rfl (by (try simp only [List.map_toArray, List.map_cons, List.map_nil]); first | done | rfl | (simp only [List.length_drop, List.length_take]; rfl)) ?_; (with_reducible refine (addr_below.calls (wrap64 (a0 - 167903232)) 3 false _ A4.out).mono ?_); rintro e w' ⟨rfl, ⟨nd, rfl⟩⟩; refine ⟨_, rfl, ?_⟩) | ((with_reducible refine gate_callee (f := 44) rfl ?_); refine goesL_ (some 25) rfl rfl Try.func44 (by kernel_rfl) rfl #[.int .i64 (wrap64 (a0 - 167968768)), .int .i64 768] rfl (by (try simp only [List.map_toArray, List.map_cons, List.map_nil]); first | done | rfl | (simp only [List.length_drop, List.length_take]; rfl)) ?_; (with_reducible refine (addr_below.calls (wrap64 (a0 - 167968768)) 768 true _ A6.out).mono ?_); rintro e w' ⟨rfl, ⟨nd, rfl⟩⟩; refine ⟨_, rfl, ?_⟩))
          refine bodyPost_ret (results_list (rs := [.tmp 2, .tmp 3, .tmp 4, .tmp 5]) rfl (by simp) (.tmp (.tmp (.tmp (.tmp .nil))))) rfl ?_
          exact ⟨by first | rfl | (simp; done) | (simp [*]; done), by repeat (first | exact Drawn0.refl _ | apply Drawn0.step)⟩
      · replace c7 := Bool.eq_false_iff.mpr c7
        subst c7
        have H1 : (some (0, 0, 0, false)) = some (r1, r2, r3, r4) := by rw [if_neg (show ¬ (false = true) by decide)] at H; exact H
        clear H
        have H := H1
        clear H1
        simp only [Option.some.injEq, Prod.mk.injEq] at H
        obtain ⟨rfl, rfl, rfl, rfl⟩ := H
        go_enter Try.func35, Try.ntmps35
        go_wp2_with (first | ((with_reducible refine gate_callee (f := 44) rfl ?_); refine goesL_ (some 17) rfl rfl Try.func44 (by kernel_rfl) rfl #[.int .i64 (wrap64 (a0 - 167837696)), .int .i64 2] rfl (by (try simp only [List.map_toArray, List.map_cons, List.map_nil]); first | done | rfl | (simp only [List.length_drop, List.length_take]; rfl)) ?_; (with_reducible refine (addr_below.calls (wrap64 (a0 - 167837696)) 2 false _ A2.out).mono ?_); rintro e w' ⟨rfl, ⟨nd, rfl⟩⟩; refine ⟨_, rfl, ?_⟩) | ((with_reducible refine gate_callee (f := 44) rfl ?_); refine goesL_ (some 21) rfl rfl Try.func44 (by kernel_rfl) rfl #[.int .i64 (wrap64 (a0 - 167903232)), .int .i64 3] rfl (by (try simp only [List.map_toArray, List.map_cons, List.map_nil]); first | done | rfl | (simp only [List.length_drop, List.length_take]; rfl)) ?_; (with_reducible refine (addr_below.calls (wrap64 (a0 - 167903232)) 3 false _ A4.out).mono ?_); rintro e w' ⟨rfl, ⟨nd, rfl⟩⟩; refine ⟨_, rfl, ?_⟩) | ((with_reducible refine gate_callee (f := 44) rfl ?_); refine goesL_ (some 25) rfl rfl Try.func44 (by kernel_rfl) rfl #[.int .i64 (wrap64 (a0 - 167968768)), .int .i64 768] rfl (by (try simp only [List.map_toArray, List.map_cons, List.map_nil]); first | done | rfl | (simp only [List.length_drop, List.length_take]; rfl)) ?_; (with_reducible refine (addr_below.calls (wrap64 (a0 - 167968768)) 768 false _ A6.out).mono ?_); rintro e w' ⟨rfl, ⟨nd, rfl⟩⟩; refine ⟨_, rfl, ?_⟩))
        refine bodyPost_ret (results_list (rs := [.tmp 2, .tmp 3, .tmp 4, .tmp 5]) rfl (by simp) (.tmp (.tmp (.tmp (.tmp .nil))))) rfl ?_
        exact ⟨by first | rfl | (simp; done) | (simp [*]; done), by repeat (first | exact Drawn0.refl _ | apply Drawn0.step)⟩

/-! ### addr_Address: function 33 -/
mutual
def addr_Address.j0 : Nat → Int → Int → Int → Bool → Option (Int × Int)
  | 0, _, _, _, _ => none
  | k + 1, x0, x1, x2, x8 => if x8 = true then (some (wrap64 (167837696 + x2), 0)) else (if x0 = 1 then ((addr_below.f x1 3).bind fun t105 => (if t105 = true then (addr_Address.j1 k x0 x1 x2 (x2 == 0)) else (addr_Address.j1 k x0 x1 x2 false))) else (addr_Address.j1 k x0 x1 x2 false))
def addr_Address.j1 : Nat → Int → Int → Int → Bool → Option (Int × Int)
  | 0, _, _, _, _ => none
  | k + 1, x0, x1, x2, x21 => if x21 = true then (some (wrap64 (167903232 + x1), 0)) else (if x0 = 2 then ((addr_below.f x1 3).bind fun t106 => (if t106 = true then ((addr_below.f x2 4).bind fun t107 => (if t107 = true then (some (wrap64 ((wrap64 (167968768 + (wrap64 (256 * x1)))) + x2), 0)) else (some (0, 500)))) else (some (0, 500)))) else (some (0, 500)))
end
def addr_Address.f (k : Nat) (a0 : Int) (a1 : Int) (a2 : Int) : Option (Int × Int) := if a0 = 0 then (if a1 = 0 then ((addr_below.f a2 2).bind fun t104 => (addr_Address.j0 k a0 a1 a2 t104)) else (addr_Address.j0 k a0 a1 a2 false)) else (addr_Address.j0 k a0 a1 a2 false)
theorem addr_Address.mono_l : ∀ k, (∀ y0 y1 y2 y3, LeO (addr_Address.j0 k y0 y1 y2 y3) (addr_Address.j0 (k + 1) y0 y1 y2 y3)) ∧ (∀ y0 y1 y2 y3, LeO (addr_Address.j1 k y0 y1 y2 y3) (addr_Address.j1 (k + 1) y0 y1 y2 y3))
  | 0 => ⟨fun _ _ _ _ r h => by simp [addr_Address.j0] at h, fun _ _ _ _ r h => by simp [addr_Address.j1] at h⟩
  | k + 1 => by
    obtain ⟨ih0, ih1⟩ := addr_Address.mono_l k
    refine ⟨?_, ?_⟩
    · intro y0 y1 y2 y3
      unfold addr_Address.j0
      repeat' first
      | (with_reducible exact ih0 _ _ _ _)
      | (with_reducible exact ih1 _ _ _ _)
      | (with_reducible exact LeO.refl _)
      | (with_reducible exact LeO.none _)
      | (with_reducible refine LeO.ite ?_ ?_)
      | (with_reducible refine LeO.bind ?_ (fun _ => ?_))
      | exact ih0 _ _ _ _
      | exact ih1 _ _ _ _
      | exact LeO.none _
      | refine LeO.ite ?_ ?_
      | refine LeO.bind ?_ (fun _ => ?_)
    · intro y0 y1 y2 y3
      unfold addr_Address.j1
      repeat' first
      | (with_reducible exact ih0 _ _ _ _)
      | (with_reducible exact ih1 _ _ _ _)
      | (with_reducible exact LeO.refl _)
      | (with_reducible exact LeO.none _)
      | (with_reducible refine LeO.ite ?_ ?_)
      | (with_reducible refine LeO.bind ?_ (fun _ => ?_))
      | exact ih0 _ _ _ _
      | exact ih1 _ _ _ _
      | exact LeO.none _
      | refine LeO.ite ?_ ?_
      | refine LeO.bind ?_ (fun _ => ?_)
theorem addr_Address.mono : ∀ a0 a1 a2 k, LeO (addr_Address.f k a0 a1 a2) (addr_Address.f (k + 1) a0 a1 a2) := by
  intro a0 a1 a2 k
  obtain ⟨ih0, ih1⟩ := addr_Address.mono_l k
  unfold addr_Address.f
  repeat' first
      | (with_reducible exact ih0 _ _ _ _)
      | (with_reducible exact ih1 _ _ _ _)
      | (with_reducible exact LeO.refl _)
      | (with_reducible exact LeO.none _)
      | (with_reducible refine LeO.ite ?_ ?_)
      | (with_reducible refine LeO.bind ?_ (fun _ => ?_))
      | exact ih0 _ _ _ _
      | exact ih1 _ _ _ _
      | exact LeO.none _
      | refine LeO.ite ?_ ?_
      | refine LeO.bind ?_ (fun _ => ?_)
set_option maxHeartbeats 8000000 in
set_option maxRecDepth 100000 in
theorem addr_Address.calls (k : Nat) (a0 : Int) (a1 : Int) (a2 : Int) (r1 : Int) (r2 : Int) (w : World) (h : addr_Address.f k a0 a1 a2 = some (r1, r2)) :
    Calls Try.prog 33 #[.int .i64 a0, .int .i64 a1, .int .i64 a2] w fun e w' => e = .returned (.tuple #[.int .i64 r1, .int .i64 r2]) ∧ Drawn0 w w' := by
  have H : (if a0 = 0 then (if a1 = 0 then ((addr_below.f a2 2).bind fun t104 => (addr_Address.j0 k a0 a1 a2 t104)) else (addr_Address.j0 k a0 a1 a2 false)) else (addr_Address.j0 k a0 a1 a2 false)) = some (r1, r2) := h
  clear h
  have HC4 := Aside0.mk H
  clear H
  go_enter Try.func33, Try.ntmps33
  go_upto_region 1 with (fail)
  go_cut [8] (fun v8 wc => ∃ (kq : Nat) (x8_3 : Bool), v8 = .bool x8_3 ∧ Aside0 (addr_Address.j0 kq a0 a1 a2 x8_3 = some (r1, r2)) ∧ Aside0 (kq ≤ k) ∧ Drawn0 w wc)
  case first =>
    have H := HC4.out
    clear HC4
    by_cases c5 : a0 = 0
    · rw [if_pos c5] at H
      have c5b0 : (a0 == 0) = true := beq_iff_eq.mpr c5
      have c5b1 : (a0 != 0) = false := bne_eq_false_iff_eq.mpr c5
      clear c5
      (first | rw [c5b0] | (simp only [i64_w, i32_w]; rw [c5b0]) | skip)
      by_cases c6 : a1 = 0
      · rw [if_pos c6] at H
        have c6b0 : (a1 == 0) = true := beq_iff_eq.mpr c6
        have c6b1 : (a1 != 0) = false := bne_eq_false_iff_eq.mpr c6
        clear c6
        replace H := Option.bind_eq_some_iff.mp H
        obtain ⟨t104, A70, H⟩ := H
        replace H : (addr_Address.j0 k a0 a1 a2 t104) = some (r1, r2) := H
        have A7 := Aside0.mk A70
        clear A70
        have H' := Aside0.mk H
        clear H
        go_wp2_with (first | (go_at_call 44; (with_reducible refine (addr_below.calls a2 2 t104 _ A7.out).mono ?_); rintro e w' ⟨rfl, ⟨nd, rfl⟩⟩))
        go_meet
        case rel => exact ⟨_, (t104), (by first | rfl | (simp; done) | (simp [*]; done)), H', ⟨by first | omega | exact Nat.le_refl _⟩, by repeat (first | exact Drawn0.refl _ | apply Drawn0.step)⟩
      · rw [if_neg c6] at H
        have c6b0 : (a1 == 0) = false := beq_eq_false_iff_ne.mpr c6
        have c6b1 : (a1 != 0) = true := bne_iff_ne.mpr c6
        have H' := Aside0.mk H
        clear H
        go_wp2
        go_meet
        case rel => exact ⟨_, (false), (by first | rfl | (simp; done) | (simp [*]; done)), H', ⟨by first | omega | exact Nat.le_refl _⟩, by repeat (first | exact Drawn0.refl _ | apply Drawn0.step)⟩
    · rw [if_neg c5] at H
      have c5b0 : (a0 == 0) = false := beq_eq_false_iff_ne.mpr c5
      have c5b1 : (a0 != 0) = true := bne_iff_ne.mpr c5
      (first | rw [c5b0] | (simp only [i64_w, i32_w]; rw [c5b0]) | skip)
      have H' := Aside0.mk H
      clear H
      go_wp2
      go_meet
      case rel => exact ⟨_, (false), (by first | rfl | (simp; done) | (simp [*]; done)), H', ⟨by first | omega | exact Nat.le_refl _⟩, by repeat (first | exact Drawn0.refl _ | apply Drawn0.step)⟩
  case rest =>
    clear HC4
    try clear p2
    try clear c3
    try clear c5
    try clear c5b0
    try clear c5b1
    try clear c6
    try clear c6b0
    try clear c6b1
    obtain ⟨kq, x8_3, rfl, HA, HJ3, ⟨mc3, rfl⟩⟩ := hcut
    cases kq with
    | zero => exact absurd HA.out (by simp [addr_Address.j0])
    | succ kj3 =>
      have H := HA.out
      clear HA
      simp only [addr_Address.j0] at H
      by_cases c8 : x8_3 = true
      · subst c8
        have H1 : (some (wrap64 (167837696 + a2), 0)) = some (r1, r2) := by rw [if_pos rfl] at H; exact H
        clear H
        have H := H1
        clear H1
        simp only [Option.some.injEq, Prod.mk.injEq] at H
        obtain ⟨rfl, rfl⟩ := H
        go_wp2
        go_ret2
        exact ⟨by first | rfl | (simp; done) | (simp [*]; done), by repeat (first | exact Drawn0.refl _ | apply Drawn0.step)⟩
      · replace c8 := Bool.eq_false_iff.mpr c8
        subst c8
        have H1 : (if a0 = 1 then ((addr_below.f a1 3).bind fun t105 => (if t105 = true then (addr_Address.j1 kj3 a0 a1 a2 (a2 == 0)) else (addr_Address.j1 kj3 a0 a1 a2 false))) else (addr_Address.j1 kj3 a0 a1 a2 false)) = some (r1, r2) := by rw [if_neg (show ¬ (false = true) by decide)] at H; exact H
        clear H
        have H := H1
        clear H1
        have HC9 := Aside0.mk H
        clear H
        go_upto_region 3 with (fail)
        go_cut [21] (fun v21 wc => ∃ (kq : Nat) (x21_8 : Bool), v21 = .bool x21_8 ∧ Aside0 (addr_Address.j1 kq a0 a1 a2 x21_8 = some (r1, r2)) ∧ Aside0 (kq ≤ kj3) ∧ Drawn0 w wc)
        case first =>
          have H := HC9.out
          clear HC9
          by_cases c10 : a0 = 1
          · rw [if_pos c10] at H
            have c10b0 : (a0 == 1) = true := beq_iff_eq.mpr c10
            have c10b1 : (a0 != 1) = false := bne_eq_false_iff_eq.mpr c10
            clear c10
            (first | rw [c10b0] | (simp only [i64_w, i32_w]; rw [c10b0]) | skip)
            replace H := Option.bind_eq_some_iff.mp H
            obtain ⟨t105, A110, H⟩ := H
            replace H : (if t105 = true then (addr_Address.j1 kj3 a0 a1 a2 (a2 == 0)) else (addr_Address.j1 kj3 a0 a1 a2 false)) = some (r1, r2) := H
            have A11 := Aside0.mk A110
            clear A110
            by_cases c12 : t105 = true
            · subst c12
              have H1 : (addr_Address.j1 kj3 a0 a1 a2 (a2 == 0)) = some (r1, r2) := by rw [if_pos rfl] at H; exact H
              clear H
              have H := H1
              clear H1
              have H' := Aside0.mk H
              clear H
              go_wp2_with (first | (go_at_call 44; (with_reducible refine (addr_below.calls a1 3 true _ A11.out).mono ?_); rintro e w' ⟨rfl, ⟨nd, rfl⟩⟩))
              go_meet
              case rel => exact ⟨_, ((a2 == 0)), (by first | rfl | (simp; done) | (simp [*]; done)), H', ⟨by have := HJ3.out; first | omega | exact Nat.le_refl _⟩, by repeat (first | exact Drawn0.refl _ | apply Drawn0.step)⟩
            · replace c12 := Bool.eq_false_iff.mpr c12
              subst c12
              have H1 : (addr_Address.j1 kj3 a0 a1 a2 false) = some (r1, r2) := by rw [if_neg (show ¬ (false = true) by decide)] at H; exact H
              clear H
              have H := H1
              clear H1
              have H' := Aside0.mk H
              clear H
              go_wp2_with (first | (go_at_call 44; (with_reducible refine (addr_below.calls a1 3 false _ A11.out).mono ?_); rintro e w' ⟨rfl, ⟨nd, rfl⟩⟩))
              go_meet
              case rel => exact ⟨_, (false), (by first | rfl | (simp; done) | (simp [*]; done)), H', ⟨by have := HJ3.out; first | omega | exact Nat.le_refl _⟩, by repeat (first | exact Drawn0.refl _ | apply Drawn0.step)⟩
          · rw [if_neg c10] at H
            have c10b0 : (a0 == 1) = false := beq_eq_false_iff_ne.mpr c10
            have c10b1 : (a0 != 1) = true := bne_iff_ne.mpr c10
            (first | rw [c10b0] | (simp only [i64_w, i32_w]; rw [c10b0]) | skip)
            have H' := Aside0.mk H
            clear H
            go_wp2
            go_meet
            case rel => exact ⟨_, (false), (by first | rfl | (simp; done) | (simp [*]; done)), H', ⟨by have := HJ3.out; first | omega | exact Nat.le_refl _⟩, by repeat (first | exact Drawn0.refl _ | apply Drawn0.step)⟩
        case rest =>
          clear HC9
          try clear c1
          try clear p2
          try clear c3
          try clear c5
          try clear c5b0
          try clear c5b1
          try clear c6
          try clear c6b0
          try clear c6b1
          try clear p6
          try clear c8
          try clear c10
          try clear c10b0
          try clear c10b1
          try clear c12
          try clear p2
          obtain ⟨kq, x21_8, rfl, HA, HJ8, ⟨mc8, rfl⟩⟩ := hcut
          cases kq with
          | zero => exact absurd HA.out (by simp [addr_Address.j1])
          | succ kj8 =>
            have H := HA.out
            clear HA
            simp only [addr_Address.j1] at H
            by_cases c13 : x21_8 = true
            · subst c13
              have H1 : (some (wrap64 (167903232 + a1), 0)) = some (r1, r2) := by rw [if_pos rfl] at H; exact H
              clear H
              have H := H1
              clear H1
              simp only [Option.some.injEq, Prod.mk.injEq] at H
              obtain ⟨rfl, rfl⟩ := H
              go_wp2
              go_ret2
              exact ⟨by first | rfl | (simp; done) | (simp [*]; done), by repeat (first | exact Drawn0.refl _ | apply Drawn0.step)⟩
            · replace c13 := Bool.eq_false_iff.mpr c13
              subst c13
              have H1 : (if a0 = 2 then ((addr_below.f a1 3).bind fun t106 => (if t106 = true then ((addr_below.f a2 4).bind fun t107 => (if t107 = true then (some (wrap64 ((wrap64 (167968768 + (wrap64 (256 * a1)))) + a2), 0)) else (some (0, 500)))) else (some (0, 500)))) else (some (0, 500))) = some (r1, r2) := by rw [if_neg (show ¬ (false = true) by decide)] at H; exact H
              clear H
              have H := H1
              clear H1
              by_cases c14 : a0 = 2
              · rw [if_pos c14] at H
                have c14b0 : (a0 == 2) = true := beq_iff_eq.mpr c14
                have c14b1 : (a0 != 2) = false := bne_eq_false_iff_eq.mpr c14
                clear c14
                replace H := Option.bind_eq_some_iff.mp H
                obtain ⟨t106, A150, H⟩ := H
                replace H : (if t106 = true then ((addr_below.f a2 4).bind fun t107 => (if t107 = true then (some (wrap64 ((wrap64 (167968768 + (wrap64 (256 * a1)))) + a2), 0)) else (some (0, 500)))) else (some (0, 500))) = some (r1, r2) := H
                have A15 := Aside0.mk A150
                clear A150
                by_cases c16 : t106 = true
                · subst c16
                  have H1 : ((addr_below.f a2 4).bind fun t107 => (if t107 = true then (some (wrap64 ((wrap64 (167968768 + (wrap64 (256 * a1)))) + a2), 0)) else (some (0, 500)))) = some (r1, r2) := by rw [if_pos rfl] at H; exact H
                  clear H
                  have H := H1
                  clear H1
                  replace H := Option.bind_eq_some_iff.mp H
                  obtain ⟨t107, A170, H⟩ := H
                  replace H : (if t107 = true then (some (wrap64 ((wrap64 (167968768 + (wrap64 (256 * a1)))) + a2), 0)) else (some (0, 500))) = some (r1, r2) := H
                  have A17 := Aside0.mk A170
                  clear A170
                  by_cases c18 : t107 = true
                  · subst c18
                    have H1 : (some (wrap64 ((wrap64 (167968768 + (wrap64 (256 * a1)))) + a2), 0)) = some (r1, r2) := by rw [if_pos rfl] at H; exact H
                    clear H
                    have H := H1
                    clear H1
                    simp only [Option.some.injEq, Prod.mk.injEq] at H
                    obtain ⟨rfl, rfl⟩ := H
                    go_wp2_with (first | (go_at_call 44; (with_reducible refine (addr_below.calls a1 3 true _ A15.out).mono ?_); rintro e w' ⟨rfl, ⟨nd, rfl⟩⟩) | (go_at_call 44; (with_reducible refine (addr_below.calls a2 4 true _ A17.out).mono ?_); rintro e w' ⟨rfl, ⟨nd, rfl⟩⟩))
                    go_ret2
                    exact ⟨by first | rfl | (simp; done) | (simp [*]; done), by repeat (first | exact Drawn0.refl _ | apply Drawn0.step)⟩
                  · replace c18 := Bool.eq_false_iff.mpr c18
                    subst c18
                    have H1 : (some (0, 500)) = some (r1, r2) := by rw [if_neg (show ¬ (false = true) by decide)] at H; exact H
                    clear H
                    have H := H1
                    clear H1
                    simp only [Option.some.injEq, Prod.mk.injEq] at H
                    obtain ⟨rfl, rfl⟩ := H
                    go_wp2_with (first | (go_at_call 44; (with_reducible refine (addr_below.calls a1 3 true _ A15.out).mono ?_); rintro e w' ⟨rfl, ⟨nd, rfl⟩⟩) | (go_at_call 44; (with_reducible refine (addr_below.calls a2 4 false _ A17.out).mono ?_); rintro e w' ⟨rfl, ⟨nd, rfl⟩⟩))
                    go_ret2
                    exact ⟨by first | rfl | (simp; done) | (simp [*]; done), by repeat (first | exact Drawn0.refl _ | apply Drawn0.step)⟩
                · replace c16 := Bool.eq_false_iff.mpr c16
                  subst c16
                  have H1 : (some (0, 500)) = some (r1, r2) := by rw [if_neg (show ¬ (false = true) by decide)] at H; exact H
                  clear H
                  have H := H1
                  clear H1
                  simp only [Option.some.injEq, Prod.mk.injEq] at H
                  obtain ⟨rfl, rfl⟩ := H
                  go_wp2_with (first | (go_at_call 44; (with_reducible refine (addr_below.calls a1 3 false _ A15.out).mono ?_); rintro e w' ⟨rfl, ⟨nd, rfl⟩⟩))
                  go_ret2
                  exact ⟨by first | rfl | (simp; done) | (simp [*]; done), by repeat (first | exact Drawn0.refl _ | apply Drawn0.step)⟩
              · rw [if_neg c14] at H
                have c14b0 : (a0 == 2) = false := beq_eq_false_iff_ne.mpr c14
                have c14b1 : (a0 != 2) = true := bne_iff_ne.mpr c14
                simp only [Option.some.injEq, Prod.mk.injEq] at H
                obtain ⟨rfl, rfl⟩ := H
                go_wp2
                go_ret2
                exact ⟨by first | rfl | (simp; done) | (simp [*]; done), by repeat (first | exact Drawn0.refl _ | apply Drawn0.step)⟩

/-! ### wharfagelaw5_awake: function 37 -/
def wharfagelaw5_awake.f (k : Nat)  : Option (Bool) := (addr_Address.f k 2 2 3).bind fun bt108 => ((addr_Whose.f bt108.1).bind fun bt110 => ((addr_Address.f k 0 1 0).bind fun bt114 => ((addr_Whose.f 0).bind fun bt116 => (if bt108.1 = 167969283 then ((wharfagelaw0_Num.f bt108.2).bind fun t120 => (if t120 = 0 then (if bt110.1 = 2 then (if bt110.2.1 = 2 then (if bt110.2.2.1 = 3 then (if bt110.2.2.2 = true then ((wharfagelaw0_Num.f bt114.2).bind fun t121 => (if t121 = 500 then (some (!bt116.2.2.2)) else (some false))) else (some false)) else (some false)) else (some false)) else (some false)) else (some false))) else (some false)))))
theorem wharfagelaw5_awake.mono : ∀ k, LeO (wharfagelaw5_awake.f k ) (wharfagelaw5_awake.f (k + 1) ) := by
  intro  k
  unfold wharfagelaw5_awake.f
  repeat' first
      | (with_reducible exact addr_Address.mono _ _ _ _)
      | (with_reducible exact LeO.refl _)
      | (with_reducible exact LeO.none _)
      | (with_reducible refine LeO.ite ?_ ?_)
      | (with_reducible refine LeO.bind ?_ (fun _ => ?_))
      | exact addr_Address.mono _ _ _ _
      | exact LeO.none _
      | refine LeO.ite ?_ ?_
      | refine LeO.bind ?_ (fun _ => ?_)
set_option maxHeartbeats 8000000 in
set_option maxRecDepth 100000 in
theorem wharfagelaw5_awake.calls (k : Nat)  (r : Bool) (w : World) (h : wharfagelaw5_awake.f k  = some r) :
    Calls Try.prog 37 #[] w fun e w' => e = .returned (.bool r) ∧ Drawn0 w w' := by
  have H : ((addr_Address.f k 2 2 3).bind fun bt108 => ((addr_Whose.f bt108.1).bind fun bt110 => ((addr_Address.f k 0 1 0).bind fun bt114 => ((addr_Whose.f 0).bind fun bt116 => (if bt108.1 = 167969283 then ((wharfagelaw0_Num.f bt108.2).bind fun t120 => (if t120 = 0 then (if bt110.1 = 2 then (if bt110.2.1 = 2 then (if bt110.2.2.1 = 3 then (if bt110.2.2.2 = true then ((wharfagelaw0_Num.f bt114.2).bind fun t121 => (if t121 = 500 then (some (!bt116.2.2.2)) else (some false))) else (some false)) else (some false)) else (some false)) else (some false)) else (some false))) else (some false)))))) = some r := h
  clear h
  replace H := Option.bind_eq_some_iff.mp H
  obtain ⟨⟨t108, t109⟩, A10, H⟩ := H
  replace H : ((addr_Whose.f t108).bind fun bt110 => ((addr_Address.f k 0 1 0).bind fun bt114 => ((addr_Whose.f 0).bind fun bt116 => (if t108 = 167969283 then ((wharfagelaw0_Num.f t109).bind fun t120 => (if t120 = 0 then (if bt110.1 = 2 then (if bt110.2.1 = 2 then (if bt110.2.2.1 = 3 then (if bt110.2.2.2 = true then ((wharfagelaw0_Num.f bt114.2).bind fun t121 => (if t121 = 500 then (some (!bt116.2.2.2)) else (some false))) else (some false)) else (some false)) else (some false)) else (some false)) else (some false))) else (some false))))) = some r := H
  have A1 := Aside0.mk A10
  clear A10
  replace H := Option.bind_eq_some_iff.mp H
  obtain ⟨⟨t110, t111, t112, t113⟩, A20, H⟩ := H
  replace H : ((addr_Address.f k 0 1 0).bind fun bt114 => ((addr_Whose.f 0).bind fun bt116 => (if t108 = 167969283 then ((wharfagelaw0_Num.f t109).bind fun t120 => (if t120 = 0 then (if t110 = 2 then (if t111 = 2 then (if t112 = 3 then (if t113 = true then ((wharfagelaw0_Num.f bt114.2).bind fun t121 => (if t121 = 500 then (some (!bt116.2.2.2)) else (some false))) else (some false)) else (some false)) else (some false)) else (some false)) else (some false))) else (some false)))) = some r := H
  have A2 := Aside0.mk A20
  clear A20
  replace H := Option.bind_eq_some_iff.mp H
  obtain ⟨⟨t114, t115⟩, A30, H⟩ := H
  replace H : ((addr_Whose.f 0).bind fun bt116 => (if t108 = 167969283 then ((wharfagelaw0_Num.f t109).bind fun t120 => (if t120 = 0 then (if t110 = 2 then (if t111 = 2 then (if t112 = 3 then (if t113 = true then ((wharfagelaw0_Num.f t115).bind fun t121 => (if t121 = 500 then (some (!bt116.2.2.2)) else (some false))) else (some false)) else (some false)) else (some false)) else (some false)) else (some false))) else (some false))) = some r := H
  have A3 := Aside0.mk A30
  clear A30
  replace H := Option.bind_eq_some_iff.mp H
  obtain ⟨⟨t116, t117, t118, t119⟩, A40, H⟩ := H
  replace H : (if t108 = 167969283 then ((wharfagelaw0_Num.f t109).bind fun t120 => (if t120 = 0 then (if t110 = 2 then (if t111 = 2 then (if t112 = 3 then (if t113 = true then ((wharfagelaw0_Num.f t115).bind fun t121 => (if t121 = 500 then (some (!t119)) else (some false))) else (some false)) else (some false)) else (some false)) else (some false)) else (some false))) else (some false)) = some r := H
  have A4 := Aside0.mk A40
  clear A40
  by_cases c5 : t108 = 167969283
  · rw [if_pos c5] at H
    have c5b0 : (t108 == 167969283) = true := beq_iff_eq.mpr c5
    have c5b1 : (t108 != 167969283) = false := bne_eq_false_iff_eq.mpr c5
    clear c5
    replace H := Option.bind_eq_some_iff.mp H
    obtain ⟨t120, A60, H⟩ := H
    replace H : (if t120 = 0 then (if t110 = 2 then (if t111 = 2 then (if t112 = 3 then (if t113 = true then ((wharfagelaw0_Num.f t115).bind fun t121 => (if t121 = 500 then (some (!t119)) else (some false))) else (some false)) else (some false)) else (some false)) else (some false)) else (some false)) = some r := H
    have A6 := Aside0.mk A60
    clear A60
    by_cases c7 : t120 = 0
    · rw [if_pos c7] at H
      have c7b0 : (t120 == 0) = true := beq_iff_eq.mpr c7
      have c7b1 : (t120 != 0) = false := bne_eq_false_iff_eq.mpr c7
      clear c7
      by_cases c8 : t110 = 2
      · rw [if_pos c8] at H
        have c8b0 : (t110 == 2) = true := beq_iff_eq.mpr c8
        have c8b1 : (t110 != 2) = false := bne_eq_false_iff_eq.mpr c8
        clear c8
        by_cases c9 : t111 = 2
        · rw [if_pos c9] at H
          have c9b0 : (t111 == 2) = true := beq_iff_eq.mpr c9
          have c9b1 : (t111 != 2) = false := bne_eq_false_iff_eq.mpr c9
          clear c9
          by_cases c10 : t112 = 3
          · rw [if_pos c10] at H
            have c10b0 : (t112 == 3) = true := beq_iff_eq.mpr c10
            have c10b1 : (t112 != 3) = false := bne_eq_false_iff_eq.mpr c10
            clear c10
            by_cases c11 : t113 = true
            · subst c11
              have H1 : ((wharfagelaw0_Num.f t115).bind fun t121 => (if t121 = 500 then (some (!t119)) else (some false))) = some r := by rw [if_pos rfl] at H; exact H
              clear H
              have H := H1
              clear H1
              replace H := Option.bind_eq_some_iff.mp H
              obtain ⟨t121, A120, H⟩ := H
              replace H : (if t121 = 500 then (some (!t119)) else (some false)) = some r := H
              have A12 := Aside0.mk A120
              clear A120
              by_cases c13 : t121 = 500
              · rw [if_pos c13] at H
                have c13b0 : (t121 == 500) = true := beq_iff_eq.mpr c13
                have c13b1 : (t121 != 500) = false := bne_eq_false_iff_eq.mpr c13
                clear c13
                obtain rfl := Option.some.inj H
                go_enter Try.func37, Try.ntmps37
                go_wp2_with (first | ((with_reducible refine gate_callee (f := 33) rfl ?_); refine goesL_ (some 14) rfl rfl Try.func33 (by kernel_rfl) rfl #[.int .i64 2, .int .i64 2, .int .i64 3] rfl (by (try simp only [List.map_toArray, List.map_cons, List.map_nil]); first | done | rfl | (simp only [List.length_drop, List.length_take]; rfl)) ?_; (with_reducible refine (addr_Address.calls k 2 2 3 t108 t109 _ A1.out).mono ?_); rintro e w' ⟨rfl, ⟨nd, rfl⟩⟩; refine ⟨_, rfl, ?_⟩) | ((with_reducible refine gate_callee (f := 35) rfl ?_); refine goesL_ (some 19) rfl rfl Try.func35 (by kernel_rfl) rfl #[.int .i64 t108] rfl (by (try simp only [List.map_toArray, List.map_cons, List.map_nil]); first | done | rfl | (simp only [List.length_drop, List.length_take]; rfl)) ?_; (with_reducible refine (addr_Whose.calls t108 t110 t111 t112 true _ A2.out).mono ?_); rintro e w' ⟨rfl, ⟨nd, rfl⟩⟩; refine ⟨_, rfl, ?_⟩) | ((with_reducible refine gate_callee (f := 33) rfl ?_); refine goesL_ (some 25) rfl rfl Try.func33 (by kernel_rfl) rfl #[.int .i64 0, .int .i64 1, .int .i64 0] rfl (by (try simp only [List.map_toArray, List.map_cons, List.map_nil]); first | done | rfl | (simp only [List.length_drop, List.length_take]; rfl)) ?_; (with_reducible refine (addr_Address.calls k 0 1 0 t114 t115 _ A3.out).mono ?_); rintro e w' ⟨rfl, ⟨nd, rfl⟩⟩; refine ⟨_, rfl, ?_⟩) | ((with_reducible refine gate_callee (f := 35) rfl ?_); refine goesL_ (some 29) rfl rfl Try.func35 (by kernel_rfl) rfl #[.int .i64 0] rfl (by (try simp only [List.map_toArray, List.map_cons, List.map_nil]); first | done | rfl | (simp only [List.length_drop, List.length_take]; rfl)) ?_; (with_reducible refine (addr_Whose.calls 0 t116 t117 t118 t119 _ A4.out).mono ?_); rintro e w' ⟨rfl, ⟨nd, rfl⟩⟩; refine ⟨_, rfl, ?_⟩) | (go_at_call 28; (with_reducible refine (wharfagelaw0_Num.calls t109 t120 _ A6.out).mono ?_); rintro e w' ⟨rfl, ⟨nd, rfl⟩⟩) | (go_at_call 28; (with_reducible refine (wharfagelaw0_Num.calls t115 t121 _ A12.out).mono ?_); rintro e w' ⟨rfl, ⟨nd, rfl⟩⟩))
                go_ret
                exact ⟨by first | rfl | (simp; done) | (simp [*]; done), by repeat (first | exact Drawn0.refl _ | apply Drawn0.step)⟩
              · rw [if_neg c13] at H
                have c13b0 : (t121 == 500) = false := beq_eq_false_iff_ne.mpr c13
                have c13b1 : (t121 != 500) = true := bne_iff_ne.mpr c13
                obtain rfl := Option.some.inj H
                go_enter Try.func37, Try.ntmps37
                go_wp2_with (first | ((with_reducible refine gate_callee (f := 33) rfl ?_); refine goesL_ (some 14) rfl rfl Try.func33 (by kernel_rfl) rfl #[.int .i64 2, .int .i64 2, .int .i64 3] rfl (by (try simp only [List.map_toArray, List.map_cons, List.map_nil]); first | done | rfl | (simp only [List.length_drop, List.length_take]; rfl)) ?_; (with_reducible refine (addr_Address.calls k 2 2 3 t108 t109 _ A1.out).mono ?_); rintro e w' ⟨rfl, ⟨nd, rfl⟩⟩; refine ⟨_, rfl, ?_⟩) | ((with_reducible refine gate_callee (f := 35) rfl ?_); refine goesL_ (some 19) rfl rfl Try.func35 (by kernel_rfl) rfl #[.int .i64 t108] rfl (by (try simp only [List.map_toArray, List.map_cons, List.map_nil]); first | done | rfl | (simp only [List.length_drop, List.length_take]; rfl)) ?_; (with_reducible refine (addr_Whose.calls t108 t110 t111 t112 true _ A2.out).mono ?_); rintro e w' ⟨rfl, ⟨nd, rfl⟩⟩; refine ⟨_, rfl, ?_⟩) | ((with_reducible refine gate_callee (f := 33) rfl ?_); refine goesL_ (some 25) rfl rfl Try.func33 (by kernel_rfl) rfl #[.int .i64 0, .int .i64 1, .int .i64 0] rfl (by (try simp only [List.map_toArray, List.map_cons, List.map_nil]); first | done | rfl | (simp only [List.length_drop, List.length_take]; rfl)) ?_; (with_reducible refine (addr_Address.calls k 0 1 0 t114 t115 _ A3.out).mono ?_); rintro e w' ⟨rfl, ⟨nd, rfl⟩⟩; refine ⟨_, rfl, ?_⟩) | ((with_reducible refine gate_callee (f := 35) rfl ?_); refine goesL_ (some 29) rfl rfl Try.func35 (by kernel_rfl) rfl #[.int .i64 0] rfl (by (try simp only [List.map_toArray, List.map_cons, List.map_nil]); first | done | rfl | (simp only [List.length_drop, List.length_take]; rfl)) ?_; (with_reducible refine (addr_Whose.calls 0 t116 t117 t118 t119 _ A4.out).mono ?_); rintro e w' ⟨rfl, ⟨nd, rfl⟩⟩; refine ⟨_, rfl, ?_⟩) | (go_at_call 28; (with_reducible refine (wharfagelaw0_Num.calls t109 t120 _ A6.out).mono ?_); rintro e w' ⟨rfl, ⟨nd, rfl⟩⟩) | (go_at_call 28; (with_reducible refine (wharfagelaw0_Num.calls t115 t121 _ A12.out).mono ?_); rintro e w' ⟨rfl, ⟨nd, rfl⟩⟩))
                go_ret
                exact ⟨by first | rfl | (simp; done) | (simp [*]; done), by repeat (first | exact Drawn0.refl _ | apply Drawn0.step)⟩
            · replace c11 := Bool.eq_false_iff.mpr c11
              subst c11
              have H1 : (some false) = some r := by rw [if_neg (show ¬ (false = true) by decide)] at H; exact H
              clear H
              have H := H1
              clear H1
              obtain rfl := Option.some.inj H
              go_enter Try.func37, Try.ntmps37
              go_wp2_with (first | ((with_reducible refine gate_callee (f := 33) rfl ?_); refine goesL_ (some 14) rfl rfl Try.func33 (by kernel_rfl) rfl #[.int .i64 2, .int .i64 2, .int .i64 3] rfl (by (try simp only [List.map_toArray, List.map_cons, List.map_nil]); first | done | rfl | (simp only [List.length_drop, List.length_take]; rfl)) ?_; (with_reducible refine (addr_Address.calls k 2 2 3 t108 t109 _ A1.out).mono ?_); rintro e w' ⟨rfl, ⟨nd, rfl⟩⟩; refine ⟨_, rfl, ?_⟩) | ((with_reducible refine gate_callee (f := 35) rfl ?_); refine goesL_ (some 19) rfl rfl Try.func35 (by kernel_rfl) rfl #[.int .i64 t108] rfl (by (try simp only [List.map_toArray, List.map_cons, List.map_nil]); first | done | rfl | (simp only [List.length_drop, List.length_take]; rfl)) ?_; (with_reducible refine (addr_Whose.calls t108 t110 t111 t112 false _ A2.out).mono ?_); rintro e w' ⟨rfl, ⟨nd, rfl⟩⟩; refine ⟨_, rfl, ?_⟩) | ((with_reducible refine gate_callee (f := 33) rfl ?_); refine goesL_ (some 25) rfl rfl Try.func33 (by kernel_rfl) rfl #[.int .i64 0, .int .i64 1, .int .i64 0] rfl (by (try simp only [List.map_toArray, List.map_cons, List.map_nil]); first | done | rfl | (simp only [List.length_drop, List.length_take]; rfl)) ?_; (with_reducible refine (addr_Address.calls k 0 1 0 t114 t115 _ A3.out).mono ?_); rintro e w' ⟨rfl, ⟨nd, rfl⟩⟩; refine ⟨_, rfl, ?_⟩) | ((with_reducible refine gate_callee (f := 35) rfl ?_); refine goesL_ (some 29) rfl rfl Try.func35 (by kernel_rfl) rfl #[.int .i64 0] rfl (by (try simp only [List.map_toArray, List.map_cons, List.map_nil]); first | done | rfl | (simp only [List.length_drop, List.length_take]; rfl)) ?_; (with_reducible refine (addr_Whose.calls 0 t116 t117 t118 t119 _ A4.out).mono ?_); rintro e w' ⟨rfl, ⟨nd, rfl⟩⟩; refine ⟨_, rfl, ?_⟩) | (go_at_call 28; (with_reducible refine (wharfagelaw0_Num.calls t109 t120 _ A6.out).mono ?_); rintro e w' ⟨rfl, ⟨nd, rfl⟩⟩))
              go_ret
              exact ⟨by first | rfl | (simp; done) | (simp [*]; done), by repeat (first | exact Drawn0.refl _ | apply Drawn0.step)⟩
          · rw [if_neg c10] at H
            have c10b0 : (t112 == 3) = false := beq_eq_false_iff_ne.mpr c10
            have c10b1 : (t112 != 3) = true := bne_iff_ne.mpr c10
            obtain rfl := Option.some.inj H
            go_enter Try.func37, Try.ntmps37
            go_wp2_with (first | ((with_reducible refine gate_callee (f := 33) rfl ?_); refine goesL_ (some 14) rfl rfl Try.func33 (by kernel_rfl) rfl #[.int .i64 2, .int .i64 2, .int .i64 3] rfl (by (try simp only [List.map_toArray, List.map_cons, List.map_nil]); first | done | rfl | (simp only [List.length_drop, List.length_take]; rfl)) ?_; (with_reducible refine (addr_Address.calls k 2 2 3 t108 t109 _ A1.out).mono ?_); rintro e w' ⟨rfl, ⟨nd, rfl⟩⟩; refine ⟨_, rfl, ?_⟩) | ((with_reducible refine gate_callee (f := 35) rfl ?_); refine goesL_ (some 19) rfl rfl Try.func35 (by kernel_rfl) rfl #[.int .i64 t108] rfl (by (try simp only [List.map_toArray, List.map_cons, List.map_nil]); first | done | rfl | (simp only [List.length_drop, List.length_take]; rfl)) ?_; (with_reducible refine (addr_Whose.calls t108 t110 t111 t112 t113 _ A2.out).mono ?_); rintro e w' ⟨rfl, ⟨nd, rfl⟩⟩; refine ⟨_, rfl, ?_⟩) | ((with_reducible refine gate_callee (f := 33) rfl ?_); refine goesL_ (some 25) rfl rfl Try.func33 (by kernel_rfl) rfl #[.int .i64 0, .int .i64 1, .int .i64 0] rfl (by (try simp only [List.map_toArray, List.map_cons, List.map_nil]); first | done | rfl | (simp only [List.length_drop, List.length_take]; rfl)) ?_; (with_reducible refine (addr_Address.calls k 0 1 0 t114 t115 _ A3.out).mono ?_); rintro e w' ⟨rfl, ⟨nd, rfl⟩⟩; refine ⟨_, rfl, ?_⟩) | ((with_reducible refine gate_callee (f := 35) rfl ?_); refine goesL_ (some 29) rfl rfl Try.func35 (by kernel_rfl) rfl #[.int .i64 0] rfl (by (try simp only [List.map_toArray, List.map_cons, List.map_nil]); first | done | rfl | (simp only [List.length_drop, List.length_take]; rfl)) ?_; (with_reducible refine (addr_Whose.calls 0 t116 t117 t118 t119 _ A4.out).mono ?_); rintro e w' ⟨rfl, ⟨nd, rfl⟩⟩; refine ⟨_, rfl, ?_⟩) | (go_at_call 28; (with_reducible refine (wharfagelaw0_Num.calls t109 t120 _ A6.out).mono ?_); rintro e w' ⟨rfl, ⟨nd, rfl⟩⟩))
            go_ret
            exact ⟨by first | rfl | (simp; done) | (simp [*]; done), by repeat (first | exact Drawn0.refl _ | apply Drawn0.step)⟩
        · rw [if_neg c9] at H
          have c9b0 : (t111 == 2) = false := beq_eq_false_iff_ne.mpr c9
          have c9b1 : (t111 != 2) = true := bne_iff_ne.mpr c9
          obtain rfl := Option.some.inj H
          go_enter Try.func37, Try.ntmps37
          go_wp2_with (first | ((with_reducible refine gate_callee (f := 33) rfl ?_); refine goesL_ (some 14) rfl rfl Try.func33 (by kernel_rfl) rfl #[.int .i64 2, .int .i64 2, .int .i64 3] rfl (by (try simp only [List.map_toArray, List.map_cons, List.map_nil]); first | done | rfl | (simp only [List.length_drop, List.length_take]; rfl)) ?_; (with_reducible refine (addr_Address.calls k 2 2 3 t108 t109 _ A1.out).mono ?_); rintro e w' ⟨rfl, ⟨nd, rfl⟩⟩; refine ⟨_, rfl, ?_⟩) | ((with_reducible refine gate_callee (f := 35) rfl ?_); refine goesL_ (some 19) rfl rfl Try.func35 (by kernel_rfl) rfl #[.int .i64 t108] rfl (by (try simp only [List.map_toArray, List.map_cons, List.map_nil]); first | done | rfl | (simp only [List.length_drop, List.length_take]; rfl)) ?_; (with_reducible refine (addr_Whose.calls t108 t110 t111 t112 t113 _ A2.out).mono ?_); rintro e w' ⟨rfl, ⟨nd, rfl⟩⟩; refine ⟨_, rfl, ?_⟩) | ((with_reducible refine gate_callee (f := 33) rfl ?_); refine goesL_ (some 25) rfl rfl Try.func33 (by kernel_rfl) rfl #[.int .i64 0, .int .i64 1, .int .i64 0] rfl (by (try simp only [List.map_toArray, List.map_cons, List.map_nil]); first | done | rfl | (simp only [List.length_drop, List.length_take]; rfl)) ?_; (with_reducible refine (addr_Address.calls k 0 1 0 t114 t115 _ A3.out).mono ?_); rintro e w' ⟨rfl, ⟨nd, rfl⟩⟩; refine ⟨_, rfl, ?_⟩) | ((with_reducible refine gate_callee (f := 35) rfl ?_); refine goesL_ (some 29) rfl rfl Try.func35 (by kernel_rfl) rfl #[.int .i64 0] rfl (by (try simp only [List.map_toArray, List.map_cons, List.map_nil]); first | done | rfl | (simp only [List.length_drop, List.length_take]; rfl)) ?_; (with_reducible refine (addr_Whose.calls 0 t116 t117 t118 t119 _ A4.out).mono ?_); rintro e w' ⟨rfl, ⟨nd, rfl⟩⟩; refine ⟨_, rfl, ?_⟩) | (go_at_call 28; (with_reducible refine (wharfagelaw0_Num.calls t109 t120 _ A6.out).mono ?_); rintro e w' ⟨rfl, ⟨nd, rfl⟩⟩))
          go_ret
          exact ⟨by first | rfl | (simp; done) | (simp [*]; done), by repeat (first | exact Drawn0.refl _ | apply Drawn0.step)⟩
      · rw [if_neg c8] at H
        have c8b0 : (t110 == 2) = false := beq_eq_false_iff_ne.mpr c8
        have c8b1 : (t110 != 2) = true := bne_iff_ne.mpr c8
        obtain rfl := Option.some.inj H
        go_enter Try.func37, Try.ntmps37
        go_wp2_with (first | ((with_reducible refine gate_callee (f := 33) rfl ?_); refine goesL_ (some 14) rfl rfl Try.func33 (by kernel_rfl) rfl #[.int .i64 2, .int .i64 2, .int .i64 3] rfl (by (try simp only [List.map_toArray, List.map_cons, List.map_nil]); first | done | rfl | (simp only [List.length_drop, List.length_take]; rfl)) ?_; (with_reducible refine (addr_Address.calls k 2 2 3 t108 t109 _ A1.out).mono ?_); rintro e w' ⟨rfl, ⟨nd, rfl⟩⟩; refine ⟨_, rfl, ?_⟩) | ((with_reducible refine gate_callee (f := 35) rfl ?_); refine goesL_ (some 19) rfl rfl Try.func35 (by kernel_rfl) rfl #[.int .i64 t108] rfl (by (try simp only [List.map_toArray, List.map_cons, List.map_nil]); first | done | rfl | (simp only [List.length_drop, List.length_take]; rfl)) ?_; (with_reducible refine (addr_Whose.calls t108 t110 t111 t112 t113 _ A2.out).mono ?_); rintro e w' ⟨rfl, ⟨nd, rfl⟩⟩; refine ⟨_, rfl, ?_⟩) | ((with_reducible refine gate_callee (f := 33) rfl ?_); refine goesL_ (some 25) rfl rfl Try.func33 (by kernel_rfl) rfl #[.int .i64 0, .int .i64 1, .int .i64 0] rfl (by (try simp only [List.map_toArray, List.map_cons, List.map_nil]); first | done | rfl | (simp only [List.length_drop, List.length_take]; rfl)) ?_; (with_reducible refine (addr_Address.calls k 0 1 0 t114 t115 _ A3.out).mono ?_); rintro e w' ⟨rfl, ⟨nd, rfl⟩⟩; refine ⟨_, rfl, ?_⟩) | ((with_reducible refine gate_callee (f := 35) rfl ?_); refine goesL_ (some 29) rfl rfl Try.func35 (by kernel_rfl) rfl #[.int .i64 0] rfl (by (try simp only [List.map_toArray, List.map_cons, List.map_nil]); first | done | rfl | (simp only [List.length_drop, List.length_take]; rfl)) ?_; (with_reducible refine (addr_Whose.calls 0 t116 t117 t118 t119 _ A4.out).mono ?_); rintro e w' ⟨rfl, ⟨nd, rfl⟩⟩; refine ⟨_, rfl, ?_⟩) | (go_at_call 28; (with_reducible refine (wharfagelaw0_Num.calls t109 t120 _ A6.out).mono ?_); rintro e w' ⟨rfl, ⟨nd, rfl⟩⟩))
        go_ret
        exact ⟨by first | rfl | (simp; done) | (simp [*]; done), by repeat (first | exact Drawn0.refl _ | apply Drawn0.step)⟩
    · rw [if_neg c7] at H
      have c7b0 : (t120 == 0) = false := beq_eq_false_iff_ne.mpr c7
      have c7b1 : (t120 != 0) = true := bne_iff_ne.mpr c7
      obtain rfl := Option.some.inj H
      go_enter Try.func37, Try.ntmps37
      go_wp2_with (first | ((with_reducible refine gate_callee (f := 33) rfl ?_); refine goesL_ (some 14) rfl rfl Try.func33 (by kernel_rfl) rfl #[.int .i64 2, .int .i64 2, .int .i64 3] rfl (by (try simp only [List.map_toArray, List.map_cons, List.map_nil]); first | done | rfl | (simp only [List.length_drop, List.length_take]; rfl)) ?_; (with_reducible refine (addr_Address.calls k 2 2 3 t108 t109 _ A1.out).mono ?_); rintro e w' ⟨rfl, ⟨nd, rfl⟩⟩; refine ⟨_, rfl, ?_⟩) | ((with_reducible refine gate_callee (f := 35) rfl ?_); refine goesL_ (some 19) rfl rfl Try.func35 (by kernel_rfl) rfl #[.int .i64 t108] rfl (by (try simp only [List.map_toArray, List.map_cons, List.map_nil]); first | done | rfl | (simp only [List.length_drop, List.length_take]; rfl)) ?_; (with_reducible refine (addr_Whose.calls t108 t110 t111 t112 t113 _ A2.out).mono ?_); rintro e w' ⟨rfl, ⟨nd, rfl⟩⟩; refine ⟨_, rfl, ?_⟩) | ((with_reducible refine gate_callee (f := 33) rfl ?_); refine goesL_ (some 25) rfl rfl Try.func33 (by kernel_rfl) rfl #[.int .i64 0, .int .i64 1, .int .i64 0] rfl (by (try simp only [List.map_toArray, List.map_cons, List.map_nil]); first | done | rfl | (simp only [List.length_drop, List.length_take]; rfl)) ?_; (with_reducible refine (addr_Address.calls k 0 1 0 t114 t115 _ A3.out).mono ?_); rintro e w' ⟨rfl, ⟨nd, rfl⟩⟩; refine ⟨_, rfl, ?_⟩) | ((with_reducible refine gate_callee (f := 35) rfl ?_); refine goesL_ (some 29) rfl rfl Try.func35 (by kernel_rfl) rfl #[.int .i64 0] rfl (by (try simp only [List.map_toArray, List.map_cons, List.map_nil]); first | done | rfl | (simp only [List.length_drop, List.length_take]; rfl)) ?_; (with_reducible refine (addr_Whose.calls 0 t116 t117 t118 t119 _ A4.out).mono ?_); rintro e w' ⟨rfl, ⟨nd, rfl⟩⟩; refine ⟨_, rfl, ?_⟩) | (go_at_call 28; (with_reducible refine (wharfagelaw0_Num.calls t109 t120 _ A6.out).mono ?_); rintro e w' ⟨rfl, ⟨nd, rfl⟩⟩))
      go_ret
      exact ⟨by first | rfl | (simp; done) | (simp [*]; done), by repeat (first | exact Drawn0.refl _ | apply Drawn0.step)⟩
  · rw [if_neg c5] at H
    have c5b0 : (t108 == 167969283) = false := beq_eq_false_iff_ne.mpr c5
    have c5b1 : (t108 != 167969283) = true := bne_iff_ne.mpr c5
    obtain rfl := Option.some.inj H
    go_enter Try.func37, Try.ntmps37
    go_wp2_with (first | ((with_reducible refine gate_callee (f := 33) rfl ?_); refine goesL_ (some 14) rfl rfl Try.func33 (by kernel_rfl) rfl #[.int .i64 2, .int .i64 2, .int .i64 3] rfl (by (try simp only [List.map_toArray, List.map_cons, List.map_nil]); first | done | rfl | (simp only [List.length_drop, List.length_take]; rfl)) ?_; (with_reducible refine (addr_Address.calls k 2 2 3 t108 t109 _ A1.out).mono ?_); rintro e w' ⟨rfl, ⟨nd, rfl⟩⟩; refine ⟨_, rfl, ?_⟩) | ((with_reducible refine gate_callee (f := 35) rfl ?_); refine goesL_ (some 19) rfl rfl Try.func35 (by kernel_rfl) rfl #[.int .i64 t108] rfl (by (try simp only [List.map_toArray, List.map_cons, List.map_nil]); first | done | rfl | (simp only [List.length_drop, List.length_take]; rfl)) ?_; (with_reducible refine (addr_Whose.calls t108 t110 t111 t112 t113 _ A2.out).mono ?_); rintro e w' ⟨rfl, ⟨nd, rfl⟩⟩; refine ⟨_, rfl, ?_⟩) | ((with_reducible refine gate_callee (f := 33) rfl ?_); refine goesL_ (some 25) rfl rfl Try.func33 (by kernel_rfl) rfl #[.int .i64 0, .int .i64 1, .int .i64 0] rfl (by (try simp only [List.map_toArray, List.map_cons, List.map_nil]); first | done | rfl | (simp only [List.length_drop, List.length_take]; rfl)) ?_; (with_reducible refine (addr_Address.calls k 0 1 0 t114 t115 _ A3.out).mono ?_); rintro e w' ⟨rfl, ⟨nd, rfl⟩⟩; refine ⟨_, rfl, ?_⟩) | ((with_reducible refine gate_callee (f := 35) rfl ?_); refine goesL_ (some 29) rfl rfl Try.func35 (by kernel_rfl) rfl #[.int .i64 0] rfl (by (try simp only [List.map_toArray, List.map_cons, List.map_nil]); first | done | rfl | (simp only [List.length_drop, List.length_take]; rfl)) ?_; (with_reducible refine (addr_Whose.calls 0 t116 t117 t118 t119 _ A4.out).mono ?_); rintro e w' ⟨rfl, ⟨nd, rfl⟩⟩; refine ⟨_, rfl, ?_⟩))
    go_ret
    exact ⟨by first | rfl | (simp; done) | (simp [*]; done), by repeat (first | exact Drawn0.refl _ | apply Drawn0.step)⟩

/-! ### wharfagelaw5_AddrNone: function 11 -/
def wharfagelaw5_AddrNone.f (k : Nat) (a0 : Int) (a1 : Int) : Option (Bool) := (wharfagelaw5_awake.f k).bind fun t122 => (if t122 = true then ((some (([0, 167772161, wrap64 (167837696 - (wrap64 (1 + (Go.bits .and .i64 a1 1023)))), wrap64 (167837697 + (wrap64 (1 + (Go.bits .and .i64 a1 1023)))), wrap64 (167903232 - (wrap64 (1 + (Go.bits .and .i64 a1 1023)))), wrap64 (167903234 + (wrap64 (1 + (Go.bits .and .i64 a1 1023)))), wrap64 (167968768 - (wrap64 (1 + (Go.bits .and .i64 a1 1023)))), 167968772, wrap64 (167969536 + (Go.bits .and .i64 a1 255)), wrap64 (-(wrap64 (1 + (Go.bits .and .i64 a1 1023))))] : List Int) : List Int)).bind fun y123 => (if 0 ≤ (wrap64 (Int.tmod (IntKind.u64.wrap (a0)) 10)) then (if (wrap64 (Int.tmod (IntKind.u64.wrap (a0)) 10)) < (y123.length : Int) then ((addr_Whose.f (rd y123 (wrap64 (Int.tmod (IntKind.u64.wrap (a0)) 10)))).bind fun bt127 => ((wharfagelaw0_Num.f 0).bind fun t131 => (if t131 = 0 then (if bt127.1 = 0 then (if bt127.2.1 = 0 then (if bt127.2.2.1 = 0 then (some (!bt127.2.2.2)) else (some false)) else (some false)) else (some false)) else (some false)))) else (none)) else (none))) else (some false))
theorem wharfagelaw5_AddrNone.mono : ∀ a0 a1 k, LeO (wharfagelaw5_AddrNone.f k a0 a1) (wharfagelaw5_AddrNone.f (k + 1) a0 a1) := by
  intro a0 a1 k
  unfold wharfagelaw5_AddrNone.f
  repeat' first
      | (with_reducible exact wharfagelaw5_awake.mono _)
      | (with_reducible exact LeO.refl _)
      | (with_reducible exact LeO.none _)
      | (with_reducible refine LeO.ite ?_ ?_)
      | (with_reducible refine LeO.bind ?_ (fun _ => ?_))
      | exact wharfagelaw5_awake.mono _
      | exact LeO.none _
      | refine LeO.ite ?_ ?_
      | refine LeO.bind ?_ (fun _ => ?_)
set_option maxHeartbeats 8000000 in
set_option maxRecDepth 100000 in
theorem wharfagelaw5_AddrNone.calls (k : Nat) (a0 : Int) (a1 : Int) (r : Bool) (w : World) (h : wharfagelaw5_AddrNone.f k a0 a1 = some r) :
    Calls Try.prog 11 #[.int .i64 a0, .int .i64 a1] w fun e w' => e = .returned (.bool r) ∧ Below w.heap.size w w' := by
  have HB := Aside0.mk (Below.refl w.heap.size w)
  have H : ((wharfagelaw5_awake.f k).bind fun t122 => (if t122 = true then ((some (([0, 167772161, wrap64 (167837696 - (wrap64 (1 + (Go.bits .and .i64 a1 1023)))), wrap64 (167837697 + (wrap64 (1 + (Go.bits .and .i64 a1 1023)))), wrap64 (167903232 - (wrap64 (1 + (Go.bits .and .i64 a1 1023)))), wrap64 (167903234 + (wrap64 (1 + (Go.bits .and .i64 a1 1023)))), wrap64 (167968768 - (wrap64 (1 + (Go.bits .and .i64 a1 1023)))), 167968772, wrap64 (167969536 + (Go.bits .and .i64 a1 255)), wrap64 (-(wrap64 (1 + (Go.bits .and .i64 a1 1023))))] : List Int) : List Int)).bind fun y123 => (if 0 ≤ (wrap64 (Int.tmod (IntKind.u64.wrap (a0)) 10)) then (if (wrap64 (Int.tmod (IntKind.u64.wrap (a0)) 10)) < (y123.length : Int) then ((addr_Whose.f (rd y123 (wrap64 (Int.tmod (IntKind.u64.wrap (a0)) 10)))).bind fun bt127 => ((wharfagelaw0_Num.f 0).bind fun t131 => (if t131 = 0 then (if bt127.1 = 0 then (if bt127.2.1 = 0 then (if bt127.2.2.1 = 0 then (some (!bt127.2.2.2)) else (some false)) else (some false)) else (some false)) else (some false)))) else (none)) else (none))) else (some false))) = some r := h
  clear h
  replace H := Option.bind_eq_some_iff.mp H
  obtain ⟨t122, A30, H⟩ := H
  replace H : (if t122 = true then ((some (([0, 167772161, wrap64 (167837696 - (wrap64 (1 + (Go.bits .and .i64 a1 1023)))), wrap64 (167837697 + (wrap64 (1 + (Go.bits .and .i64 a1 1023)))), wrap64 (167903232 - (wrap64 (1 + (Go.bits .and .i64 a1 1023)))), wrap64 (167903234 + (wrap64 (1 + (Go.bits .and .i64 a1 1023)))), wrap64 (167968768 - (wrap64 (1 + (Go.bits .and .i64 a1 1023)))), 167968772, wrap64 (167969536 + (Go.bits .and .i64 a1 255)), wrap64 (-(wrap64 (1 + (Go.bits .and .i64 a1 1023))))] : List Int) : List Int)).bind fun y123 => (if 0 ≤ (wrap64 (Int.tmod (IntKind.u64.wrap (a0)) 10)) then (if (wrap64 (Int.tmod (IntKind.u64.wrap (a0)) 10)) < (y123.length : Int) then ((addr_Whose.f (rd y123 (wrap64 (Int.tmod (IntKind.u64.wrap (a0)) 10)))).bind fun bt127 => ((wharfagelaw0_Num.f 0).bind fun t131 => (if t131 = 0 then (if bt127.1 = 0 then (if bt127.2.1 = 0 then (if bt127.2.2.1 = 0 then (some (!bt127.2.2.2)) else (some false)) else (some false)) else (some false)) else (some false)))) else (none)) else (none))) else (some false)) = some r := H
  have A3 := Aside0.mk A30
  clear A30
  by_cases c4 : t122 = true
  · subst c4
    have H1 : ((some (([0, 167772161, wrap64 (167837696 - (wrap64 (1 + (Go.bits .and .i64 a1 1023)))), wrap64 (167837697 + (wrap64 (1 + (Go.bits .and .i64 a1 1023)))), wrap64 (167903232 - (wrap64 (1 + (Go.bits .and .i64 a1 1023)))), wrap64 (167903234 + (wrap64 (1 + (Go.bits .and .i64 a1 1023)))), wrap64 (167968768 - (wrap64 (1 + (Go.bits .and .i64 a1 1023)))), 167968772, wrap64 (167969536 + (Go.bits .and .i64 a1 255)), wrap64 (-(wrap64 (1 + (Go.bits .and .i64 a1 1023))))] : List Int) : List Int)).bind fun y123 => (if 0 ≤ (wrap64 (Int.tmod (IntKind.u64.wrap (a0)) 10)) then (if (wrap64 (Int.tmod (IntKind.u64.wrap (a0)) 10)) < (y123.length : Int) then ((addr_Whose.f (rd y123 (wrap64 (Int.tmod (IntKind.u64.wrap (a0)) 10)))).bind fun bt127 => ((wharfagelaw0_Num.f 0).bind fun t131 => (if t131 = 0 then (if bt127.1 = 0 then (if bt127.2.1 = 0 then (if bt127.2.2.1 = 0 then (some (!bt127.2.2.2)) else (some false)) else (some false)) else (some false)) else (some false)))) else (none)) else (none))) = some r := by rw [if_pos rfl] at H; exact H
    clear H
    have H := H1
    clear H1
    obtain ⟨y123, hy123⟩ : ∃ y_ : List Int, y_ = (([0, 167772161, wrap64 (167837696 - (wrap64 (1 + (Go.bits .and .i64 a1 1023)))), wrap64 (167837697 + (wrap64 (1 + (Go.bits .and .i64 a1 1023)))), wrap64 (167903232 - (wrap64 (1 + (Go.bits .and .i64 a1 1023)))), wrap64 (167903234 + (wrap64 (1 + (Go.bits .and .i64 a1 1023)))), wrap64 (167968768 - (wrap64 (1 + (Go.bits .and .i64 a1 1023)))), 167968772, wrap64 (167969536 + (Go.bits .and .i64 a1 255)), wrap64 (-(wrap64 (1 + (Go.bits .and .i64 a1 1023))))] : List Int)) := ⟨_, rfl⟩
    replace H : (if 0 ≤ (wrap64 (Int.tmod (IntKind.u64.wrap (a0)) 10)) then (if (wrap64 (Int.tmod (IntKind.u64.wrap (a0)) 10)) < (y123.length : Int) then ((addr_Whose.f (rd y123 (wrap64 (Int.tmod (IntKind.u64.wrap (a0)) 10)))).bind fun bt127 => ((wharfagelaw0_Num.f 0).bind fun t131 => (if t131 = 0 then (if bt127.1 = 0 then (if bt127.2.1 = 0 then (if bt127.2.2.1 = 0 then (some (!bt127.2.2.2)) else (some false)) else (some false)) else (some false)) else (some false)))) else (none)) else (none)) = some r := by first | (rw [hy123]; with_reducible exact H) | (have H2_ := (Option.bind_some _ _).symm.trans H; rw [hy123]; with_reducible exact H2_) | (have H2_ := (Option.bind_some _ _).symm.trans H; with_reducible exact H2_) | with_reducible exact H | (rw [hy123]; exact H) | exact H
    have Ny123 := Aside0.mk hy123
    clear hy123
    obtain ⟨ji5, hji5⟩ : ∃ j_ : Int, (wrap64 (Int.tmod (IntKind.u64.wrap (a0)) 10)) = j_ := ⟨_, rfl⟩
    replace H : (if 0 ≤ (ji5) then (if (ji5) < (y123.length : Int) then ((addr_Whose.f (rd y123 (ji5))).bind fun bt127 => ((wharfagelaw0_Num.f 0).bind fun t131 => (if t131 = 0 then (if bt127.1 = 0 then (if bt127.2.1 = 0 then (if bt127.2.2.1 = 0 then (some (!bt127.2.2.2)) else (some false)) else (some false)) else (some false)) else (some false)))) else (none)) else (none)) = some r := by first | (rw [hji5] at H; exact H) | (simp only [hji5] at H ⊢; exact H)
    (try rw [hji5] at A3)
    have hji5w : (IntKind.i64.wrap (Int.tmod (IntKind.u64.wrap (a0)) 10)) = ji5 := (i64_w _).trans hji5
    by_cases c6 : 0 ≤ (ji5)
    · rw [if_pos c6] at H
      have c6b0 : decide (0 ≤ (ji5)) = true := decide_eq_true c6
      clear c6
      by_cases c7 : (ji5) < (y123.length : Int)
      · rw [if_pos c7] at H
        have c7b0 : decide ((ji5) < (y123.length : Int)) = true := decide_eq_true c7
        clear c7
        replace H := Option.bind_eq_some_iff.mp H
        obtain ⟨⟨t127, t128, t129, t130⟩, A80, H⟩ := H
        replace H : ((wharfagelaw0_Num.f 0).bind fun t131 => (if t131 = 0 then (if t127 = 0 then (if t128 = 0 then (if t129 = 0 then (some (!t130)) else (some false)) else (some false)) else (some false)) else (some false))) = some r := H
        have A8 := Aside0.mk A80
        clear A80
        replace H := Option.bind_eq_some_iff.mp H
        obtain ⟨t131, A90, H⟩ := H
        replace H : (if t131 = 0 then (if t127 = 0 then (if t128 = 0 then (if t129 = 0 then (some (!t130)) else (some false)) else (some false)) else (some false)) else (some false)) = some r := H
        have A9 := Aside0.mk A90
        clear A90
        by_cases c10 : t131 = 0
        · rw [if_pos c10] at H
          have c10b0 : (t131 == 0) = true := beq_iff_eq.mpr c10
          have c10b1 : (t131 != 0) = false := bne_eq_false_iff_eq.mpr c10
          clear c10
          by_cases c11 : t127 = 0
          · rw [if_pos c11] at H
            have c11b0 : (t127 == 0) = true := beq_iff_eq.mpr c11
            have c11b1 : (t127 != 0) = false := bne_eq_false_iff_eq.mpr c11
            clear c11
            by_cases c12 : t128 = 0
            · rw [if_pos c12] at H
              have c12b0 : (t128 == 0) = true := beq_iff_eq.mpr c12
              have c12b1 : (t128 != 0) = false := bne_eq_false_iff_eq.mpr c12
              clear c12
              by_cases c13 : t129 = 0
              · rw [if_pos c13] at H
                have c13b0 : (t129 == 0) = true := beq_iff_eq.mpr c13
                have c13b1 : (t129 != 0) = false := bne_eq_false_iff_eq.mpr c13
                clear c13
                obtain rfl := Option.some.inj H
                go_enter Try.func11, Try.ntmps11
                go_wp2_with (first | ((with_reducible refine gate_callee (f := 37) rfl ?_); refine goesL_ (some 11) rfl rfl Try.func37 (by kernel_rfl) rfl #[] rfl (by (try simp only [List.map_toArray, List.map_cons, List.map_nil]); first | done | rfl | (simp only [List.length_drop, List.length_take]; rfl)) ?_; (with_reducible refine (wharfagelaw5_awake.calls k  true _ A3.out).mono ?_); rintro e w' ⟨rfl, ⟨nd, rfl⟩⟩; refine ⟨_, rfl, ?_⟩) | ((with_reducible refine gate_dst (N := 31) rfl ?_); refine Kd.R_lit (Kd.int .i64) _ 3 ?hg (N := 31) ?hd (xs := ([0, 167772161, wrap64 (167837696 - (wrap64 (1 + (Go.bits .and .i64 a1 1023)))), wrap64 (167837697 + (wrap64 (1 + (Go.bits .and .i64 a1 1023)))), wrap64 (167903232 - (wrap64 (1 + (Go.bits .and .i64 a1 1023)))), wrap64 (167903234 + (wrap64 (1 + (Go.bits .and .i64 a1 1023)))), wrap64 (167968768 - (wrap64 (1 + (Go.bits .and .i64 a1 1023)))), 167968772, wrap64 (167969536 + (Go.bits .and .i64 a1 255)), wrap64 (-(wrap64 (1 + (Go.bits .and .i64 a1 1023))))] : List Int)) (inner := [.int .i64 0, .int .i64 167772161, .int .i64 (wrap64 (167837696 - (wrap64 (1 + (Go.bits .and .i64 a1 1023))))), .int .i64 (wrap64 (167837697 + (wrap64 (1 + (Go.bits .and .i64 a1 1023))))), .int .i64 (wrap64 (167903232 - (wrap64 (1 + (Go.bits .and .i64 a1 1023))))), .int .i64 (wrap64 (167903234 + (wrap64 (1 + (Go.bits .and .i64 a1 1023))))), .int .i64 (wrap64 (167968768 - (wrap64 (1 + (Go.bits .and .i64 a1 1023))))), .int .i64 167968772, .int .i64 (wrap64 (167969536 + (Go.bits .and .i64 a1 255))), .int .i64 (wrap64 (-(wrap64 (1 + (Go.bits .and .i64 a1 1023)))))]) (ok := fun _ => True) (okp := fun _ => True) ?hr ?hp (fun _ hk => hk) trivial (Below.refl _ _) (Nat.le_refl _) (by simp) ?_; (case hd => rfl); (case hg => rfl); (case hr => first | (go_simp; done) | (go_simp; rfl)); (case hp => exact (Reps.one (show Kd.M (Kd.int .i64) _ _ _ 0 [.int .i64 0] from rfl) (Reps.one (show Kd.M (Kd.int .i64) _ _ _ 167772161 [.int .i64 167772161] from rfl) (Reps.one (show Kd.M (Kd.int .i64) _ _ _ (wrap64 (167837696 - (wrap64 (1 + (Go.bits .and .i64 a1 1023))))) [.int .i64 (wrap64 (167837696 - (wrap64 (1 + (Go.bits .and .i64 a1 1023)))))] from rfl) (Reps.one (show Kd.M (Kd.int .i64) _ _ _ (wrap64 (167837697 + (wrap64 (1 + (Go.bits .and .i64 a1 1023))))) [.int .i64 (wrap64 (167837697 + (wrap64 (1 + (Go.bits .and .i64 a1 1023)))))] from rfl) (Reps.one (show Kd.M (Kd.int .i64) _ _ _ (wrap64 (167903232 - (wrap64 (1 + (Go.bits .and .i64 a1 1023))))) [.int .i64 (wrap64 (167903232 - (wrap64 (1 + (Go.bits .and .i64 a1 1023)))))] from rfl) (Reps.one (show Kd.M (Kd.int .i64) _ _ _ (wrap64 (167903234 + (wrap64 (1 + (Go.bits .and .i64 a1 1023))))) [.int .i64 (wrap64 (167903234 + (wrap64 (1 + (Go.bits .and .i64 a1 1023)))))] from rfl) (Reps.one (show Kd.M (Kd.int .i64) _ _ _ (wrap64 (167968768 - (wrap64 (1 + (Go.bits .and .i64 a1 1023))))) [.int .i64 (wrap64 (167968768 - (wrap64 (1 + (Go.bits .and .i64 a1 1023)))))] from rfl) (Reps.one (show Kd.M (Kd.int .i64) _ _ _ 167968772 [.int .i64 167968772] from rfl) (Reps.one (show Kd.M (Kd.int .i64) _ _ _ (wrap64 (167969536 + (Go.bits .and .i64 a1 255))) [.int .i64 (wrap64 (167969536 + (Go.bits .and .i64 a1 255)))] from rfl) (Reps.one (show Kd.M (Kd.int .i64) _ _ _ (wrap64 (-(wrap64 (1 + (Go.bits .and .i64 a1 1023))))) [.int .i64 (wrap64 (-(wrap64 (1 + (Go.bits .and .i64 a1 1023)))))] from rfl) (Reps.none _ _)))))))))))); intro v124 w14 ho15 hb hg_ hnew_; clear hg_ hnew_; (first | rw [← Ny123.out] at ho15 | (simp only [Int.reduceToNat] at ho15; rw [← Ny123.out] at ho15)); have n0_ := Aside0.mk (Kd.R_lower ho15 (below_size (by repeat (first | (with_reducible first | exact HB.out | apply below_alloc | apply pw_below_drewN | apply below_drew1) | exact HB.out)))); have n1_ := Aside0.mk (below_step (by repeat (first | (with_reducible first | exact HB.out | apply below_alloc | apply pw_below_drewN | apply below_drew1) | exact HB.out)) hb); clear HB; have HO125 := n0_; have HB := n1_; clear n0_ n1_; clear hb ho15; obtain ⟨Ao16, co16, eo16⟩ := Kd.R_slice HO125.out; subst eo16; have p126 : 0 ≤ ((ji5) : Int) := of_decide_eq_true (by first | (with_reducible assumption) | assumption); have q126 : (ji5) < (y123.length : Int) := of_decide_eq_true (by first | (with_reducible assumption) | assumption); obtain ⟨ad126, e126, hx126_0⟩ := Kd.at_int (Kd.R_reads' HO125.out).2.2 (ji5) p126 q126; cases e126; replace p126 := eq_true p126; replace q126 := eq_true q126) | ((with_reducible refine gate_callee (f := 35) rfl ?_); refine goesL_ (some 40) rfl rfl Try.func35 (by kernel_rfl) rfl #[.int .i64 (rd y123 (ji5))] rfl (by (try simp only [List.map_toArray, List.map_cons, List.map_nil]); first | done | (simp only [hji5]; rfl) | rfl | (simp only [List.length_drop, List.length_take]; rfl)) ?_; (with_reducible refine (addr_Whose.calls (rd y123 (ji5)) t127 t128 t129 t130 _ A8.out).mono ?_); rintro e w' ⟨rfl, ⟨nd, rfl⟩⟩; refine ⟨_, rfl, ?_⟩) | ((with_reducible refine gate_callee (f := 28) rfl ?_); refine goesL_ (some 45) rfl rfl Try.func28 (by kernel_rfl) rfl #[.int .i64 0] rfl (by (try simp only [List.map_toArray, List.map_cons, List.map_nil]); first | done | rfl | (simp only [List.length_drop, List.length_take]; rfl)) ?_; (with_reducible refine (wharfagelaw0_Num.calls 0 t131 _ A9.out).mono ?_); rintro e w' ⟨rfl, ⟨nd, rfl⟩⟩; refine ⟨_, rfl, ?_⟩))
                go_ret
                exact ⟨by first | rfl | (simp [errW_none, errW_some] <;> rfl) | (simp only [← hji5]; first | rfl | (simp [errW_none, errW_some] <;> rfl)) | (simp [*, errW_none, errW_some] <;> rfl), by repeat (first | (with_reducible first | exact HB.out | apply below_alloc | apply pw_below_drewN | apply below_drew1) | exact HB.out)⟩
              · rw [if_neg c13] at H
                have c13b0 : (t129 == 0) = false := beq_eq_false_iff_ne.mpr c13
                have c13b1 : (t129 != 0) = true := bne_iff_ne.mpr c13
                obtain rfl := Option.some.inj H
                go_enter Try.func11, Try.ntmps11
                go_wp2_with (first | ((with_reducible refine gate_callee (f := 37) rfl ?_); refine goesL_ (some 11) rfl rfl Try.func37 (by kernel_rfl) rfl #[] rfl (by (try simp only [List.map_toArray, List.map_cons, List.map_nil]); first | done | rfl | (simp only [List.length_drop, List.length_take]; rfl)) ?_; (with_reducible refine (wharfagelaw5_awake.calls k  true _ A3.out).mono ?_); rintro e w' ⟨rfl, ⟨nd, rfl⟩⟩; refine ⟨_, rfl, ?_⟩) | ((with_reducible refine gate_dst (N := 31) rfl ?_); refine Kd.R_lit (Kd.int .i64) _ 3 ?hg (N := 31) ?hd (xs := ([0, 167772161, wrap64 (167837696 - (wrap64 (1 + (Go.bits .and .i64 a1 1023)))), wrap64 (167837697 + (wrap64 (1 + (Go.bits .and .i64 a1 1023)))), wrap64 (167903232 - (wrap64 (1 + (Go.bits .and .i64 a1 1023)))), wrap64 (167903234 + (wrap64 (1 + (Go.bits .and .i64 a1 1023)))), wrap64 (167968768 - (wrap64 (1 + (Go.bits .and .i64 a1 1023)))), 167968772, wrap64 (167969536 + (Go.bits .and .i64 a1 255)), wrap64 (-(wrap64 (1 + (Go.bits .and .i64 a1 1023))))] : List Int)) (inner := [.int .i64 0, .int .i64 167772161, .int .i64 (wrap64 (167837696 - (wrap64 (1 + (Go.bits .and .i64 a1 1023))))), .int .i64 (wrap64 (167837697 + (wrap64 (1 + (Go.bits .and .i64 a1 1023))))), .int .i64 (wrap64 (167903232 - (wrap64 (1 + (Go.bits .and .i64 a1 1023))))), .int .i64 (wrap64 (167903234 + (wrap64 (1 + (Go.bits .and .i64 a1 1023))))), .int .i64 (wrap64 (167968768 - (wrap64 (1 + (Go.bits .and .i64 a1 1023))))), .int .i64 167968772, .int .i64 (wrap64 (167969536 + (Go.bits .and .i64 a1 255))), .int .i64 (wrap64 (-(wrap64 (1 + (Go.bits .and .i64 a1 1023)))))]) (ok := fun _ => True) (okp := fun _ => True) ?hr ?hp (fun _ hk => hk) trivial (Below.refl _ _) (Nat.le_refl _) (by simp) ?_; (case hd => rfl); (case hg => rfl); (case hr => first | (go_simp; done) | (go_simp; rfl)); (case hp => exact (Reps.one (show Kd.M (Kd.int .i64) _ _ _ 0 [.int .i64 0] from rfl) (Reps.one (show Kd.M (Kd.int .i64) _ _ _ 167772161 [.int .i64 167772161] from rfl) (Reps.one (show Kd.M (Kd.int .i64) _ _ _ (wrap64 (167837696 - (wrap64 (1 + (Go.bits .and .i64 a1 1023))))) [.int .i64 (wrap64 (167837696 - (wrap64 (1 + (Go.bits .and .i64 a1 1023)))))] from rfl) (Reps.one (show Kd.M (Kd.int .i64) _ _ _ (wrap64 (167837697 + (wrap64 (1 + (Go.bits .and .i64 a1 1023))))) [.int .i64 (wrap64 (167837697 + (wrap64 (1 + (Go.bits .and .i64 a1 1023)))))] from rfl) (Reps.one (show Kd.M (Kd.int .i64) _ _ _ (wrap64 (167903232 - (wrap64 (1 + (Go.bits .and .i64 a1 1023))))) [.int .i64 (wrap64 (167903232 - (wrap64 (1 + (Go.bits .and .i64 a1 1023)))))] from rfl) (Reps.one (show Kd.M (Kd.int .i64) _ _ _ (wrap64 (167903234 + (wrap64 (1 + (Go.bits .and .i64 a1 1023))))) [.int .i64 (wrap64 (167903234 + (wrap64 (1 + (Go.bits .and .i64 a1 1023)))))] from rfl) (Reps.one (show Kd.M (Kd.int .i64) _ _ _ (wrap64 (167968768 - (wrap64 (1 + (Go.bits .and .i64 a1 1023))))) [.int .i64 (wrap64 (167968768 - (wrap64 (1 + (Go.bits .and .i64 a1 1023)))))] from rfl) (Reps.one (show Kd.M (Kd.int .i64) _ _ _ 167968772 [.int .i64 167968772] from rfl) (Reps.one (show Kd.M (Kd.int .i64) _ _ _ (wrap64 (167969536 + (Go.bits .and .i64 a1 255))) [.int .i64 (wrap64 (167969536 + (Go.bits .and .i64 a1 255)))] from rfl) (Reps.one (show Kd.M (Kd.int .i64) _ _ _ (wrap64 (-(wrap64 (1 + (Go.bits .and .i64 a1 1023))))) [.int .i64 (wrap64 (-(wrap64 (1 + (Go.bits .and .i64 a1 1023)))))] from rfl) (Reps.none _ _)))))))))))); intro v124 w17 ho18 hb hg_ hnew_; clear hg_ hnew_; (first | rw [← Ny123.out] at ho18 | (simp only [Int.reduceToNat] at ho18; rw [← Ny123.out] at ho18)); have n0_ := Aside0.mk (Kd.R_lower ho18 (below_size (by repeat (first | (with_reducible first | exact HB.out | apply below_alloc | apply pw_below_drewN | apply below_drew1) | exact HB.out)))); have n1_ := Aside0.mk (below_step (by repeat (first | (with_reducible first | exact HB.out | apply below_alloc | apply pw_below_drewN | apply below_drew1) | exact HB.out)) hb); clear HB; have HO125 := n0_; have HB := n1_; clear n0_ n1_; clear hb ho18; obtain ⟨Ao19, co19, eo19⟩ := Kd.R_slice HO125.out; subst eo19; have p126 : 0 ≤ ((ji5) : Int) := of_decide_eq_true (by first | (with_reducible assumption) | assumption); have q126 : (ji5) < (y123.length : Int) := of_decide_eq_true (by first | (with_reducible assumption) | assumption); obtain ⟨ad126, e126, hx126_0⟩ := Kd.at_int (Kd.R_reads' HO125.out).2.2 (ji5) p126 q126; cases e126; replace p126 := eq_true p126; replace q126 := eq_true q126) | ((with_reducible refine gate_callee (f := 35) rfl ?_); refine goesL_ (some 40) rfl rfl Try.func35 (by kernel_rfl) rfl #[.int .i64 (rd y123 (ji5))] rfl (by (try simp only [List.map_toArray, List.map_cons, List.map_nil]); first | done | (simp only [hji5]; rfl) | rfl | (simp only [List.length_drop, List.length_take]; rfl)) ?_; (with_reducible refine (addr_Whose.calls (rd y123 (ji5)) t127 t128 t129 t130 _ A8.out).mono ?_); rintro e w' ⟨rfl, ⟨nd, rfl⟩⟩; refine ⟨_, rfl, ?_⟩) | ((with_reducible refine gate_callee (f := 28) rfl ?_); refine goesL_ (some 45) rfl rfl Try.func28 (by kernel_rfl) rfl #[.int .i64 0] rfl (by (try simp only [List.map_toArray, List.map_cons, List.map_nil]); first | done | rfl | (simp only [List.length_drop, List.length_take]; rfl)) ?_; (with_reducible refine (wharfagelaw0_Num.calls 0 t131 _ A9.out).mono ?_); rintro e w' ⟨rfl, ⟨nd, rfl⟩⟩; refine ⟨_, rfl, ?_⟩))
                go_ret
                exact ⟨by first | rfl | (simp [errW_none, errW_some] <;> rfl) | (simp only [← hji5]; first | rfl | (simp [errW_none, errW_some] <;> rfl)) | (simp [*, errW_none, errW_some] <;> rfl), by repeat (first | (with_reducible first | exact HB.out | apply below_alloc | apply pw_below_drewN | apply below_drew1) | exact HB.out)⟩
            · rw [if_neg c12] at H
              have c12b0 : (t128 == 0) = false := beq_eq_false_iff_ne.mpr c12
              have c12b1 : (t128 != 0) = true := bne_iff_ne.mpr c12
              obtain rfl := Option.some.inj H
              go_enter Try.func11, Try.ntmps11
              go_wp2_with (first | ((with_reducible refine gate_callee (f := 37) rfl ?_); refine goesL_ (some 11) rfl rfl Try.func37 (by kernel_rfl) rfl #[] rfl (by (try simp only [List.map_toArray, List.map_cons, List.map_nil]); first | done | rfl | (simp only [List.length_drop, List.length_take]; rfl)) ?_; (with_reducible refine (wharfagelaw5_awake.calls k  true _ A3.out).mono ?_); rintro e w' ⟨rfl, ⟨nd, rfl⟩⟩; refine ⟨_, rfl, ?_⟩) | ((with_reducible refine gate_dst (N := 31) rfl ?_); refine Kd.R_lit (Kd.int .i64) _ 3 ?hg (N := 31) ?hd (xs := ([0, 167772161, wrap64 (167837696 - (wrap64 (1 + (Go.bits .and .i64 a1 1023)))), wrap64 (167837697 + (wrap64 (1 + (Go.bits .and .i64 a1 1023)))), wrap64 (167903232 - (wrap64 (1 + (Go.bits .and .i64 a1 1023)))), wrap64 (167903234 + (wrap64 (1 + (Go.bits .and .i64 a1 1023)))), wrap64 (167968768 - (wrap64 (1 + (Go.bits .and .i64 a1 1023)))), 167968772, wrap64 (167969536 + (Go.bits .and .i64 a1 255)), wrap64 (-(wrap64 (1 + (Go.bits .and .i64 a1 1023))))] : List Int)) (inner := [.int .i64 0, .int .i64 167772161, .int .i64 (wrap64 (167837696 - (wrap64 (1 + (Go.bits .and .i64 a1 1023))))), .int .i64 (wrap64 (167837697 + (wrap64 (1 + (Go.bits .and .i64 a1 1023))))), .int .i64 (wrap64 (167903232 - (wrap64 (1 + (Go.bits .and .i64 a1 1023))))), .int .i64 (wrap64 (167903234 + (wrap64 (1 + (Go.bits .and .i64 a1 1023))))), .int .i64 (wrap64 (167968768 - (wrap64 (1 + (Go.bits .and .i64 a1 1023))))), .int .i64 167968772, .int .i64 (wrap64 (167969536 + (Go.bits .and .i64 a1 255))), .int .i64 (wrap64 (-(wrap64 (1 + (Go.bits .and .i64 a1 1023)))))]) (ok := fun _ => True) (okp := fun _ => True) ?hr ?hp (fun _ hk => hk) trivial (Below.refl _ _) (Nat.le_refl _) (by simp) ?_; (case hd => rfl); (case hg => rfl); (case hr => first | (go_simp; done) | (go_simp; rfl)); (case hp => exact (Reps.one (show Kd.M (Kd.int .i64) _ _ _ 0 [.int .i64 0] from rfl) (Reps.one (show Kd.M (Kd.int .i64) _ _ _ 167772161 [.int .i64 167772161] from rfl) (Reps.one (show Kd.M (Kd.int .i64) _ _ _ (wrap64 (167837696 - (wrap64 (1 + (Go.bits .and .i64 a1 1023))))) [.int .i64 (wrap64 (167837696 - (wrap64 (1 + (Go.bits .and .i64 a1 1023)))))] from rfl) (Reps.one (show Kd.M (Kd.int .i64) _ _ _ (wrap64 (167837697 + (wrap64 (1 + (Go.bits .and .i64 a1 1023))))) [.int .i64 (wrap64 (167837697 + (wrap64 (1 + (Go.bits .and .i64 a1 1023)))))] from rfl) (Reps.one (show Kd.M (Kd.int .i64) _ _ _ (wrap64 (167903232 - (wrap64 (1 + (Go.bits .and .i64 a1 1023))))) [.int .i64 (wrap64 (167903232 - (wrap64 (1 + (Go.bits .and .i64 a1 1023)))))] from rfl) (Reps.one (show Kd.M (Kd.int .i64) _ _ _ (wrap64 (167903234 + (wrap64 (1 + (Go.bits .and .i64 a1 1023))))) [.int .i64 (wrap64 (167903234 + (wrap64 (1 + (Go.bits .and .i64 a1 1023)))))] from rfl) (Reps.one (show Kd.M (Kd.int .i64) _ _ _ (wrap64 (167968768 - (wrap64 (1 + (Go.bits .and .i64 a1 1023))))) [.int .i64 (wrap64 (167968768 - (wrap64 (1 + (Go.bits .and .i64 a1 1023)))))] from rfl) (Reps.one (show Kd.M (Kd.int .i64) _ _ _ 167968772 [.int .i64 167968772] from rfl) (Reps.one (show Kd.M (Kd.int .i64) _ _ _ (wrap64 (167969536 + (Go.bits .and .i64 a1 255))) [.int .i64 (wrap64 (167969536 + (Go.bits .and .i64 a1 255)))] from rfl) (Reps.one (show Kd.M (Kd.int .i64) _ _ _ (wrap64 (-(wrap64 (1 + (Go.bits .and .i64 a1 1023))))) [.int .i64 (wrap64 (-(wrap64 (1 + (Go.bits .and .i64 a1 1023)))))] from rfl) (Reps.none _ _)))))))))))); intro v124 w20 ho21 hb hg_ hnew_; clear hg_ hnew_; (first | rw [← Ny123.out] at ho21 | (simp only [Int.reduceToNat] at ho21; rw [← Ny123.out] at ho21)); have n0_ := Aside0.mk (Kd.R_lower ho21 (below_size (by repeat (first | (with_reducible first | exact HB.out | apply below_alloc | apply pw_below_drewN | apply below_drew1) | exact HB.out)))); have n1_ := Aside0.mk (below_step (by repeat (first | (with_reducible first | exact HB.out | apply below_alloc | apply pw_below_drewN | apply below_drew1) | exact HB.out)) hb); clear HB; have HO125 := n0_; have HB := n1_; clear n0_ n1_; clear hb ho21; obtain ⟨Ao22, co22, eo22⟩ := Kd.R_slice HO125.out; subst eo22; have p126 : 0 ≤ ((ji5) : Int) := of_decide_eq_true (by first | (with_reducible assumption) | assumption); have q126 : (ji5) < (y123.length : Int) := of_decide_eq_true (by first | (with_reducible assumption) | assumption); obtain ⟨ad126, e126, hx126_0⟩ := Kd.at_int (Kd.R_reads' HO125.out).2.2 (ji5) p126 q126; cases e126; replace p126 := eq_true p126; replace q126 := eq_true q126) | ((with_reducible refine gate_callee (f := 35) rfl ?_); refine goesL_ (some 40) rfl rfl Try.func35 (by kernel_rfl) rfl #[.int .i64 (rd y123 (ji5))] rfl (by (try simp only [List.map_toArray, List.map_cons, List.map_nil]); first | done | (simp only [hji5]; rfl) | rfl | (simp only [List.length_drop, List.length_take]; rfl)) ?_; (with_reducible refine (addr_Whose.calls (rd y123 (ji5)) t127 t128 t129 t130 _ A8.out).mono ?_); rintro e w' ⟨rfl, ⟨nd, rfl⟩⟩; refine ⟨_, rfl, ?_⟩) | ((with_reducible refine gate_callee (f := 28) rfl ?_); refine goesL_ (some 45) rfl rfl Try.func28 (by kernel_rfl) rfl #[.int .i64 0] rfl (by (try simp only [List.map_toArray, List.map_cons, List.map_nil]); first | done | rfl | (simp only [List.length_drop, List.length_take]; rfl)) ?_; (with_reducible refine (wharfagelaw0_Num.calls 0 t131 _ A9.out).mono ?_); rintro e w' ⟨rfl, ⟨nd, rfl⟩⟩; refine ⟨_, rfl, ?_⟩))
              go_ret
              exact ⟨by first | rfl | (simp [errW_none, errW_some] <;> rfl) | (simp only [← hji5]; first | rfl | (simp [errW_none, errW_some] <;> rfl)) | (simp [*, errW_none, errW_some] <;> rfl), by repeat (first | (with_reducible first | exact HB.out | apply below_alloc | apply pw_below_drewN | apply below_drew1) | exact HB.out)⟩
          · rw [if_neg c11] at H
            have c11b0 : (t127 == 0) = false := beq_eq_false_iff_ne.mpr c11
            have c11b1 : (t127 != 0) = true := bne_iff_ne.mpr c11
            obtain rfl := Option.some.inj H
            go_enter Try.func11, Try.ntmps11
            go_wp2_with (first | ((with_reducible refine gate_callee (f := 37) rfl ?_); refine goesL_ (some 11) rfl rfl Try.func37 (by kernel_rfl) rfl #[] rfl (by (try simp only [List.map_toArray, List.map_cons, List.map_nil]); first | done | rfl | (simp only [List.length_drop, List.length_take]; rfl)) ?_; (with_reducible refine (wharfagelaw5_awake.calls k  true _ A3.out).mono ?_); rintro e w' ⟨rfl, ⟨nd, rfl⟩⟩; refine ⟨_, rfl, ?_⟩) | ((with_reducible refine gate_dst (N := 31) rfl ?_); refine Kd.R_lit (Kd.int .i64) _ 3 ?hg (N := 31) ?hd (xs := ([0, 167772161, wrap64 (167837696 - (wrap64 (1 + (Go.bits .and .i64 a1 1023)))), wrap64 (167837697 + (wrap64 (1 + (Go.bits .and .i64 a1 1023)))), wrap64 (167903232 - (wrap64 (1 + (Go.bits .and .i64 a1 1023)))), wrap64 (167903234 + (wrap64 (1 + (Go.bits .and .i64 a1 1023)))), wrap64 (167968768 - (wrap64 (1 + (Go.bits .and .i64 a1 1023)))), 167968772, wrap64 (167969536 + (Go.bits .and .i64 a1 255)), wrap64 (-(wrap64 (1 + (Go.bits .and .i64 a1 1023))))] : List Int)) (inner := [.int .i64 0, .int .i64 167772161, .int .i64 (wrap64 (167837696 - (wrap64 (1 + (Go.bits .and .i64 a1 1023))))), .int .i64 (wrap64 (167837697 + (wrap64 (1 + (Go.bits .and .i64 a1 1023))))), .int .i64 (wrap64 (167903232 - (wrap64 (1 + (Go.bits .and .i64 a1 1023))))), .int .i64 (wrap64 (167903234 + (wrap64 (1 + (Go.bits .and .i64 a1 1023))))), .int .i64 (wrap64 (167968768 - (wrap64 (1 + (Go.bits .and .i64 a1 1023))))), .int .i64 167968772, .int .i64 (wrap64 (167969536 + (Go.bits .and .i64 a1 255))), .int .i64 (wrap64 (-(wrap64 (1 + (Go.bits .and .i64 a1 1023)))))]) (ok := fun _ => True) (okp := fun _ => True) ?hr ?hp (fun _ hk => hk) trivial (Below.refl _ _) (Nat.le_refl _) (by simp) ?_; (case hd => rfl); (case hg => rfl); (case hr => first | (go_simp; done) | (go_simp; rfl)); (case hp => exact (Reps.one (show Kd.M (Kd.int .i64) _ _ _ 0 [.int .i64 0] from rfl) (Reps.one (show Kd.M (Kd.int .i64) _ _ _ 167772161 [.int .i64 167772161] from rfl) (Reps.one (show Kd.M (Kd.int .i64) _ _ _ (wrap64 (167837696 - (wrap64 (1 + (Go.bits .and .i64 a1 1023))))) [.int .i64 (wrap64 (167837696 - (wrap64 (1 + (Go.bits .and .i64 a1 1023)))))] from rfl) (Reps.one (show Kd.M (Kd.int .i64) _ _ _ (wrap64 (167837697 + (wrap64 (1 + (Go.bits .and .i64 a1 1023))))) [.int .i64 (wrap64 (167837697 + (wrap64 (1 + (Go.bits .and .i64 a1 1023)))))] from rfl) (Reps.one (show Kd.M (Kd.int .i64) _ _ _ (wrap64 (167903232 - (wrap64 (1 + (Go.bits .and .i64 a1 1023))))) [.int .i64 (wrap64 (167903232 - (wrap64 (1 + (Go.bits .and .i64 a1 1023)))))] from rfl) (Reps.one (show Kd.M (Kd.int .i64) _ _ _ (wrap64 (167903234 + (wrap64 (1 + (Go.bits .and .i64 a1 1023))))) [.int .i64 (wrap64 (167903234 + (wrap64 (1 + (Go.bits .and .i64 a1 1023)))))] from rfl) (Reps.one (show Kd.M (Kd.int .i64) _ _ _ (wrap64 (167968768 - (wrap64 (1 + (Go.bits .and .i64 a1 1023))))) [.int .i64 (wrap64 (167968768 - (wrap64 (1 + (Go.bits .and .i64 a1 1023)))))] from rfl) (Reps.one (show Kd.M (Kd.int .i64) _ _ _ 167968772 [.int .i64 167968772] from rfl) (Reps.one (show Kd.M (Kd.int .i64) _ _ _ (wrap64 (167969536 + (Go.bits .and .i64 a1 255))) [.int .i64 (wrap64 (167969536 + (Go.bits .and .i64 a1 255)))] from rfl) (Reps.one (show Kd.M (Kd.int .i64) _ _ _ (wrap64 (-(wrap64 (1 + (Go.bits .and .i64 a1 1023))))) [.int .i64 (wrap64 (-(wrap64 (1 + (Go.bits .and .i64 a1 1023)))))] from rfl) (Reps.none _ _)))))))))))); intro v124 w23 ho24 hb hg_ hnew_; clear hg_ hnew_; (first | rw [← Ny123.out] at ho24 | (simp only [Int.reduceToNat] at ho24; rw [← Ny123.out] at ho24)); have n0_ := Aside0.mk (Kd.R_lower ho24 (below_size (by repeat (first | (with_reducible first | exact HB.out | apply below_alloc | apply pw_below_drewN | apply below_drew1) | exact HB.out)))); have n1_ := Aside0.mk (below_step (by repeat (first | (with_reducible first | exact HB.out | apply below_alloc | apply pw_below_drewN | apply below_drew1) | exact HB.out)) hb); clear HB; have HO125 := n0_; have HB := n1_; clear n0_ n1_; clear hb ho24; obtain ⟨Ao25, co25, eo25⟩ := Kd.R_slice HO125.out; subst eo25; have p126 : 0 ≤ ((ji5) : Int) := of_decide_eq_true (by first | (with_reducible assumption) | assumption); have q126 : (ji5) < (y123.length : Int) := of_decide_eq_true (by first | (with_reducible assumption) | assumption); obtain ⟨ad126, e126, hx126_0⟩ := Kd.at_int (Kd.R_reads' HO125.out).2.2 (ji5) p126 q126; cases e126; replace p126 := eq_true p126; replace q126 := eq_true q126) | ((with_reducible refine gate_callee (f := 35) rfl ?_); refine goesL_ (some 40) rfl rfl Try.func35 (by kernel_rfl) rfl #[.int .i64 (rd y123 (ji5))] rfl (by (try simp only [List.map_toArray, List.map_cons, List.map_nil]); first | done | (simp only [hji5]; rfl) | rfl | (simp only [List.length_drop, List.length_take]; rfl)) ?_; (with_reducible refine (addr_Whose.calls (rd y123 (ji5)) t127 t128 t129 t130 _ A8.out).mono ?_); rintro e w' ⟨rfl, ⟨nd, rfl⟩⟩; refine ⟨_, rfl, ?_⟩) | ((with_reducible refine gate_callee (f := 28) rfl ?_); refine goesL_ (some 45) rfl rfl Try.func28 (by kernel_rfl) rfl #[.int .i64 0] rfl (by (try simp only [List.map_toArray, List.map_cons, List.map_nil]); first | done | rfl | (simp only [List.length_drop, List.length_take]; rfl)) ?_; (with_reducible refine (wharfagelaw0_Num.calls 0 t131 _ A9.out).mono ?_); rintro e w' ⟨rfl, ⟨nd, rfl⟩⟩; refine ⟨_, rfl, ?_⟩))
            go_ret
            exact ⟨by first | rfl | (simp [errW_none, errW_some] <;> rfl) | (simp only [← hji5]; first | rfl | (simp [errW_none, errW_some] <;> rfl)) | (simp [*, errW_none, errW_some] <;> rfl), by repeat (first | (with_reducible first | exact HB.out | apply below_alloc | apply pw_below_drewN | apply below_drew1) | exact HB.out)⟩
        · rw [if_neg c10] at H
          have c10b0 : (t131 == 0) = false := beq_eq_false_iff_ne.mpr c10
          have c10b1 : (t131 != 0) = true := bne_iff_ne.mpr c10
          obtain rfl := Option.some.inj H
          go_enter Try.func11, Try.ntmps11
          go_wp2_with (first | ((with_reducible refine gate_callee (f := 37) rfl ?_); refine goesL_ (some 11) rfl rfl Try.func37 (by kernel_rfl) rfl #[] rfl (by (try simp only [List.map_toArray, List.map_cons, List.map_nil]); first | done | rfl | (simp only [List.length_drop, List.length_take]; rfl)) ?_; (with_reducible refine (wharfagelaw5_awake.calls k  true _ A3.out).mono ?_); rintro e w' ⟨rfl, ⟨nd, rfl⟩⟩; refine ⟨_, rfl, ?_⟩) | ((with_reducible refine gate_dst (N := 31) rfl ?_); refine Kd.R_lit (Kd.int .i64) _ 3 ?hg (N := 31) ?hd (xs := ([0, 167772161, wrap64 (167837696 - (wrap64 (1 + (Go.bits .and .i64 a1 1023)))), wrap64 (167837697 + (wrap64 (1 + (Go.bits .and .i64 a1 1023)))), wrap64 (167903232 - (wrap64 (1 + (Go.bits .and .i64 a1 1023)))), wrap64 (167903234 + (wrap64 (1 + (Go.bits .and .i64 a1 1023)))), wrap64 (167968768 - (wrap64 (1 + (Go.bits .and .i64 a1 1023)))), 167968772, wrap64 (167969536 + (Go.bits .and .i64 a1 255)), wrap64 (-(wrap64 (1 + (Go.bits .and .i64 a1 1023))))] : List Int)) (inner := [.int .i64 0, .int .i64 167772161, .int .i64 (wrap64 (167837696 - (wrap64 (1 + (Go.bits .and .i64 a1 1023))))), .int .i64 (wrap64 (167837697 + (wrap64 (1 + (Go.bits .and .i64 a1 1023))))), .int .i64 (wrap64 (167903232 - (wrap64 (1 + (Go.bits .and .i64 a1 1023))))), .int .i64 (wrap64 (167903234 + (wrap64 (1 + (Go.bits .and .i64 a1 1023))))), .int .i64 (wrap64 (167968768 - (wrap64 (1 + (Go.bits .and .i64 a1 1023))))), .int .i64 167968772, .int .i64 (wrap64 (167969536 + (Go.bits .and .i64 a1 255))), .int .i64 (wrap64 (-(wrap64 (1 + (Go.bits .and .i64 a1 1023)))))]) (ok := fun _ => True) (okp := fun _ => True) ?hr ?hp (fun _ hk => hk) trivial (Below.refl _ _) (Nat.le_refl _) (by simp) ?_; (case hd => rfl); (case hg => rfl); (case hr => first | (go_simp; done) | (go_simp; rfl)); (case hp => exact (Reps.one (show Kd.M (Kd.int .i64) _ _ _ 0 [.int .i64 0] from rfl) (Reps.one (show Kd.M (Kd.int .i64) _ _ _ 167772161 [.int .i64 167772161] from rfl) (Reps.one (show Kd.M (Kd.int .i64) _ _ _ (wrap64 (167837696 - (wrap64 (1 + (Go.bits .and .i64 a1 1023))))) [.int .i64 (wrap64 (167837696 - (wrap64 (1 + (Go.bits .and .i64 a1 1023)))))] from rfl) (Reps.one (show Kd.M (Kd.int .i64) _ _ _ (wrap64 (167837697 + (wrap64 (1 + (Go.bits .and .i64 a1 1023))))) [.int .i64 (wrap64 (167837697 + (wrap64 (1 + (Go.bits .and .i64 a1 1023)))))] from rfl) (Reps.one (show Kd.M (Kd.int .i64) _ _ _ (wrap64 (167903232 - (wrap64 (1 + (Go.bits .and .i64 a1 1023))))) [.int .i64 (wrap64 (167903232 - (wrap64 (1 + (Go.bits .and .i64 a1 1023)))))] from rfl) (Reps.one (show Kd.M (Kd.int .i64) _ _ _ (wrap64 (167903234 + (wrap64 (1 + (Go.bits .and .i64 a1 1023))))) [.int .i64 (wrap64 (167903234 + (wrap64 (1 + (Go.bits .and .i64 a1 1023)))))] from rfl) (Reps.one (show Kd.M (Kd.int .i64) _ _ _ (wrap64 (167968768 - (wrap64 (1 + (Go.bits .and .i64 a1 1023))))) [.int .i64 (wrap64 (167968768 - (wrap64 (1 + (Go.bits .and .i64 a1 1023)))))] from rfl) (Reps.one (show Kd.M (Kd.int .i64) _ _ _ 167968772 [.int .i64 167968772] from rfl) (Reps.one (show Kd.M (Kd.int .i64) _ _ _ (wrap64 (167969536 + (Go.bits .and .i64 a1 255))) [.int .i64 (wrap64 (167969536 + (Go.bits .and .i64 a1 255)))] from rfl) (Reps.one (show Kd.M (Kd.int .i64) _ _ _ (wrap64 (-(wrap64 (1 + (Go.bits .and .i64 a1 1023))))) [.int .i64 (wrap64 (-(wrap64 (1 + (Go.bits .and .i64 a1 1023)))))] from rfl) (Reps.none _ _)))))))))))); intro v124 w26 ho27 hb hg_ hnew_; clear hg_ hnew_; (first | rw [← Ny123.out] at ho27 | (simp only [Int.reduceToNat] at ho27; rw [← Ny123.out] at ho27)); have n0_ := Aside0.mk (Kd.R_lower ho27 (below_size (by repeat (first | (with_reducible first | exact HB.out | apply below_alloc | apply pw_below_drewN | apply below_drew1) | exact HB.out)))); have n1_ := Aside0.mk (below_step (by repeat (first | (with_reducible first | exact HB.out | apply below_alloc | apply pw_below_drewN | apply below_drew1) | exact HB.out)) hb); clear HB; have HO125 := n0_; have HB := n1_; clear n0_ n1_; clear hb ho27; obtain ⟨Ao28, co28, eo28⟩ := Kd.R_slice HO125.out; subst eo28; have p126 : 0 ≤ ((ji5) : Int) := of_decide_eq_true (by first | (with_reducible assumption) | assumption); have q126 : (ji5) < (y123.length : Int) := of_decide_eq_true (by first | (with_reducible assumption) | assumption); obtain ⟨ad126, e126, hx126_0⟩ := Kd.at_int (Kd.R_reads' HO125.out).2.2 (ji5) p126 q126; cases e126; replace p126 := eq_true p126; replace q126 := eq_true q126) | ((with_reducible refine gate_callee (f := 35) rfl ?_); refine goesL_ (some 40) rfl rfl Try.func35 (by kernel_rfl) rfl #[.int .i64 (rd y123 (ji5))] rfl (by (try simp only [List.map_toArray, List.map_cons, List.map_nil]); first | done | (simp only [hji5]; rfl) | rfl | (simp only [List.length_drop, List.length_take]; rfl)) ?_; (with_reducible refine (addr_Whose.calls (rd y123 (ji5)) t127 t128 t129 t130 _ A8.out).mono ?_); rintro e w' ⟨rfl, ⟨nd, rfl⟩⟩; refine ⟨_, rfl, ?_⟩) | ((with_reducible refine gate_callee (f := 28) rfl ?_); refine goesL_ (some 45) rfl rfl Try.func28 (by kernel_rfl) rfl #[.int .i64 0] rfl (by (try simp only [List.map_toArray, List.map_cons, List.map_nil]); first | done | rfl | (simp only [List.length_drop, List.length_take]; rfl)) ?_; (with_reducible refine (wharfagelaw0_Num.calls 0 t131 _ A9.out).mono ?_); rintro e w' ⟨rfl, ⟨nd, rfl⟩⟩; refine ⟨_, rfl, ?_⟩))
          go_ret
          exact ⟨by first | rfl | (simp [errW_none, errW_some] <;> rfl) | (simp only [← hji5]; first | rfl | (simp [errW_none, errW_some] <;> rfl)) | (simp [*, errW_none, errW_some] <;> rfl), by repeat (first | (with_reducible first | exact HB.out | apply below_alloc | apply pw_below_drewN | apply below_drew1) | exact HB.out)⟩
      · rw [if_neg c7] at H
        exact absurd H (by simp)
    · rw [if_neg c6] at H
      exact absurd H (by simp)
  · replace c4 := Bool.eq_false_iff.mpr c4
    subst c4
    have H1 : (some false) = some r := by rw [if_neg (show ¬ (false = true) by decide)] at H; exact H
    clear H
    have H := H1
    clear H1
    obtain rfl := Option.some.inj H
    go_enter Try.func11, Try.ntmps11
    go_wp2_with (first | ((with_reducible refine gate_callee (f := 37) rfl ?_); refine goesL_ (some 11) rfl rfl Try.func37 (by kernel_rfl) rfl #[] rfl (by (try simp only [List.map_toArray, List.map_cons, List.map_nil]); first | done | rfl | (simp only [List.length_drop, List.length_take]; rfl)) ?_; (with_reducible refine (wharfagelaw5_awake.calls k  false _ A3.out).mono ?_); rintro e w' ⟨rfl, ⟨nd, rfl⟩⟩; refine ⟨_, rfl, ?_⟩))
    go_ret
    exact ⟨by first | rfl | (simp [errW_none, errW_some] <;> rfl) | (simp [*, errW_none, errW_some] <;> rfl), by repeat (first | (with_reducible first | exact HB.out | apply below_alloc | apply pw_below_drewN | apply below_drew1) | exact HB.out)⟩

/-- THE ONE PURE STATEMENT of wharfagelaw5_AddrNone: yours. -/
def wharfagelaw5_AddrNone.Pure : Prop := ∀ (a0 : Int) (a1 : Int), (Lit.int .i64 a0).wf = true → (Lit.int .i64 a1).wf = true → ∃ k, wharfagelaw5_AddrNone.f k a0 a1 = some true
theorem wharfagelaw5_AddrNone.walk (P : wharfagelaw5_AddrNone.Pure) (a0 : Int) (a1 : Int) (w : World) (w0 : (Lit.int .i64 a0).wf = true) (w1 : (Lit.int .i64 a1).wf = true) :
    Calls Try.prog 11 #[.int .i64 a0, .int .i64 a1] w fun e w' => e = .returned (.bool true) ∧ Below w.heap.size w w' := by
  obtain ⟨k, h⟩ := P a0 a1 w0 w1
  refine (wharfagelaw5_AddrNone.calls k a0 a1 true w h).mono ?_
  rintro e w' ⟨rfl, hd⟩
  exact ⟨rfl, hd⟩

end Go.Proofs.Ytdpkfpbdadloaaa.PAddrNone
