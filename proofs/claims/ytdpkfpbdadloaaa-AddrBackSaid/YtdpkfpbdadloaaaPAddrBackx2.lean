-- PRINTED BY print.sh 35421559b90ae4d0a3588c463048766b98c2df88dd9212a6774a882060cdf62d: not written by this session
import Derived.Test.YtdpkfpbdadloaaaPAddrBackx0
import Derived.Test.YtdpkfpbdadloaaaPAddrBackx1
namespace Go.Proofs.Ytdpkfpbdadloaaa.PAddrBack
open Go.RowKit Go.Proofs.YtdpkfpbdadloaaaW.PrintWords Go.Proofs.YtdpkfpbdadloaaaW.PrintLast Go.Proofs.YtdpkfpbdadloaaaW.PrintMore
attribute [local go_sem] max2_int min2_int max_two min_two max_three min_three max_four min_four   -- for this text's walks alone
set_option linter.unusedVariables false
set_option linter.unusedSimpArgs false

/-! ### wharfagelaw5_AddrBack: function 10 -/
mutual
def wharfagelaw5_AddrBack.l0 : Nat → Int → Int → Int → Int → Int → Int → Int → Bool → Int → Int → Option (Bool)
  | 0, _, _, _, _, _, _, _, _, _, _ => none
  | k + 1, x0, x1, x2, x7, x9, x10, x11, x12, x13, x14 => if x14 < 3 then (wharfagelaw5_AddrBack.l1 k x0 x1 x2 x7 x9 x10 x11 x12 x13 x14 0) else (if x12 = true then (if x9 = x0 then (if x10 = x1 then (if x11 = x2 then (some (x13 == 1)) else (some false)) else (some false)) else (some false)) else (some false))
def wharfagelaw5_AddrBack.l1 : Nat → Int → Int → Int → Int → Int → Int → Int → Bool → Int → Int → Int → Option (Bool)
  | 0, _, _, _, _, _, _, _, _, _, _, _ => none
  | k + 1, x0, x1, x2, x7, x9, x10, x11, x12, x13, x14, x15 => if x15 < 4 then (wharfagelaw5_AddrBack.l2 k x0 x1 x2 x7 x9 x10 x11 x12 x13 x14 x15 0) else (wharfagelaw5_AddrBack.l0 k x0 x1 x2 x7 x9 x10 x11 x12 x13 (wrap64 (x14 + 1)))
def wharfagelaw5_AddrBack.l2 : Nat → Int → Int → Int → Int → Int → Int → Int → Bool → Int → Int → Int → Int → Option (Bool)
  | 0, _, _, _, _, _, _, _, _, _, _, _, _ => none
  | k + 1, x0, x1, x2, x7, x9, x10, x11, x12, x13, x14, x15, x16 => if x16 < 5 then ((addr_Address.f k x14 x15 x16).bind fun bt130 => ((wharfagelaw0_Num.f bt130.2).bind fun t132 => (if t132 = 0 then (if bt130.1 = x7 then (wharfagelaw5_AddrBack.l2 k x0 x1 x2 x7 x9 x10 x11 x12 (wrap64 (x13 + 1)) x14 x15 (wrap64 (x16 + 1))) else (wharfagelaw5_AddrBack.l2 k x0 x1 x2 x7 x9 x10 x11 x12 x13 x14 x15 (wrap64 (x16 + 1)))) else (wharfagelaw5_AddrBack.l2 k x0 x1 x2 x7 x9 x10 x11 x12 x13 x14 x15 (wrap64 (x16 + 1)))))) else (wharfagelaw5_AddrBack.l1 k x0 x1 x2 x7 x9 x10 x11 x12 x13 x14 (wrap64 (x15 + 1)))
end
def wharfagelaw5_AddrBack.f (k : Nat) (a0 : Int) (a1 : Int) (a2 : Int) : Option (Bool) := (wharfagelaw5_awake.f k).bind fun t122 => (if t122 = true then ((addr_Address.f k a0 a1 a2).bind fun bt123 => ((wharfagelaw0_Num.f bt123.2).bind fun t125 => (if t125 = 0 then ((addr_Whose.f bt123.1).bind fun bt126 => (wharfagelaw5_AddrBack.l0 k a0 a1 a2 bt123.1 bt126.1 bt126.2.1 bt126.2.2.1 bt126.2.2.2 0 0)) else (some (bt123.1 == 0))))) else (some false))
theorem wharfagelaw5_AddrBack.mono_l : ∀ k, (∀ y0 y1 y2 y3 y4 y5 y6 y7 y8 y9, LeO (wharfagelaw5_AddrBack.l0 k y0 y1 y2 y3 y4 y5 y6 y7 y8 y9) (wharfagelaw5_AddrBack.l0 (k + 1) y0 y1 y2 y3 y4 y5 y6 y7 y8 y9)) ∧ (∀ y0 y1 y2 y3 y4 y5 y6 y7 y8 y9 y10, LeO (wharfagelaw5_AddrBack.l1 k y0 y1 y2 y3 y4 y5 y6 y7 y8 y9 y10) (wharfagelaw5_AddrBack.l1 (k + 1) y0 y1 y2 y3 y4 y5 y6 y7 y8 y9 y10)) ∧ (∀ y0 y1 y2 y3 y4 y5 y6 y7 y8 y9 y10 y11, LeO (wharfagelaw5_AddrBack.l2 k y0 y1 y2 y3 y4 y5 y6 y7 y8 y9 y10 y11) (wharfagelaw5_AddrBack.l2 (k + 1) y0 y1 y2 y3 y4 y5 y6 y7 y8 y9 y10 y11))
  | 0 => ⟨fun _ _ _ _ _ _ _ _ _ _ r h => by simp [wharfagelaw5_AddrBack.l0] at h, fun _ _ _ _ _ _ _ _ _ _ _ r h => by simp [wharfagelaw5_AddrBack.l1] at h, fun _ _ _ _ _ _ _ _ _ _ _ _ r h => by simp [wharfagelaw5_AddrBack.l2] at h⟩
  | k + 1 => by
    obtain ⟨ih0, ih1, ih2⟩ := wharfagelaw5_AddrBack.mono_l k
    refine ⟨?_, ?_, ?_⟩
    · intro y0 y1 y2 y3 y4 y5 y6 y7 y8 y9
      unfold wharfagelaw5_AddrBack.l0
      repeat' first
      | (with_reducible exact ih0 _ _ _ _ _ _ _ _ _ _)
      | (with_reducible exact ih1 _ _ _ _ _ _ _ _ _ _ _)
      | (with_reducible exact ih2 _ _ _ _ _ _ _ _ _ _ _ _)
      | (with_reducible exact addr_Address.mono _ _ _ _)
      | (with_reducible exact wharfagelaw5_awake.mono _)
      | (with_reducible exact LeO.refl _)
      | (with_reducible exact LeO.none _)
      | (with_reducible refine LeO.ite ?_ ?_)
      | (with_reducible refine LeO.bind ?_ (fun _ => ?_))
      | exact ih0 _ _ _ _ _ _ _ _ _ _
      | exact ih1 _ _ _ _ _ _ _ _ _ _ _
      | exact ih2 _ _ _ _ _ _ _ _ _ _ _ _
      | exact addr_Address.mono _ _ _ _
      | exact wharfagelaw5_awake.mono _
      | exact LeO.none _
      | refine LeO.ite ?_ ?_
      | refine LeO.bind ?_ (fun _ => ?_)
    · intro y0 y1 y2 y3 y4 y5 y6 y7 y8 y9 y10
      unfold wharfagelaw5_AddrBack.l1
      repeat' first
      | (with_reducible exact ih0 _ _ _ _ _ _ _ _ _ _)
      | (with_reducible exact ih1 _ _ _ _ _ _ _ _ _ _ _)
      | (with_reducible exact ih2 _ _ _ _ _ _ _ _ _ _ _ _)
      | (with_reducible exact addr_Address.mono _ _ _ _)
      | (with_reducible exact wharfagelaw5_awake.mono _)
      | (with_reducible exact LeO.refl _)
      | (with_reducible exact LeO.none _)
      | (with_reducible refine LeO.ite ?_ ?_)
      | (with_reducible refine LeO.bind ?_ (fun _ => ?_))
      | exact ih0 _ _ _ _ _ _ _ _ _ _
      | exact ih1 _ _ _ _ _ _ _ _ _ _ _
      | exact ih2 _ _ _ _ _ _ _ _ _ _ _ _
      | exact addr_Address.mono _ _ _ _
      | exact wharfagelaw5_awake.mono _
      | exact LeO.none _
      | refine LeO.ite ?_ ?_
      | refine LeO.bind ?_ (fun _ => ?_)
    · intro y0 y1 y2 y3 y4 y5 y6 y7 y8 y9 y10 y11
      unfold wharfagelaw5_AddrBack.l2
      repeat' first
      | (with_reducible exact ih0 _ _ _ _ _ _ _ _ _ _)
      | (with_reducible exact ih1 _ _ _ _ _ _ _ _ _ _ _)
      | (with_reducible exact ih2 _ _ _ _ _ _ _ _ _ _ _ _)
      | (with_reducible exact addr_Address.mono _ _ _ _)
      | (with_reducible exact wharfagelaw5_awake.mono _)
      | (with_reducible exact LeO.refl _)
      | (with_reducible exact LeO.none _)
      | (with_reducible refine LeO.ite ?_ ?_)
      | (with_reducible refine LeO.bind ?_ (fun _ => ?_))
      | exact ih0 _ _ _ _ _ _ _ _ _ _
      | exact ih1 _ _ _ _ _ _ _ _ _ _ _
      | exact ih2 _ _ _ _ _ _ _ _ _ _ _ _
      | exact addr_Address.mono _ _ _ _
      | exact wharfagelaw5_awake.mono _
      | exact LeO.none _
      | refine LeO.ite ?_ ?_
      | refine LeO.bind ?_ (fun _ => ?_)
theorem wharfagelaw5_AddrBack.mono : ∀ a0 a1 a2 k, LeO (wharfagelaw5_AddrBack.f k a0 a1 a2) (wharfagelaw5_AddrBack.f (k + 1) a0 a1 a2) := by
  intro a0 a1 a2 k
  obtain ⟨ih0, ih1, ih2⟩ := wharfagelaw5_AddrBack.mono_l k
  unfold wharfagelaw5_AddrBack.f
  repeat' first
      | (with_reducible exact ih0 _ _ _ _ _ _ _ _ _ _)
      | (with_reducible exact ih1 _ _ _ _ _ _ _ _ _ _ _)
      | (with_reducible exact ih2 _ _ _ _ _ _ _ _ _ _ _ _)
      | (with_reducible exact addr_Address.mono _ _ _ _)
      | (with_reducible exact wharfagelaw5_awake.mono _)
      | (with_reducible exact LeO.refl _)
      | (with_reducible exact LeO.none _)
      | (with_reducible refine LeO.ite ?_ ?_)
      | (with_reducible refine LeO.bind ?_ (fun _ => ?_))
      | exact ih0 _ _ _ _ _ _ _ _ _ _
      | exact ih1 _ _ _ _ _ _ _ _ _ _ _
      | exact ih2 _ _ _ _ _ _ _ _ _ _ _ _
      | exact addr_Address.mono _ _ _ _
      | exact wharfagelaw5_awake.mono _
      | exact LeO.none _
      | refine LeO.ite ?_ ?_
      | refine LeO.bind ?_ (fun _ => ?_)
set_option maxHeartbeats 8000000 in
set_option maxRecDepth 100000 in
theorem wharfagelaw5_AddrBack.calls (k : Nat) (a0 : Int) (a1 : Int) (a2 : Int) (r : Bool) (w : World) (h : wharfagelaw5_AddrBack.f k a0 a1 a2 = some r) :
    Calls Try.prog 10 #[.int .i64 a0, .int .i64 a1, .int .i64 a2] w fun e w' => e = .returned (.bool r) ∧ Drawn0 w w' := by
  have H : ((wharfagelaw5_awake.f k).bind fun t122 => (if t122 = true then ((addr_Address.f k a0 a1 a2).bind fun bt123 => ((wharfagelaw0_Num.f bt123.2).bind fun t125 => (if t125 = 0 then ((addr_Whose.f bt123.1).bind fun bt126 => (wharfagelaw5_AddrBack.l0 k a0 a1 a2 bt123.1 bt126.1 bt126.2.1 bt126.2.2.1 bt126.2.2.2 0 0)) else (some (bt123.1 == 0))))) else (some false))) = some r := h
  clear h
  replace H := Option.bind_eq_some_iff.mp H
  obtain ⟨t122, A40, H⟩ := H
  replace H : (if t122 = true then ((addr_Address.f k a0 a1 a2).bind fun bt123 => ((wharfagelaw0_Num.f bt123.2).bind fun t125 => (if t125 = 0 then ((addr_Whose.f bt123.1).bind fun bt126 => (wharfagelaw5_AddrBack.l0 k a0 a1 a2 bt123.1 bt126.1 bt126.2.1 bt126.2.2.1 bt126.2.2.2 0 0)) else (some (bt123.1 == 0))))) else (some false)) = some r := H
  have A4 := Aside0.mk A40
  clear A40
  by_cases c5 : t122 = true
  · subst c5
    have H1 : ((addr_Address.f k a0 a1 a2).bind fun bt123 => ((wharfagelaw0_Num.f bt123.2).bind fun t125 => (if t125 = 0 then ((addr_Whose.f bt123.1).bind fun bt126 => (wharfagelaw5_AddrBack.l0 k a0 a1 a2 bt123.1 bt126.1 bt126.2.1 bt126.2.2.1 bt126.2.2.2 0 0)) else (some (bt123.1 == 0))))) = some r := by rw [if_pos rfl] at H; exact H
    clear H
    have H := H1
    clear H1
    replace H := Option.bind_eq_some_iff.mp H
    obtain ⟨⟨t123, t124⟩, A60, H⟩ := H
    replace H : ((wharfagelaw0_Num.f t124).bind fun t125 => (if t125 = 0 then ((addr_Whose.f t123).bind fun bt126 => (wharfagelaw5_AddrBack.l0 k a0 a1 a2 t123 bt126.1 bt126.2.1 bt126.2.2.1 bt126.2.2.2 0 0)) else (some (t123 == 0)))) = some r := H
    have A6 := Aside0.mk A60
    clear A60
    replace H := Option.bind_eq_some_iff.mp H
    obtain ⟨t125, A70, H⟩ := H
    replace H : (if t125 = 0 then ((addr_Whose.f t123).bind fun bt126 => (wharfagelaw5_AddrBack.l0 k a0 a1 a2 t123 bt126.1 bt126.2.1 bt126.2.2.1 bt126.2.2.2 0 0)) else (some (t123 == 0))) = some r := H
    have A7 := Aside0.mk A70
    clear A70
    by_cases c8 : t125 = 0
    · rw [if_pos c8] at H
      have c8b0 : (t125 == 0) = true := beq_iff_eq.mpr c8
      have c8b1 : (t125 != 0) = false := bne_eq_false_iff_eq.mpr c8
      clear c8
      replace H := Option.bind_eq_some_iff.mp H
      obtain ⟨⟨t126, t127, t128, t129⟩, A90, H⟩ := H
      replace H : (wharfagelaw5_AddrBack.l0 k a0 a1 a2 t123 t126 t127 t128 t129 0 0) = some r := H
      have A9 := Aside0.mk A90
      clear A90
      have H' := Aside0.mk H
      clear H
      go_enter Try.func10, Try.ntmps10
      go_wp2_with (first | ((with_reducible refine gate_callee (f := 37) rfl ?_); refine goesL_ (some 19) rfl rfl Try.func37 (by kernel_rfl) rfl #[] rfl (by (try simp only [List.map_toArray, List.map_cons, List.map_nil]); first | done | rfl | (simp only [List.length_drop, List.length_take]; rfl)) ?_; (with_reducible refine (wharfagelaw5_awake.calls k  true _ A4.out).mono ?_); rintro e w' ⟨rfl, ⟨nd, rfl⟩⟩; refine ⟨_, rfl, ?_⟩) | ((with_reducible refine gate_callee (f := 33) rfl ?_); refine goesL_ (some 25) rfl rfl Try.func33 (by kernel_rfl) rfl #[.int .i64 a0, .int .i64 a1, .int .i64 a2] rfl (by (try simp only [List.map_toArray, List.map_cons, List.map_nil]); first | done | rfl | (simp only [List.length_drop, List.length_take]; rfl)) ?_; (with_reducible refine (addr_Address.calls k a0 a1 a2 t123 t124 _ A6.out).mono ?_); rintro e w' ⟨rfl, ⟨nd, rfl⟩⟩; refine ⟨_, rfl, ?_⟩) | ((with_reducible refine gate_callee (f := 28) rfl ?_); refine goesL_ (some 29) rfl rfl Try.func28 (by kernel_rfl) rfl #[.int .i64 t124] rfl (by (try simp only [List.map_toArray, List.map_cons, List.map_nil]); first | done | rfl | (simp only [List.length_drop, List.length_take]; rfl)) ?_; (with_reducible refine (wharfagelaw0_Num.calls t124 t125 _ A7.out).mono ?_); rintro e w' ⟨rfl, ⟨nd, rfl⟩⟩; refine ⟨_, rfl, ?_⟩) | ((with_reducible refine gate_callee (f := 35) rfl ?_); refine goesL_ (some 35) rfl rfl Try.func35 (by kernel_rfl) rfl #[.int .i64 t123] rfl (by (try simp only [List.map_toArray, List.map_cons, List.map_nil]); first | done | rfl | (simp only [List.length_drop, List.length_take]; rfl)) ?_; (with_reducible refine (addr_Whose.calls t123 t126 t127 t128 t129 _ A9.out).mono ?_); rintro e w' ⟨rfl, ⟨nd, rfl⟩⟩; refine ⟨_, rfl, ?_⟩))
      go_loopg [13, 14] k (fun kq v13 v14 w' => ∃ (x13_1 : Int) (x14_1 : Int), v13 = .int .i64 x13_1 ∧ v14 = .int .i64 x14_1 ∧ Aside0 (wharfagelaw5_AddrBack.l0 kq a0 a1 a2 t123 t126 t127 t128 t129 x13_1 x14_1 = some r) ∧ Aside0 (kq ≤ k) ∧ Drawn0 w w')
      case atStart => exact ⟨(0), (0), (by first | rfl | (simp; done) | (simp [*]; done)), (by first | rfl | (simp; done) | (simp [*]; done)), H', ⟨Nat.le_refl _⟩, by repeat (first | exact Drawn0.refl _ | apply Drawn0.step)⟩
      case round =>
        clear H'
        try clear c1
        try clear c2
        try clear p2
        try clear c3
        try clear c5
        try clear c8
        try clear c8b0
        try clear c8b1
        obtain ⟨x13_1, x14_1, rfl, rfl, HA, HK1, ⟨m1, rfl⟩⟩ := hrel
        cases gk with
        | zero => exact absurd HA.out (by simp [wharfagelaw5_AddrBack.l0])
        | succ k1 =>
          have H := HA.out
          clear HA
          simp only [wharfagelaw5_AddrBack.l0] at H
          by_cases c10 : x14_1 < 3
          · rw [if_pos c10] at H
            have c10b0 : decide (x14_1 < 3) = true := decide_eq_true c10
            clear c10
            have H' := Aside0.mk H
            clear H
            go_wp2
            go_loopg [13, 15] k1 (fun kq v13 v15 w' => ∃ (x13_2 : Int) (x15_2 : Int), v13 = .int .i64 x13_2 ∧ v15 = .int .i64 x15_2 ∧ Aside0 (wharfagelaw5_AddrBack.l1 kq a0 a1 a2 t123 t126 t127 t128 t129 x13_2 x14_1 x15_2 = some r) ∧ Aside0 (kq ≤ k1) ∧ Drawn0 w w')
            case atStart => exact ⟨(x13_1), (0), (by first | rfl | (simp; done) | (simp [*]; done)), (by first | rfl | (simp; done) | (simp [*]; done)), H', ⟨Nat.le_refl _⟩, by repeat (first | exact Drawn0.refl _ | apply Drawn0.step)⟩
            case round =>
              clear H'
              try clear c1
              try clear c2
              try clear p2
              try clear c3
              try clear c5
              try clear c8
              try clear c8b0
              try clear c8b1
              try clear c10
              try clear c10b0
              try clear p2
              obtain ⟨x13_2, x15_2, rfl, rfl, HA, HK2, ⟨m2, rfl⟩⟩ := hrel
              cases gk with
              | zero => exact absurd HA.out (by simp [wharfagelaw5_AddrBack.l1])
              | succ k2 =>
                have H := HA.out
                clear HA
                simp only [wharfagelaw5_AddrBack.l1] at H
                by_cases c11 : x15_2 < 4
                · rw [if_pos c11] at H
                  have c11b0 : decide (x15_2 < 4) = true := decide_eq_true c11
                  clear c11
                  have H' := Aside0.mk H
                  clear H
                  go_wp2
                  go_loopg [13, 16] k2 (fun kq v13 v16 w' => ∃ (x13_3 : Int) (x16_3 : Int), v13 = .int .i64 x13_3 ∧ v16 = .int .i64 x16_3 ∧ Aside0 (wharfagelaw5_AddrBack.l2 kq a0 a1 a2 t123 t126 t127 t128 t129 x13_3 x14_1 x15_2 x16_3 = some r) ∧ Aside0 (kq ≤ k2) ∧ Drawn0 w w')
                  case atStart => exact ⟨(x13_2), (0), (by first | rfl | (simp; done) | (simp [*]; done)), (by first | rfl | (simp; done) | (simp [*]; done)), H', ⟨Nat.le_refl _⟩, by repeat (first | exact Drawn0.refl _ | apply Drawn0.step)⟩
                  case round =>
                    clear H'
                    try clear c1
                    try clear c2
                    try clear p2
                    try clear c3
                    try clear c5
                    try clear c8
                    try clear c8b0
                    try clear c8b1
                    try clear c10
                    try clear c10b0
                    try clear c11
                    try clear c11b0
                    try clear p2
                    obtain ⟨x13_3, x16_3, rfl, rfl, HA, HK3, ⟨m3, rfl⟩⟩ := hrel
                    cases gk with
                    | zero => exact absurd HA.out (by simp [wharfagelaw5_AddrBack.l2])
                    | succ k3 =>
                      have H := HA.out
                      clear HA
                      simp only [wharfagelaw5_AddrBack.l2] at H
                      by_cases c12 : x16_3 < 5
                      · rw [if_pos c12] at H
                        have c12b0 : decide (x16_3 < 5) = true := decide_eq_true c12
                        clear c12
                        replace H := Option.bind_eq_some_iff.mp H
                        obtain ⟨⟨t130, t131⟩, A130, H⟩ := H
                        replace H : ((wharfagelaw0_Num.f t131).bind fun t132 => (if t132 = 0 then (if t130 = t123 then (wharfagelaw5_AddrBack.l2 k3 a0 a1 a2 t123 t126 t127 t128 t129 (wrap64 (x13_3 + 1)) x14_1 x15_2 (wrap64 (x16_3 + 1))) else (wharfagelaw5_AddrBack.l2 k3 a0 a1 a2 t123 t126 t127 t128 t129 x13_3 x14_1 x15_2 (wrap64 (x16_3 + 1)))) else (wharfagelaw5_AddrBack.l2 k3 a0 a1 a2 t123 t126 t127 t128 t129 x13_3 x14_1 x15_2 (wrap64 (x16_3 + 1))))) = some r := H
                        have A13 := Aside0.mk A130
                        clear A130
                        replace H := Option.bind_eq_some_iff.mp H
                        obtain ⟨t132, A140, H⟩ := H
                        replace H : (if t132 = 0 then (if t130 = t123 then (wharfagelaw5_AddrBack.l2 k3 a0 a1 a2 t123 t126 t127 t128 t129 (wrap64 (x13_3 + 1)) x14_1 x15_2 (wrap64 (x16_3 + 1))) else (wharfagelaw5_AddrBack.l2 k3 a0 a1 a2 t123 t126 t127 t128 t129 x13_3 x14_1 x15_2 (wrap64 (x16_3 + 1)))) else (wharfagelaw5_AddrBack.l2 k3 a0 a1 a2 t123 t126 t127 t128 t129 x13_3 x14_1 x15_2 (wrap64 (x16_3 + 1)))) = some r := H
                        have A14 := Aside0.mk A140
                        clear A140
                        by_cases c15 : t132 = 0
                        · rw [if_pos c15] at H
                          have c15b0 : (t132 == 0) = true := beq_iff_eq.mpr c15
                          have c15b1 : (t132 != 0) = false := bne_eq_false_iff_eq.mpr c15
                          clear c15
                          by_cases c16 : t130 = t123
                          · rw [if_pos c16] at H
                            have c16b0 : (t130 == t123) = true := beq_iff_eq.mpr c16
                            have c16b1 : (t130 != t123) = false := bne_eq_false_iff_eq.mpr c16
                            clear c16
                            have H' := Aside0.mk H
                            clear H
                            go_wp2_with (first | ((with_reducible refine gate_callee (f := 33) rfl ?_); refine goesL_ (some 56) rfl rfl Try.func33 (by kernel_rfl) rfl #[.int .i64 x14_1, .int .i64 x15_2, .int .i64 x16_3] rfl (by (try simp only [List.map_toArray, List.map_cons, List.map_nil]); first | done | rfl | (simp only [List.length_drop, List.length_take]; rfl)) ?_; (with_reducible refine (addr_Address.calls k3 x14_1 x15_2 x16_3 t130 t131 _ A13.out).mono ?_); rintro e w' ⟨rfl, ⟨nd, rfl⟩⟩; refine ⟨_, rfl, ?_⟩) | ((with_reducible refine gate_callee (f := 28) rfl ?_); refine goesL_ (some 60) rfl rfl Try.func28 (by kernel_rfl) rfl #[.int .i64 t131] rfl (by (try simp only [List.map_toArray, List.map_cons, List.map_nil]); first | done | rfl | (simp only [List.length_drop, List.length_take]; rfl)) ?_; (with_reducible refine (wharfagelaw0_Num.calls t131 t132 _ A14.out).mono ?_); rintro e w' ⟨rfl, ⟨nd, rfl⟩⟩; refine ⟨_, rfl, ?_⟩))
                            go_roundg k3
                            case measure => have := HK1.out; have := HK2.out; have := HK3.out; omega
                            case rel => exact ⟨(wrap64 (x13_3 + 1)), (wrap64 (x16_3 + 1)), (by first | rfl | (simp; done) | (simp [*]; done)), (by first | rfl | (simp; done) | (simp [*]; done)), H', ⟨by have := HK1.out; have := HK2.out; have := HK3.out; omega⟩, by repeat (first | exact Drawn0.refl _ | apply Drawn0.step)⟩
                          · rw [if_neg c16] at H
                            have c16b0 : (t130 == t123) = false := beq_eq_false_iff_ne.mpr c16
                            have c16b1 : (t130 != t123) = true := bne_iff_ne.mpr c16
                            have H' := Aside0.mk H
                            clear H
                            go_wp2_with (first | ((with_reducible refine gate_callee (f := 33) rfl ?_); refine goesL_ (some 56) rfl rfl Try.func33 (by kernel_rfl) rfl #[.int .i64 x14_1, .int .i64 x15_2, .int .i64 x16_3] rfl (by (try simp only [List.map_toArray, List.map_cons, List.map_nil]); first | done | rfl | (simp only [List.length_drop, List.length_take]; rfl)) ?_; (with_reducible refine (addr_Address.calls k3 x14_1 x15_2 x16_3 t130 t131 _ A13.out).mono ?_); rintro e w' ⟨rfl, ⟨nd, rfl⟩⟩; refine ⟨_, rfl, ?_⟩) | ((with_reducible refine gate_callee (f := 28) rfl ?_); refine goesL_ (some 60) rfl rfl Try.func28 (by kernel_rfl) rfl #[.int .i64 t131] rfl (by (try simp only [List.map_toArray, List.map_cons, List.map_nil]); first | done | rfl | (simp only [List.length_drop, List.length_take]; rfl)) ?_; (with_reducible refine (wharfagelaw0_Num.calls t131 t132 _ A14.out).mono ?_); rintro e w' ⟨rfl, ⟨nd, rfl⟩⟩; refine ⟨_, rfl, ?_⟩))
                            go_roundg k3
                            case measure => have := HK1.out; have := HK2.out; have := HK3.out; omega
                            case rel => exact ⟨(x13_3), (wrap64 (x16_3 + 1)), (by first | rfl | (simp; done) | (simp [*]; done)), (by first | rfl | (simp; done) | (simp [*]; done)), H', ⟨by have := HK1.out; have := HK2.out; have := HK3.out; omega⟩, by repeat (first | exact Drawn0.refl _ | apply Drawn0.step)⟩
                        · rw [if_neg c15] at H
                          have c15b0 : (t132 == 0) = false := beq_eq_false_iff_ne.mpr c15
                          have c15b1 : (t132 != 0) = true := bne_iff_ne.mpr c15
                          have H' := Aside0.mk H
                          clear H
                          go_wp2_with (first | ((with_reducible refine gate_callee (f := 33) rfl ?_); refine goesL_ (some 56) rfl rfl Try.func33 (by kernel_rfl) rfl #[.int .i64 x14_1, .int .i64 x15_2, .int .i64 x16_3] rfl (by (try simp only [List.map_toArray, List.map_cons, List.map_nil]); first | done | rfl | (simp only [List.length_drop, List.length_take]; rfl)) ?_; (with_reducible refine (addr_Address.calls k3 x14_1 x15_2 x16_3 t130 t131 _ A13.out).mono ?_); rintro e w' ⟨rfl, ⟨nd, rfl⟩⟩; refine ⟨_, rfl, ?_⟩) | ((with_reducible refine gate_callee (f := 28) rfl ?_); refine goesL_ (some 60) rfl rfl Try.func28 (by kernel_rfl) rfl #[.int .i64 t131] rfl (by (try simp only [List.map_toArray, List.map_cons, List.map_nil]); first | done | rfl | (simp only [List.length_drop, List.length_take]; rfl)) ?_; (with_reducible refine (wharfagelaw0_Num.calls t131 t132 _ A14.out).mono ?_); rintro e w' ⟨rfl, ⟨nd, rfl⟩⟩; refine ⟨_, rfl, ?_⟩))
                          go_roundg k3
                          case measure => have := HK1.out; have := HK2.out; have := HK3.out; omega
                          case rel => exact ⟨(x13_3), (wrap64 (x16_3 + 1)), (by first | rfl | (simp; done) | (simp [*]; done)), (by first | rfl | (simp; done) | (simp [*]; done)), H', ⟨by have := HK1.out; have := HK2.out; have := HK3.out; omega⟩, by repeat (first | exact Drawn0.refl _ | apply Drawn0.step)⟩
                      · rw [if_neg c12] at H
                        have c12b0 : decide (x16_3 < 5) = false := decide_eq_false c12
                        clear c12
                        have H' := Aside0.mk H
                        clear H
                        go_wp2
                        go_roundg k3
                        case measure => have := HK1.out; have := HK2.out; have := HK3.out; omega
                        case rel => exact ⟨(x13_3), (wrap64 (x15_2 + 1)), (by first | rfl | (simp; done) | (simp [*]; done)), (by first | rfl | (simp; done) | (simp [*]; done)), H', ⟨by have := HK1.out; have := HK2.out; have := HK3.out; omega⟩, by repeat (first | exact Drawn0.refl _ | apply Drawn0.step)⟩
                · rw [if_neg c11] at H
                  have c11b0 : decide (x15_2 < 4) = false := decide_eq_false c11
                  clear c11
                  have H' := Aside0.mk H
                  clear H
                  go_wp2
                  go_roundg k2
                  case measure => have := HK1.out; have := HK2.out; omega
                  case rel => exact ⟨(x13_2), (wrap64 (x14_1 + 1)), (by first | rfl | (simp; done) | (simp [*]; done)), (by first | rfl | (simp; done) | (simp [*]; done)), H', ⟨by have := HK1.out; have := HK2.out; omega⟩, by repeat (first | exact Drawn0.refl _ | apply Drawn0.step)⟩
          · rw [if_neg c10] at H
            have c10b0 : decide (x14_1 < 3) = false := decide_eq_false c10
            clear c10
            by_cases c17 : t129 = true
            · subst c17
              have H1 : (if t126 = a0 then (if t127 = a1 then (if t128 = a2 then (some (x13_1 == 1)) else (some false)) else (some false)) else (some false)) = some r := by rw [if_pos rfl] at H; exact H
              clear H
              have H := H1
              clear H1
              by_cases c18 : t126 = a0
              · rw [if_pos c18] at H
                have c18b0 : (t126 == a0) = true := beq_iff_eq.mpr c18
                have c18b1 : (t126 != a0) = false := bne_eq_false_iff_eq.mpr c18
                clear c18
                by_cases c19 : t127 = a1
                · rw [if_pos c19] at H
                  have c19b0 : (t127 == a1) = true := beq_iff_eq.mpr c19
                  have c19b1 : (t127 != a1) = false := bne_eq_false_iff_eq.mpr c19
                  clear c19
                  by_cases c20 : t128 = a2
                  · rw [if_pos c20] at H
                    have c20b0 : (t128 == a2) = true := beq_iff_eq.mpr c20
                    have c20b1 : (t128 != a2) = false := bne_eq_false_iff_eq.mpr c20
                    clear c20
                    obtain rfl := Option.some.inj H
                    go_wp2
                    go_ret
                    exact ⟨by first | rfl | (simp; done) | (simp [*]; done), by repeat (first | exact Drawn0.refl _ | apply Drawn0.step)⟩
                  · rw [if_neg c20] at H
                    have c20b0 : (t128 == a2) = false := beq_eq_false_iff_ne.mpr c20
                    have c20b1 : (t128 != a2) = true := bne_iff_ne.mpr c20
                    obtain rfl := Option.some.inj H
                    go_wp2
                    go_ret
                    exact ⟨by first | rfl | (simp; done) | (simp [*]; done), by repeat (first | exact Drawn0.refl _ | apply Drawn0.step)⟩
                · rw [if_neg c19] at H
                  have c19b0 : (t127 == a1) = false := beq_eq_false_iff_ne.mpr c19
                  have c19b1 : (t127 != a1) = true := bne_iff_ne.mpr c19
                  obtain rfl := Option.some.inj H
                  go_wp2
                  go_ret
                  exact ⟨by first | rfl | (simp; done) | (simp [*]; done), by repeat (first | exact Drawn0.refl _ | apply Drawn0.step)⟩
              · rw [if_neg c18] at H
                have c18b0 : (t126 == a0) = false := beq_eq_false_iff_ne.mpr c18
                have c18b1 : (t126 != a0) = true := bne_iff_ne.mpr c18
                obtain rfl := Option.some.inj H
                go_wp2
                go_ret
                exact ⟨by first | rfl | (simp; done) | (simp [*]; done), by repeat (first | exact Drawn0.refl _ | apply Drawn0.step)⟩
            · replace c17 := Bool.eq_false_iff.mpr c17
              subst c17
              have H1 : (some false) = some r := by rw [if_neg (show ¬ (false = true) by decide)] at H; exact H
              clear H
              have H := H1
              clear H1
              obtain rfl := Option.some.inj H
              go_wp2
              go_ret
              exact ⟨by first | rfl | (simp; done) | (simp [*]; done), by repeat (first | exact Drawn0.refl _ | apply Drawn0.step)⟩
    · rw [if_neg c8] at H
      have c8b0 : (t125 == 0) = false := beq_eq_false_iff_ne.mpr c8
      have c8b1 : (t125 != 0) = true := bne_iff_ne.mpr c8
      obtain rfl := Option.some.inj H
      go_enter Try.func10, Try.ntmps10
      go_wp2_with (first | ((with_reducible refine gate_callee (f := 37) rfl ?_); refine goesL_ (some 19) rfl rfl Try.func37 (by kernel_rfl) rfl #[] rfl (by (try simp only [List.map_toArray, List.map_cons, List.map_nil]); first | done | rfl | (simp only [List.length_drop, List.length_take]; rfl)) ?_; (with_reducible refine (wharfagelaw5_awake.calls k  true _ A4.out).mono ?_); rintro e w' ⟨rfl, ⟨nd, rfl⟩⟩; refine ⟨_, rfl, ?_⟩) | ((with_reducible refine gate_callee (f := 33) rfl ?_); refine goesL_ (some 25) rfl rfl Try.func33 (by kernel_rfl) rfl #[.int .i64 a0, .int .i64 a1, .int .i64 a2] rfl (by (try simp only [List.map_toArray, List.map_cons, List.map_nil]); first | done | rfl | (simp only [List.length_drop, List.length_take]; rfl)) ?_; (with_reducible refine (addr_Address.calls k a0 a1 a2 t123 t124 _ A6.out).mono ?_); rintro e w' ⟨rfl, ⟨nd, rfl⟩⟩; refine ⟨_, rfl, ?_⟩) | ((with_reducible refine gate_callee (f := 28) rfl ?_); refine goesL_ (some 29) rfl rfl Try.func28 (by kernel_rfl) rfl #[.int .i64 t124] rfl (by (try simp only [List.map_toArray, List.map_cons, List.map_nil]); first | done | rfl | (simp only [List.length_drop, List.length_take]; rfl)) ?_; (with_reducible refine (wharfagelaw0_Num.calls t124 t125 _ A7.out).mono ?_); rintro e w' ⟨rfl, ⟨nd, rfl⟩⟩; refine ⟨_, rfl, ?_⟩))
      go_ret
      exact ⟨by first | rfl | (simp; done) | (simp [*]; done), by repeat (first | exact Drawn0.refl _ | apply Drawn0.step)⟩
  · replace c5 := Bool.eq_false_iff.mpr c5
    subst c5
    have H1 : (some false) = some r := by rw [if_neg (show ¬ (false = true) by decide)] at H; exact H
    clear H
    have H := H1
    clear H1
    obtain rfl := Option.some.inj H
    go_enter Try.func10, Try.ntmps10
    go_wp2_with (first | ((with_reducible refine gate_callee (f := 37) rfl ?_); refine goesL_ (some 19) rfl rfl Try.func37 (by kernel_rfl) rfl #[] rfl (by (try simp only [List.map_toArray, List.map_cons, List.map_nil]); first | done | rfl | (simp only [List.length_drop, List.length_take]; rfl)) ?_; (with_reducible refine (wharfagelaw5_awake.calls k  false _ A4.out).mono ?_); rintro e w' ⟨rfl, ⟨nd, rfl⟩⟩; refine ⟨_, rfl, ?_⟩))
    go_ret
    exact ⟨by first | rfl | (simp; done) | (simp [*]; done), by repeat (first | exact Drawn0.refl _ | apply Drawn0.step)⟩

/-- THE ONE PURE STATEMENT of wharfagelaw5_AddrBack: yours. -/
def wharfagelaw5_AddrBack.Pure : Prop := ∀ (a0 : Int) (a1 : Int) (a2 : Int), (Lit.int .i64 a0).wf = true → (Lit.int .i64 a1).wf = true → (Lit.int .i64 a2).wf = true → ∃ k, wharfagelaw5_AddrBack.f k a0 a1 a2 = some true
theorem wharfagelaw5_AddrBack.walk (P : wharfagelaw5_AddrBack.Pure) (a0 : Int) (a1 : Int) (a2 : Int) (w : World) (w0 : (Lit.int .i64 a0).wf = true) (w1 : (Lit.int .i64 a1).wf = true) (w2 : (Lit.int .i64 a2).wf = true) :
    Calls Try.prog 10 #[.int .i64 a0, .int .i64 a1, .int .i64 a2] w fun e w' => e = .returned (.bool true) ∧ Below w.heap.size w w' := by
  obtain ⟨k, h⟩ := P a0 a1 a2 w0 w1 w2
  refine (wharfagelaw5_AddrBack.calls k a0 a1 a2 true w h).mono ?_
  rintro e w' ⟨rfl, hd⟩
  exact ⟨rfl, hd.below⟩

end Go.Proofs.Ytdpkfpbdadloaaa.PAddrBack
