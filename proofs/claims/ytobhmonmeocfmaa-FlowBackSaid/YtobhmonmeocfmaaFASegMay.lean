-- printed by a program of this session (myprint.py) out of the translation
import Derived.Test.YtobhmonmeocfmaaFAM0
namespace Go.Proofs.Ytobhmonmeocfmaa.PA
open Go.RowKit Go.Proofs.YtobhmonmeocfmaaW.PrintWords Go.Proofs.YtobhmonmeocfmaaW.PrintLast Go.Proofs.YtobhmonmeocfmaaW.PrintMore
attribute [local go_sem] max2_int min2_int max_two min_two max_three min_three max_four min_four   -- for this text's walks alone
set_option linter.unusedVariables false
set_option linter.unusedSimpArgs false

/-! ### seg_May: function 33 -/
def seg_May.j0 : Nat → Bool → Int → Int → Int → Int → Int → Int → ByteArray → Option (Bool)
  | 0, _, _, _, _, _, _, _, _ => none
  | k + 1, x3, x351000, x351001, x351002, x351003, x351004, x351005, x351006 => if x351000 = 6 then (if x3 = true then ((ip_In.f x351003 32).bind fun t353 => (if t353 = true then ((ip_In.f x351004 32).bind fun t354 => (if t354 = true then ((ip_In.f x351005 6).bind fun t355 => (some t355)) else (some false))) else (some false))) else (some false)) else (if x351000 = 17 then (if x3 = true then (if x351003 = 0 then (if x351004 = 0 then (some (x351005 == 0)) else (some false)) else (some false)) else (some false)) else (some false))
def seg_May.f (k : Nat) (a0_0 : Int) (a0_1 : Int) (a0_2 : Int) (a0_3 : Int) (a0_4 : Int) (a0_5 : Int) (a0_6 : ByteArray) : Option (Bool) := (ip_In.f a0_1 16).bind fun t351 => (if t351 = true then ((ip_In.f a0_2 16).bind fun t352 => (if t352 = true then (seg_May.j0 k (decide ((a0_6.size : Int) ≤ 256)) a0_0 a0_1 a0_2 a0_3 a0_4 a0_5 a0_6) else (seg_May.j0 k false a0_0 a0_1 a0_2 a0_3 a0_4 a0_5 a0_6))) else (seg_May.j0 k false a0_0 a0_1 a0_2 a0_3 a0_4 a0_5 a0_6))
theorem seg_May.mono_l : ∀ k, (∀ y0 y1 y2 y3 y4 y5 y6 y7, LeO (seg_May.j0 k y0 y1 y2 y3 y4 y5 y6 y7) (seg_May.j0 (k + 1) y0 y1 y2 y3 y4 y5 y6 y7))
  | 0 => fun _ _ _ _ _ _ _ _ r h => by simp [seg_May.j0] at h
  | k + 1 => by
    have ih0 := seg_May.mono_l k
    · intro y0 y1 y2 y3 y4 y5 y6 y7
      unfold seg_May.j0
      repeat' first
      | (with_reducible exact ih0 _ _ _ _ _ _ _ _)
      | (with_reducible exact LeO.refl _)
      | (with_reducible exact LeO.none _)
      | (with_reducible refine LeO.ite ?_ ?_)
      | (with_reducible refine LeO.bind ?_ (fun _ => ?_))
      | exact ih0 _ _ _ _ _ _ _ _
      | exact LeO.none _
      | refine LeO.ite ?_ ?_
      | refine LeO.bind ?_ (fun _ => ?_)
theorem seg_May.mono : ∀ a0 a1 a2 a3 a4 a5 a6 k, LeO (seg_May.f k a0 a1 a2 a3 a4 a5 a6) (seg_May.f (k + 1) a0 a1 a2 a3 a4 a5 a6) := by
  intro a0 a1 a2 a3 a4 a5 a6 k
  have ih0 := seg_May.mono_l k
  unfold seg_May.f
  repeat' first
      | (with_reducible exact ih0 _ _ _ _ _ _ _ _)
      | (with_reducible exact LeO.refl _)
      | (with_reducible exact LeO.none _)
      | (with_reducible refine LeO.ite ?_ ?_)
      | (with_reducible refine LeO.bind ?_ (fun _ => ?_))
      | exact ih0 _ _ _ _ _ _ _ _
      | exact LeO.none _
      | refine LeO.ite ?_ ?_
      | refine LeO.bind ?_ (fun _ => ?_)
set_option maxHeartbeats 8000000 in
set_option maxRecDepth 100000 in
theorem seg_May.calls (k : Nat) (a0_0 : Int) (a0_1 : Int) (a0_2 : Int) (a0_3 : Int) (a0_4 : Int) (a0_5 : Int) (a0_6 : ByteArray) (r : Bool) (w : World) (h : seg_May.f k a0_0 a0_1 a0_2 a0_3 a0_4 a0_5 a0_6 = some r) :
    Calls Try.prog 33 #[.agg #[.int .i64 a0_0, .int .i64 a0_1, .int .i64 a0_2, .int .i64 a0_3, .int .i64 a0_4, .int .i64 a0_5, .string a0_6]] w fun e w' => e = .returned (.bool r) ∧ Below w.heap.size w w' := by
  have hu44 := Try.underlying44
  have HB := Aside0.mk (Below.refl w.heap.size w)
  have H : ((ip_In.f a0_1 16).bind fun t351 => (if t351 = true then ((ip_In.f a0_2 16).bind fun t352 => (if t352 = true then (seg_May.j0 k (decide ((a0_6.size : Int) ≤ 256)) a0_0 a0_1 a0_2 a0_3 a0_4 a0_5 a0_6) else (seg_May.j0 k false a0_0 a0_1 a0_2 a0_3 a0_4 a0_5 a0_6))) else (seg_May.j0 k false a0_0 a0_1 a0_2 a0_3 a0_4 a0_5 a0_6))) = some r := h
  clear h
  have HC2 := Aside0.mk H
  clear H
  go_enter Try.func33, Try.ntmps33
  go_upto_region 1 with (first | ((with_reducible refine gate_dst (N := 1) rfl ?_); (try (refine gate_guard (by rfl) ?_; dsimp only)); refine box_event ?hg (N := 1) ?hd (cs := #[.int .i64 a0_0, .int .i64 a0_1, .int .i64 a0_2, .int .i64 a0_3, .int .i64 a0_4, .int .i64 a0_5, .string a0_6]) (t := 44) ?hr ?_; (case hd => rfl); (case hg => rfl); (case hr => first | (go_simp; done) | (go_simp; rfl)); intro gb350 hg w3 hbox hb; have n0_ := Aside0.mk (below_step (by repeat (first | (with_reducible first | exact HB.out | apply below_alloc | apply pw_below_drewN | apply below_drew1) | exact HB.out)) hb); have n1_ := Aside0.mk (hbox); have n2_ := Aside0.mk ((by rw [hg]; exact (below_size (by repeat (first | (with_reducible first | exact HB.out | apply below_alloc | apply pw_below_drewN | apply below_drew1) | exact HB.out))) : w.heap.size ≤ gb350)); have n3_ := Aside0.mk ((by rw [hg]; exact (below_size (by repeat (first | (with_reducible first | exact HB.out | apply below_alloc | apply pw_below_drewN | apply below_drew1) | exact HB.out))) : w.heap.size ≤ gb350)); clear HB; have HB := n0_; have BK350 := n1_; have GW350 := n2_; have GE350 := n3_; clear n0_ n1_ n2_ n3_; clear hb hbox hg))
  (try simp only [Act.put, List.setIfInBounds_toArray, List.set_cons_zero, List.set_cons_succ])
  go_cut [3] (fun v3 wc => ∃ (kq : Nat) (x3_1 : Bool), v3 = .bool x3_1 ∧ Aside0 (seg_May.j0 kq x3_1 a0_0 a0_1 a0_2 a0_3 a0_4 a0_5 a0_6 = some r) ∧ Aside0 (kq ≤ k) ∧ Aside0 (wc.heap[gb350]? = some (.cells #[.int .i64 a0_0, .int .i64 a0_1, .int .i64 a0_2, .int .i64 a0_3, .int .i64 a0_4, .int .i64 a0_5, .string a0_6] 44 (0, 0))) ∧ Aside0 (Below w.heap.size w wc))
  case first =>
    have H := HC2.out
    clear HC2
    replace H := Option.bind_eq_some_iff.mp H
    obtain ⟨t351, A40, H⟩ := H
    replace H : (if t351 = true then ((ip_In.f a0_2 16).bind fun t352 => (if t352 = true then (seg_May.j0 k (decide ((a0_6.size : Int) ≤ 256)) a0_0 a0_1 a0_2 a0_3 a0_4 a0_5 a0_6) else (seg_May.j0 k false a0_0 a0_1 a0_2 a0_3 a0_4 a0_5 a0_6))) else (seg_May.j0 k false a0_0 a0_1 a0_2 a0_3 a0_4 a0_5 a0_6)) = some r := H
    have A4 := Aside0.mk A40
    clear A40
    by_cases c5 : t351 = true
    · subst c5
      have H1 : ((ip_In.f a0_2 16).bind fun t352 => (if t352 = true then (seg_May.j0 k (decide ((a0_6.size : Int) ≤ 256)) a0_0 a0_1 a0_2 a0_3 a0_4 a0_5 a0_6) else (seg_May.j0 k false a0_0 a0_1 a0_2 a0_3 a0_4 a0_5 a0_6))) = some r := by rw [if_pos rfl] at H; exact H
      clear H
      have H := H1
      clear H1
      replace H := Option.bind_eq_some_iff.mp H
      obtain ⟨t352, A60, H⟩ := H
      replace H : (if t352 = true then (seg_May.j0 k (decide ((a0_6.size : Int) ≤ 256)) a0_0 a0_1 a0_2 a0_3 a0_4 a0_5 a0_6) else (seg_May.j0 k false a0_0 a0_1 a0_2 a0_3 a0_4 a0_5 a0_6)) = some r := H
      have A6 := Aside0.mk A60
      clear A60
      by_cases c7 : t352 = true
      · subst c7
        have H1 : (seg_May.j0 k (decide ((a0_6.size : Int) ≤ 256)) a0_0 a0_1 a0_2 a0_3 a0_4 a0_5 a0_6) = some r := by rw [if_pos rfl] at H; exact H
        clear H
        have H := H1
        clear H1
        have H' := Aside0.mk H
        clear H
        have hcz8_0 : w3.cell? ⟨gb350, 0, none⟩ = some (.int .i64 a0_0) := (blk_cell BK350.out 0).trans rfl
        have hcz8_1 : w3.cell? ⟨gb350, 1, none⟩ = some (.int .i64 a0_1) := (blk_cell BK350.out 1).trans rfl
        have hcz8_2 : w3.cell? ⟨gb350, 2, none⟩ = some (.int .i64 a0_2) := (blk_cell BK350.out 2).trans rfl
        have hcz8_3 : w3.cell? ⟨gb350, 3, none⟩ = some (.int .i64 a0_3) := (blk_cell BK350.out 3).trans rfl
        have hcz8_4 : w3.cell? ⟨gb350, 4, none⟩ = some (.int .i64 a0_4) := (blk_cell BK350.out 4).trans rfl
        have hcz8_5 : w3.cell? ⟨gb350, 5, none⟩ = some (.int .i64 a0_5) := (blk_cell BK350.out 5).trans rfl
        have hcz8_6 : w3.cell? ⟨gb350, 6, none⟩ = some (.string a0_6) := (blk_cell BK350.out 6).trans rfl
        have hfz8_0 := blk_frozen BK350.out 0
        have hfz8_1 := blk_frozen BK350.out 1
        have hfz8_2 := blk_frozen BK350.out 2
        have hfz8_3 := blk_frozen BK350.out 3
        have hfz8_4 := blk_frozen BK350.out 4
        have hfz8_5 := blk_frozen BK350.out 5
        have hfz8_6 := blk_frozen BK350.out 6
        go_wp2_with (first | ((with_reducible refine gate_callee (f := 56) rfl ?_); refine goesL_ (some 6) rfl rfl Try.func56 (by kernel_rfl) rfl #[.int .i64 a0_1, .int .i64 16] rfl (by (try simp only [List.map_toArray, List.map_cons, List.map_nil]); first | done | rfl | (simp only [List.length_drop, List.length_take]; rfl)) ?_; (with_reducible refine (ip_In.calls a0_1 16 true _ A4.out).mono ?_); rintro e w' ⟨rfl, ⟨nd, rfl⟩⟩; refine ⟨_, rfl, ?_⟩) | (go_at_call 56; (with_reducible refine (ip_In.calls a0_2 16 true _ A6.out).mono ?_); rintro e w' ⟨rfl, ⟨nd, rfl⟩⟩))
        go_meet
        case rel => exact ⟨_, (decide ((a0_6.size : Int) ≤ 256)), (by first | rfl | (simp; done) | (simp [*]; done)), H', ⟨by first | omega | exact Nat.le_refl _⟩, ⟨by (with_reducible repeat (first | refine blk_drewN ?_ _ | refine blk_drew ?_ | refine blk_alloc ?_ _)); exact BK350.out⟩, ⟨by repeat (first | (with_reducible first | exact HB.out | apply below_alloc | apply pw_below_drewN | apply below_drew1 | refine below_set ?_ GE350.out) | exact HB.out)⟩⟩
      · replace c7 := Bool.eq_false_iff.mpr c7
        subst c7
        have H1 : (seg_May.j0 k false a0_0 a0_1 a0_2 a0_3 a0_4 a0_5 a0_6) = some r := by rw [if_neg (show ¬ (false = true) by decide)] at H; exact H
        clear H
        have H := H1
        clear H1
        have H' := Aside0.mk H
        clear H
        have hcz9_0 : w3.cell? ⟨gb350, 0, none⟩ = some (.int .i64 a0_0) := (blk_cell BK350.out 0).trans rfl
        have hcz9_1 : w3.cell? ⟨gb350, 1, none⟩ = some (.int .i64 a0_1) := (blk_cell BK350.out 1).trans rfl
        have hcz9_2 : w3.cell? ⟨gb350, 2, none⟩ = some (.int .i64 a0_2) := (blk_cell BK350.out 2).trans rfl
        have hcz9_3 : w3.cell? ⟨gb350, 3, none⟩ = some (.int .i64 a0_3) := (blk_cell BK350.out 3).trans rfl
        have hcz9_4 : w3.cell? ⟨gb350, 4, none⟩ = some (.int .i64 a0_4) := (blk_cell BK350.out 4).trans rfl
        have hcz9_5 : w3.cell? ⟨gb350, 5, none⟩ = some (.int .i64 a0_5) := (blk_cell BK350.out 5).trans rfl
        have hcz9_6 : w3.cell? ⟨gb350, 6, none⟩ = some (.string a0_6) := (blk_cell BK350.out 6).trans rfl
        have hfz9_0 := blk_frozen BK350.out 0
        have hfz9_1 := blk_frozen BK350.out 1
        have hfz9_2 := blk_frozen BK350.out 2
        have hfz9_3 := blk_frozen BK350.out 3
        have hfz9_4 := blk_frozen BK350.out 4
        have hfz9_5 := blk_frozen BK350.out 5
        have hfz9_6 := blk_frozen BK350.out 6
        go_wp2_with (first | ((with_reducible refine gate_callee (f := 56) rfl ?_); refine goesL_ (some 6) rfl rfl Try.func56 (by kernel_rfl) rfl #[.int .i64 a0_1, .int .i64 16] rfl (by (try simp only [List.map_toArray, List.map_cons, List.map_nil]); first | done | rfl | (simp only [List.length_drop, List.length_take]; rfl)) ?_; (with_reducible refine (ip_In.calls a0_1 16 true _ A4.out).mono ?_); rintro e w' ⟨rfl, ⟨nd, rfl⟩⟩; refine ⟨_, rfl, ?_⟩) | (go_at_call 56; (with_reducible refine (ip_In.calls a0_2 16 false _ A6.out).mono ?_); rintro e w' ⟨rfl, ⟨nd, rfl⟩⟩))
        go_meet
        case rel => exact ⟨_, (false), (by first | rfl | (simp; done) | (simp [*]; done)), H', ⟨by first | omega | exact Nat.le_refl _⟩, ⟨by (with_reducible repeat (first | refine blk_drewN ?_ _ | refine blk_drew ?_ | refine blk_alloc ?_ _)); exact BK350.out⟩, ⟨by repeat (first | (with_reducible first | exact HB.out | apply below_alloc | apply pw_below_drewN | apply below_drew1 | refine below_set ?_ GE350.out) | exact HB.out)⟩⟩
    · replace c5 := Bool.eq_false_iff.mpr c5
      subst c5
      have H1 : (seg_May.j0 k false a0_0 a0_1 a0_2 a0_3 a0_4 a0_5 a0_6) = some r := by rw [if_neg (show ¬ (false = true) by decide)] at H; exact H
      clear H
      have H := H1
      clear H1
      have H' := Aside0.mk H
      clear H
      have hcz10_0 : w3.cell? ⟨gb350, 0, none⟩ = some (.int .i64 a0_0) := (blk_cell BK350.out 0).trans rfl
      have hcz10_1 : w3.cell? ⟨gb350, 1, none⟩ = some (.int .i64 a0_1) := (blk_cell BK350.out 1).trans rfl
      have hcz10_2 : w3.cell? ⟨gb350, 2, none⟩ = some (.int .i64 a0_2) := (blk_cell BK350.out 2).trans rfl
      have hcz10_3 : w3.cell? ⟨gb350, 3, none⟩ = some (.int .i64 a0_3) := (blk_cell BK350.out 3).trans rfl
      have hcz10_4 : w3.cell? ⟨gb350, 4, none⟩ = some (.int .i64 a0_4) := (blk_cell BK350.out 4).trans rfl
      have hcz10_5 : w3.cell? ⟨gb350, 5, none⟩ = some (.int .i64 a0_5) := (blk_cell BK350.out 5).trans rfl
      have hcz10_6 : w3.cell? ⟨gb350, 6, none⟩ = some (.string a0_6) := (blk_cell BK350.out 6).trans rfl
      have hfz10_0 := blk_frozen BK350.out 0
      have hfz10_1 := blk_frozen BK350.out 1
      have hfz10_2 := blk_frozen BK350.out 2
      have hfz10_3 := blk_frozen BK350.out 3
      have hfz10_4 := blk_frozen BK350.out 4
      have hfz10_5 := blk_frozen BK350.out 5
      have hfz10_6 := blk_frozen BK350.out 6
      go_wp2_with (first | ((with_reducible refine gate_callee (f := 56) rfl ?_); refine goesL_ (some 6) rfl rfl Try.func56 (by kernel_rfl) rfl #[.int .i64 a0_1, .int .i64 16] rfl (by (try simp only [List.map_toArray, List.map_cons, List.map_nil]); first | done | rfl | (simp only [List.length_drop, List.length_take]; rfl)) ?_; (with_reducible refine (ip_In.calls a0_1 16 false _ A4.out).mono ?_); rintro e w' ⟨rfl, ⟨nd, rfl⟩⟩; refine ⟨_, rfl, ?_⟩))
      go_meet
      case rel => exact ⟨_, (false), (by first | rfl | (simp; done) | (simp [*]; done)), H', ⟨by first | omega | exact Nat.le_refl _⟩, ⟨by (with_reducible repeat (first | refine blk_drewN ?_ _ | refine blk_drew ?_ | refine blk_alloc ?_ _)); exact BK350.out⟩, ⟨by repeat (first | (with_reducible first | exact HB.out | apply below_alloc | apply pw_below_drewN | apply below_drew1 | refine below_set ?_ GE350.out) | exact HB.out)⟩⟩
  case rest =>
    clear HC2
    try clear p2
    try clear c3
    try clear c5
    try clear c7
    try clear hcz10_0
    try clear hcz10_1
    try clear hcz10_2
    try clear hcz10_3
    try clear hcz10_4
    try clear hcz10_5
    try clear hcz10_6
    try clear hcz8_0
    try clear hcz8_1
    try clear hcz8_2
    try clear hcz8_3
    try clear hcz8_4
    try clear hcz8_5
    try clear hcz8_6
    try clear hcz9_0
    try clear hcz9_1
    try clear hcz9_2
    try clear hcz9_3
    try clear hcz9_4
    try clear hcz9_5
    try clear hcz9_6
    try clear hfz10_0
    try clear hfz10_1
    try clear hfz10_2
    try clear hfz10_3
    try clear hfz10_4
    try clear hfz10_5
    try clear hfz10_6
    try clear hfz8_0
    try clear hfz8_1
    try clear hfz8_2
    try clear hfz8_3
    try clear hfz8_4
    try clear hfz8_5
    try clear hfz8_6
    try clear hfz9_0
    try clear hfz9_1
    try clear hfz9_2
    try clear hfz9_3
    try clear hfz9_4
    try clear hfz9_5
    try clear hfz9_6
    obtain ⟨kq, x3_1, rfl, HA, HJ1, BK350, HB⟩ := hcut
    cases kq with
    | zero => exact absurd HA.out (by simp [seg_May.j0])
    | succ kj1 =>
      have H := HA.out
      clear HA
      simp only [seg_May.j0] at H
      by_cases c11 : a0_0 = 6
      · rw [if_pos c11] at H
        have c11b0 : (a0_0 == 6) = true := beq_iff_eq.mpr c11
        have c11b1 : (a0_0 != 6) = false := bne_eq_false_iff_eq.mpr c11
        clear c11
        by_cases c12 : x3_1 = true
        · subst c12
          have H1 : ((ip_In.f a0_3 32).bind fun t353 => (if t353 = true then ((ip_In.f a0_4 32).bind fun t354 => (if t354 = true then ((ip_In.f a0_5 6).bind fun t355 => (some t355)) else (some false))) else (some false))) = some r := by rw [if_pos rfl] at H; exact H
          clear H
          have H := H1
          clear H1
          replace H := Option.bind_eq_some_iff.mp H
          obtain ⟨t353, A130, H⟩ := H
          replace H : (if t353 = true then ((ip_In.f a0_4 32).bind fun t354 => (if t354 = true then ((ip_In.f a0_5 6).bind fun t355 => (some t355)) else (some false))) else (some false)) = some r := H
          have A13 := Aside0.mk A130
          clear A130
          by_cases c14 : t353 = true
          · subst c14
            have H1 : ((ip_In.f a0_4 32).bind fun t354 => (if t354 = true then ((ip_In.f a0_5 6).bind fun t355 => (some t355)) else (some false))) = some r := by rw [if_pos rfl] at H; exact H
            clear H
            have H := H1
            clear H1
            replace H := Option.bind_eq_some_iff.mp H
            obtain ⟨t354, A150, H⟩ := H
            replace H : (if t354 = true then ((ip_In.f a0_5 6).bind fun t355 => (some t355)) else (some false)) = some r := H
            have A15 := Aside0.mk A150
            clear A150
            by_cases c16 : t354 = true
            · subst c16
              have H1 : ((ip_In.f a0_5 6).bind fun t355 => (some t355)) = some r := by rw [if_pos rfl] at H; exact H
              clear H
              have H := H1
              clear H1
              replace H := Option.bind_eq_some_iff.mp H
              obtain ⟨t355, A170, H⟩ := H
              replace H : (some t355) = some r := H
              have A17 := Aside0.mk A170
              clear A170
              obtain rfl := Option.some.inj H
              have hcz18_0 : wc.cell? ⟨gb350, 0, none⟩ = some (.int .i64 a0_0) := (blk_cell BK350.out 0).trans rfl
              have hcz18_1 : wc.cell? ⟨gb350, 1, none⟩ = some (.int .i64 a0_1) := (blk_cell BK350.out 1).trans rfl
              have hcz18_2 : wc.cell? ⟨gb350, 2, none⟩ = some (.int .i64 a0_2) := (blk_cell BK350.out 2).trans rfl
              have hcz18_3 : wc.cell? ⟨gb350, 3, none⟩ = some (.int .i64 a0_3) := (blk_cell BK350.out 3).trans rfl
              have hcz18_4 : wc.cell? ⟨gb350, 4, none⟩ = some (.int .i64 a0_4) := (blk_cell BK350.out 4).trans rfl
              have hcz18_5 : wc.cell? ⟨gb350, 5, none⟩ = some (.int .i64 a0_5) := (blk_cell BK350.out 5).trans rfl
              have hcz18_6 : wc.cell? ⟨gb350, 6, none⟩ = some (.string a0_6) := (blk_cell BK350.out 6).trans rfl
              have hfz18_0 := blk_frozen BK350.out 0
              have hfz18_1 := blk_frozen BK350.out 1
              have hfz18_2 := blk_frozen BK350.out 2
              have hfz18_3 := blk_frozen BK350.out 3
              have hfz18_4 := blk_frozen BK350.out 4
              have hfz18_5 := blk_frozen BK350.out 5
              have hfz18_6 := blk_frozen BK350.out 6
              go_wp2_with (first | (go_at_call 56; (with_reducible refine (ip_In.calls a0_3 32 true _ A13.out).mono ?_); rintro e w' ⟨rfl, ⟨nd, rfl⟩⟩) | (go_at_call 56; (with_reducible refine (ip_In.calls a0_4 32 true _ A15.out).mono ?_); rintro e w' ⟨rfl, ⟨nd, rfl⟩⟩) | (go_at_call 56; (with_reducible refine (ip_In.calls a0_5 6 t355 _ A17.out).mono ?_); rintro e w' ⟨rfl, ⟨nd, rfl⟩⟩))
              go_ret
              exact ⟨by first | rfl | (simp [errW_none, errW_some] <;> rfl) | (simp [*, errW_none, errW_some] <;> rfl), by repeat (first | (with_reducible first | exact HB.out | apply below_alloc | apply pw_below_drewN | apply below_drew1 | refine below_set ?_ GE350.out) | exact HB.out)⟩
            · replace c16 := Bool.eq_false_iff.mpr c16
              subst c16
              have H1 : (some false) = some r := by rw [if_neg (show ¬ (false = true) by decide)] at H; exact H
              clear H
              have H := H1
              clear H1
              obtain rfl := Option.some.inj H
              have hcz19_0 : wc.cell? ⟨gb350, 0, none⟩ = some (.int .i64 a0_0) := (blk_cell BK350.out 0).trans rfl
              have hcz19_1 : wc.cell? ⟨gb350, 1, none⟩ = some (.int .i64 a0_1) := (blk_cell BK350.out 1).trans rfl
              have hcz19_2 : wc.cell? ⟨gb350, 2, none⟩ = some (.int .i64 a0_2) := (blk_cell BK350.out 2).trans rfl
              have hcz19_3 : wc.cell? ⟨gb350, 3, none⟩ = some (.int .i64 a0_3) := (blk_cell BK350.out 3).trans rfl
              have hcz19_4 : wc.cell? ⟨gb350, 4, none⟩ = some (.int .i64 a0_4) := (blk_cell BK350.out 4).trans rfl
              have hcz19_5 : wc.cell? ⟨gb350, 5, none⟩ = some (.int .i64 a0_5) := (blk_cell BK350.out 5).trans rfl
              have hcz19_6 : wc.cell? ⟨gb350, 6, none⟩ = some (.string a0_6) := (blk_cell BK350.out 6).trans rfl
              have hfz19_0 := blk_frozen BK350.out 0
              have hfz19_1 := blk_frozen BK350.out 1
              have hfz19_2 := blk_frozen BK350.out 2
              have hfz19_3 := blk_frozen BK350.out 3
              have hfz19_4 := blk_frozen BK350.out 4
              have hfz19_5 := blk_frozen BK350.out 5
              have hfz19_6 := blk_frozen BK350.out 6
              go_wp2_with (first | (go_at_call 56; (with_reducible refine (ip_In.calls a0_3 32 true _ A13.out).mono ?_); rintro e w' ⟨rfl, ⟨nd, rfl⟩⟩) | (go_at_call 56; (with_reducible refine (ip_In.calls a0_4 32 false _ A15.out).mono ?_); rintro e w' ⟨rfl, ⟨nd, rfl⟩⟩))
              go_ret
              exact ⟨by first | rfl | (simp [errW_none, errW_some] <;> rfl) | (simp [*, errW_none, errW_some] <;> rfl), by repeat (first | (with_reducible first | exact HB.out | apply below_alloc | apply pw_below_drewN | apply below_drew1 | refine below_set ?_ GE350.out) | exact HB.out)⟩
          · replace c14 := Bool.eq_false_iff.mpr c14
            subst c14
            have H1 : (some false) = some r := by rw [if_neg (show ¬ (false = true) by decide)] at H; exact H
            clear H
            have H := H1
            clear H1
            obtain rfl := Option.some.inj H
            have hcz20_0 : wc.cell? ⟨gb350, 0, none⟩ = some (.int .i64 a0_0) := (blk_cell BK350.out 0).trans rfl
            have hcz20_1 : wc.cell? ⟨gb350, 1, none⟩ = some (.int .i64 a0_1) := (blk_cell BK350.out 1).trans rfl
            have hcz20_2 : wc.cell? ⟨gb350, 2, none⟩ = some (.int .i64 a0_2) := (blk_cell BK350.out 2).trans rfl
            have hcz20_3 : wc.cell? ⟨gb350, 3, none⟩ = some (.int .i64 a0_3) := (blk_cell BK350.out 3).trans rfl
            have hcz20_4 : wc.cell? ⟨gb350, 4, none⟩ = some (.int .i64 a0_4) := (blk_cell BK350.out 4).trans rfl
            have hcz20_5 : wc.cell? ⟨gb350, 5, none⟩ = some (.int .i64 a0_5) := (blk_cell BK350.out 5).trans rfl
            have hcz20_6 : wc.cell? ⟨gb350, 6, none⟩ = some (.string a0_6) := (blk_cell BK350.out 6).trans rfl
            have hfz20_0 := blk_frozen BK350.out 0
            have hfz20_1 := blk_frozen BK350.out 1
            have hfz20_2 := blk_frozen BK350.out 2
            have hfz20_3 := blk_frozen BK350.out 3
            have hfz20_4 := blk_frozen BK350.out 4
            have hfz20_5 := blk_frozen BK350.out 5
            have hfz20_6 := blk_frozen BK350.out 6
            go_wp2_with (first | (go_at_call 56; (with_reducible refine (ip_In.calls a0_3 32 false _ A13.out).mono ?_); rintro e w' ⟨rfl, ⟨nd, rfl⟩⟩))
            go_ret
            exact ⟨by first | rfl | (simp [errW_none, errW_some] <;> rfl) | (simp [*, errW_none, errW_some] <;> rfl), by repeat (first | (with_reducible first | exact HB.out | apply below_alloc | apply pw_below_drewN | apply below_drew1 | refine below_set ?_ GE350.out) | exact HB.out)⟩
        · replace c12 := Bool.eq_false_iff.mpr c12
          subst c12
          have H1 : (some false) = some r := by rw [if_neg (show ¬ (false = true) by decide)] at H; exact H
          clear H
          have H := H1
          clear H1
          obtain rfl := Option.some.inj H
          have hcz21_0 : wc.cell? ⟨gb350, 0, none⟩ = some (.int .i64 a0_0) := (blk_cell BK350.out 0).trans rfl
          have hcz21_1 : wc.cell? ⟨gb350, 1, none⟩ = some (.int .i64 a0_1) := (blk_cell BK350.out 1).trans rfl
          have hcz21_2 : wc.cell? ⟨gb350, 2, none⟩ = some (.int .i64 a0_2) := (blk_cell BK350.out 2).trans rfl
          have hcz21_3 : wc.cell? ⟨gb350, 3, none⟩ = some (.int .i64 a0_3) := (blk_cell BK350.out 3).trans rfl
          have hcz21_4 : wc.cell? ⟨gb350, 4, none⟩ = some (.int .i64 a0_4) := (blk_cell BK350.out 4).trans rfl
          have hcz21_5 : wc.cell? ⟨gb350, 5, none⟩ = some (.int .i64 a0_5) := (blk_cell BK350.out 5).trans rfl
          have hcz21_6 : wc.cell? ⟨gb350, 6, none⟩ = some (.string a0_6) := (blk_cell BK350.out 6).trans rfl
          have hfz21_0 := blk_frozen BK350.out 0
          have hfz21_1 := blk_frozen BK350.out 1
          have hfz21_2 := blk_frozen BK350.out 2
          have hfz21_3 := blk_frozen BK350.out 3
          have hfz21_4 := blk_frozen BK350.out 4
          have hfz21_5 := blk_frozen BK350.out 5
          have hfz21_6 := blk_frozen BK350.out 6
          go_wp2
          go_ret
          exact ⟨by first | rfl | (simp [errW_none, errW_some] <;> rfl) | (simp [*, errW_none, errW_some] <;> rfl), by repeat (first | (with_reducible first | exact HB.out | apply below_alloc | apply pw_below_drewN | apply below_drew1 | refine below_set ?_ GE350.out) | exact HB.out)⟩
      · rw [if_neg c11] at H
        have c11b0 : (a0_0 == 6) = false := beq_eq_false_iff_ne.mpr c11
        have c11b1 : (a0_0 != 6) = true := bne_iff_ne.mpr c11
        by_cases c22 : a0_0 = 17
        · rw [if_pos c22] at H
          have c22b0 : (a0_0 == 17) = true := beq_iff_eq.mpr c22
          have c22b1 : (a0_0 != 17) = false := bne_eq_false_iff_eq.mpr c22
          clear c22
          by_cases c23 : x3_1 = true
          · subst c23
            have H1 : (if a0_3 = 0 then (if a0_4 = 0 then (some (a0_5 == 0)) else (some false)) else (some false)) = some r := by rw [if_pos rfl] at H; exact H
            clear H
            have H := H1
            clear H1
            by_cases c24 : a0_3 = 0
            · rw [if_pos c24] at H
              have c24b0 : (a0_3 == 0) = true := beq_iff_eq.mpr c24
              have c24b1 : (a0_3 != 0) = false := bne_eq_false_iff_eq.mpr c24
              clear c24
              by_cases c25 : a0_4 = 0
              · rw [if_pos c25] at H
                have c25b0 : (a0_4 == 0) = true := beq_iff_eq.mpr c25
                have c25b1 : (a0_4 != 0) = false := bne_eq_false_iff_eq.mpr c25
                clear c25
                obtain rfl := Option.some.inj H
                have hcz26_0 : wc.cell? ⟨gb350, 0, none⟩ = some (.int .i64 a0_0) := (blk_cell BK350.out 0).trans rfl
                have hcz26_1 : wc.cell? ⟨gb350, 1, none⟩ = some (.int .i64 a0_1) := (blk_cell BK350.out 1).trans rfl
                have hcz26_2 : wc.cell? ⟨gb350, 2, none⟩ = some (.int .i64 a0_2) := (blk_cell BK350.out 2).trans rfl
                have hcz26_3 : wc.cell? ⟨gb350, 3, none⟩ = some (.int .i64 a0_3) := (blk_cell BK350.out 3).trans rfl
                have hcz26_4 : wc.cell? ⟨gb350, 4, none⟩ = some (.int .i64 a0_4) := (blk_cell BK350.out 4).trans rfl
                have hcz26_5 : wc.cell? ⟨gb350, 5, none⟩ = some (.int .i64 a0_5) := (blk_cell BK350.out 5).trans rfl
                have hcz26_6 : wc.cell? ⟨gb350, 6, none⟩ = some (.string a0_6) := (blk_cell BK350.out 6).trans rfl
                have hfz26_0 := blk_frozen BK350.out 0
                have hfz26_1 := blk_frozen BK350.out 1
                have hfz26_2 := blk_frozen BK350.out 2
                have hfz26_3 := blk_frozen BK350.out 3
                have hfz26_4 := blk_frozen BK350.out 4
                have hfz26_5 := blk_frozen BK350.out 5
                have hfz26_6 := blk_frozen BK350.out 6
                go_wp2
                go_ret
                exact ⟨by first | rfl | (simp [errW_none, errW_some] <;> rfl) | (simp [*, errW_none, errW_some] <;> rfl), by repeat (first | (with_reducible first | exact HB.out | apply below_alloc | apply pw_below_drewN | apply below_drew1 | refine below_set ?_ GE350.out) | exact HB.out)⟩
              · rw [if_neg c25] at H
                have c25b0 : (a0_4 == 0) = false := beq_eq_false_iff_ne.mpr c25
                have c25b1 : (a0_4 != 0) = true := bne_iff_ne.mpr c25
                obtain rfl := Option.some.inj H
                have hcz27_0 : wc.cell? ⟨gb350, 0, none⟩ = some (.int .i64 a0_0) := (blk_cell BK350.out 0).trans rfl
                have hcz27_1 : wc.cell? ⟨gb350, 1, none⟩ = some (.int .i64 a0_1) := (blk_cell BK350.out 1).trans rfl
                have hcz27_2 : wc.cell? ⟨gb350, 2, none⟩ = some (.int .i64 a0_2) := (blk_cell BK350.out 2).trans rfl
                have hcz27_3 : wc.cell? ⟨gb350, 3, none⟩ = some (.int .i64 a0_3) := (blk_cell BK350.out 3).trans rfl
                have hcz27_4 : wc.cell? ⟨gb350, 4, none⟩ = some (.int .i64 a0_4) := (blk_cell BK350.out 4).trans rfl
                have hcz27_5 : wc.cell? ⟨gb350, 5, none⟩ = some (.int .i64 a0_5) := (blk_cell BK350.out 5).trans rfl
                have hcz27_6 : wc.cell? ⟨gb350, 6, none⟩ = some (.string a0_6) := (blk_cell BK350.out 6).trans rfl
                have hfz27_0 := blk_frozen BK350.out 0
                have hfz27_1 := blk_frozen BK350.out 1
                have hfz27_2 := blk_frozen BK350.out 2
                have hfz27_3 := blk_frozen BK350.out 3
                have hfz27_4 := blk_frozen BK350.out 4
                have hfz27_5 := blk_frozen BK350.out 5
                have hfz27_6 := blk_frozen BK350.out 6
                go_wp2
                go_ret
                exact ⟨by first | rfl | (simp [errW_none, errW_some] <;> rfl) | (simp [*, errW_none, errW_some] <;> rfl), by repeat (first | (with_reducible first | exact HB.out | apply below_alloc | apply pw_below_drewN | apply below_drew1 | refine below_set ?_ GE350.out) | exact HB.out)⟩
            · rw [if_neg c24] at H
              have c24b0 : (a0_3 == 0) = false := beq_eq_false_iff_ne.mpr c24
              have c24b1 : (a0_3 != 0) = true := bne_iff_ne.mpr c24
              obtain rfl := Option.some.inj H
              have hcz28_0 : wc.cell? ⟨gb350, 0, none⟩ = some (.int .i64 a0_0) := (blk_cell BK350.out 0).trans rfl
              have hcz28_1 : wc.cell? ⟨gb350, 1, none⟩ = some (.int .i64 a0_1) := (blk_cell BK350.out 1).trans rfl
              have hcz28_2 : wc.cell? ⟨gb350, 2, none⟩ = some (.int .i64 a0_2) := (blk_cell BK350.out 2).trans rfl
              have hcz28_3 : wc.cell? ⟨gb350, 3, none⟩ = some (.int .i64 a0_3) := (blk_cell BK350.out 3).trans rfl
              have hcz28_4 : wc.cell? ⟨gb350, 4, none⟩ = some (.int .i64 a0_4) := (blk_cell BK350.out 4).trans rfl
              have hcz28_5 : wc.cell? ⟨gb350, 5, none⟩ = some (.int .i64 a0_5) := (blk_cell BK350.out 5).trans rfl
              have hcz28_6 : wc.cell? ⟨gb350, 6, none⟩ = some (.string a0_6) := (blk_cell BK350.out 6).trans rfl
              have hfz28_0 := blk_frozen BK350.out 0
              have hfz28_1 := blk_frozen BK350.out 1
              have hfz28_2 := blk_frozen BK350.out 2
              have hfz28_3 := blk_frozen BK350.out 3
              have hfz28_4 := blk_frozen BK350.out 4
              have hfz28_5 := blk_frozen BK350.out 5
              have hfz28_6 := blk_frozen BK350.out 6
              go_wp2
              go_ret
              exact ⟨by first | rfl | (simp [errW_none, errW_some] <;> rfl) | (simp [*, errW_none, errW_some] <;> rfl), by repeat (first | (with_reducible first | exact HB.out | apply below_alloc | apply pw_below_drewN | apply below_drew1 | refine below_set ?_ GE350.out) | exact HB.out)⟩
          · replace c23 := Bool.eq_false_iff.mpr c23
            subst c23
            have H1 : (some false) = some r := by rw [if_neg (show ¬ (false = true) by decide)] at H; exact H
            clear H
            have H := H1
            clear H1
            obtain rfl := Option.some.inj H
            have hcz29_0 : wc.cell? ⟨gb350, 0, none⟩ = some (.int .i64 a0_0) := (blk_cell BK350.out 0).trans rfl
            have hcz29_1 : wc.cell? ⟨gb350, 1, none⟩ = some (.int .i64 a0_1) := (blk_cell BK350.out 1).trans rfl
            have hcz29_2 : wc.cell? ⟨gb350, 2, none⟩ = some (.int .i64 a0_2) := (blk_cell BK350.out 2).trans rfl
            have hcz29_3 : wc.cell? ⟨gb350, 3, none⟩ = some (.int .i64 a0_3) := (blk_cell BK350.out 3).trans rfl
            have hcz29_4 : wc.cell? ⟨gb350, 4, none⟩ = some (.int .i64 a0_4) := (blk_cell BK350.out 4).trans rfl
            have hcz29_5 : wc.cell? ⟨gb350, 5, none⟩ = some (.int .i64 a0_5) := (blk_cell BK350.out 5).trans rfl
            have hcz29_6 : wc.cell? ⟨gb350, 6, none⟩ = some (.string a0_6) := (blk_cell BK350.out 6).trans rfl
            have hfz29_0 := blk_frozen BK350.out 0
            have hfz29_1 := blk_frozen BK350.out 1
            have hfz29_2 := blk_frozen BK350.out 2
            have hfz29_3 := blk_frozen BK350.out 3
            have hfz29_4 := blk_frozen BK350.out 4
            have hfz29_5 := blk_frozen BK350.out 5
            have hfz29_6 := blk_frozen BK350.out 6
            go_wp2
            go_ret
            exact ⟨by first | rfl | (simp [errW_none, errW_some] <;> rfl) | (simp [*, errW_none, errW_some] <;> rfl), by repeat (first | (with_reducible first | exact HB.out | apply below_alloc | apply pw_below_drewN | apply below_drew1 | refine below_set ?_ GE350.out) | exact HB.out)⟩
        · rw [if_neg c22] at H
          have c22b0 : (a0_0 == 17) = false := beq_eq_false_iff_ne.mpr c22
          have c22b1 : (a0_0 != 17) = true := bne_iff_ne.mpr c22
          obtain rfl := Option.some.inj H
          have hcz30_0 : wc.cell? ⟨gb350, 0, none⟩ = some (.int .i64 a0_0) := (blk_cell BK350.out 0).trans rfl
          have hcz30_1 : wc.cell? ⟨gb350, 1, none⟩ = some (.int .i64 a0_1) := (blk_cell BK350.out 1).trans rfl
          have hcz30_2 : wc.cell? ⟨gb350, 2, none⟩ = some (.int .i64 a0_2) := (blk_cell BK350.out 2).trans rfl
          have hcz30_3 : wc.cell? ⟨gb350, 3, none⟩ = some (.int .i64 a0_3) := (blk_cell BK350.out 3).trans rfl
          have hcz30_4 : wc.cell? ⟨gb350, 4, none⟩ = some (.int .i64 a0_4) := (blk_cell BK350.out 4).trans rfl
          have hcz30_5 : wc.cell? ⟨gb350, 5, none⟩ = some (.int .i64 a0_5) := (blk_cell BK350.out 5).trans rfl
          have hcz30_6 : wc.cell? ⟨gb350, 6, none⟩ = some (.string a0_6) := (blk_cell BK350.out 6).trans rfl
          have hfz30_0 := blk_frozen BK350.out 0
          have hfz30_1 := blk_frozen BK350.out 1
          have hfz30_2 := blk_frozen BK350.out 2
          have hfz30_3 := blk_frozen BK350.out 3
          have hfz30_4 := blk_frozen BK350.out 4
          have hfz30_5 := blk_frozen BK350.out 5
          have hfz30_6 := blk_frozen BK350.out 6
          go_wp2
          go_ret
          exact ⟨by first | rfl | (simp [errW_none, errW_some] <;> rfl) | (simp [*, errW_none, errW_some] <;> rfl), by repeat (first | (with_reducible first | exact HB.out | apply below_alloc | apply pw_below_drewN | apply below_drew1 | refine below_set ?_ GE350.out) | exact HB.out)⟩

end Go.Proofs.Ytobhmonmeocfmaa.PA
