-- printed by a program of this session (myprint.py) out of the translation
import Derived.Test.YtobhmonmeocfmaaFAM0
namespace Go.Proofs.Ytobhmonmeocfmaa.PA
open Go.RowKit Go.Proofs.YtobhmonmeocfmaaW.PrintWords Go.Proofs.YtobhmonmeocfmaaW.PrintLast Go.Proofs.YtobhmonmeocfmaaW.PrintMore
attribute [local go_sem] max2_int min2_int max_two min_two max_three min_three max_four min_four   -- for this text's walks alone
set_option linter.unusedVariables false
set_option linter.unusedSimpArgs false

/-! ### wharfageref1_SegMay: function 34 -/
def wharfageref1_SegMay.j0 : Nat → Bool → Int → Int → Int → Int → Int → Int → ByteArray → Option (Bool)
  | 0, _, _, _, _, _, _, _, _ => none
  | k + 1, x18, x414000, x414001, x414002, x414003, x414004, x414005, x414006 => if x18 = true then (some false) else (if x414000 = 17 then (if x414003 = 0 then (if x414004 = 0 then (some (x414005 == 0)) else (some false)) else (some false)) else (if x414000 = 6 then ((wharfageref1_within.f x414003 32).bind fun t416 => (if t416 = true then ((wharfageref1_within.f x414004 32).bind fun t417 => (if t417 = true then ((wharfageref1_within.f x414005 6).bind fun t418 => (some t418)) else (some false))) else (some false))) else (some false)))
def wharfageref1_SegMay.f (k : Nat) (a0_0 : Int) (a0_1 : Int) (a0_2 : Int) (a0_3 : Int) (a0_4 : Int) (a0_5 : Int) (a0_6 : ByteArray) : Option (Bool) := (wharfageref1_within.f a0_1 16).bind fun t414 => (if t414 = true then ((wharfageref1_within.f a0_2 16).bind fun t415 => (if t415 = true then (wharfageref1_SegMay.j0 k (decide ((a0_6.size : Int) > 256)) a0_0 a0_1 a0_2 a0_3 a0_4 a0_5 a0_6) else (wharfageref1_SegMay.j0 k true a0_0 a0_1 a0_2 a0_3 a0_4 a0_5 a0_6))) else (wharfageref1_SegMay.j0 k true a0_0 a0_1 a0_2 a0_3 a0_4 a0_5 a0_6))
theorem wharfageref1_SegMay.mono_l : ∀ k, (∀ y0 y1 y2 y3 y4 y5 y6 y7, LeO (wharfageref1_SegMay.j0 k y0 y1 y2 y3 y4 y5 y6 y7) (wharfageref1_SegMay.j0 (k + 1) y0 y1 y2 y3 y4 y5 y6 y7))
  | 0 => fun _ _ _ _ _ _ _ _ r h => by simp [wharfageref1_SegMay.j0] at h
  | k + 1 => by
    have ih0 := wharfageref1_SegMay.mono_l k
    · intro y0 y1 y2 y3 y4 y5 y6 y7
      unfold wharfageref1_SegMay.j0
      repeat' first
      | (with_reducible exact ih0 _ _ _ _ _ _ _ _)
      | (with_reducible exact LeO.refl _)
      | (with_reducible exact LeO.none _)
      | (with_reducible refine LeO.ite ?_ ?_)
      | (with_reducible refine LeO.bind ?_ (fun _ => ?_))
      | exact ih0 _ _ _ _ _ _ _ _
      | exact LeO.none _
      | refine LeO.ite ?_ ?_
      | refine LeO.bind ?_ (fun _ => ?_)
theorem wharfageref1_SegMay.mono : ∀ a0 a1 a2 a3 a4 a5 a6 k, LeO (wharfageref1_SegMay.f k a0 a1 a2 a3 a4 a5 a6) (wharfageref1_SegMay.f (k + 1) a0 a1 a2 a3 a4 a5 a6) := by
  intro a0 a1 a2 a3 a4 a5 a6 k
  have ih0 := wharfageref1_SegMay.mono_l k
  unfold wharfageref1_SegMay.f
  repeat' first
      | (with_reducible exact ih0 _ _ _ _ _ _ _ _)
      | (with_reducible exact LeO.refl _)
      | (with_reducible exact LeO.none _)
      | (with_reducible refine LeO.ite ?_ ?_)
      | (with_reducible refine LeO.bind ?_ (fun _ => ?_))
      | exact ih0 _ _ _ _ _ _ _ _
      | exact LeO.none _
      | refine LeO.ite ?_ ?_
      | refine LeO.bind ?_ (fun _ => ?_)
set_option maxHeartbeats 8000000 in
set_option maxRecDepth 100000 in
theorem wharfageref1_SegMay.calls (k : Nat) (a0_0 : Int) (a0_1 : Int) (a0_2 : Int) (a0_3 : Int) (a0_4 : Int) (a0_5 : Int) (a0_6 : ByteArray) (r : Bool) (w : World) (h : wharfageref1_SegMay.f k a0_0 a0_1 a0_2 a0_3 a0_4 a0_5 a0_6 = some r) :
    Calls Try.prog 34 #[.agg #[.int .i64 a0_0, .int .i64 a0_1, .int .i64 a0_2, .int .i64 a0_3, .int .i64 a0_4, .int .i64 a0_5, .string a0_6]] w fun e w' => e = .returned (.bool r) ∧ Below w.heap.size w w' := by
  have hu44 := Try.underlying44
  have HB := Aside0.mk (Below.refl w.heap.size w)
  have H : ((wharfageref1_within.f a0_1 16).bind fun t414 => (if t414 = true then ((wharfageref1_within.f a0_2 16).bind fun t415 => (if t415 = true then (wharfageref1_SegMay.j0 k (decide ((a0_6.size : Int) > 256)) a0_0 a0_1 a0_2 a0_3 a0_4 a0_5 a0_6) else (wharfageref1_SegMay.j0 k true a0_0 a0_1 a0_2 a0_3 a0_4 a0_5 a0_6))) else (wharfageref1_SegMay.j0 k true a0_0 a0_1 a0_2 a0_3 a0_4 a0_5 a0_6))) = some r := h
  clear h
  have HC2 := Aside0.mk H
  clear H
  go_enter Try.func34, Try.ntmps34
  go_upto_region 1 with (first | ((with_reducible refine gate_dst (N := 1) rfl ?_); (try (refine gate_guard (by rfl) ?_; dsimp only)); refine box_event ?hg (N := 1) ?hd (cs := #[.int .i64 a0_0, .int .i64 a0_1, .int .i64 a0_2, .int .i64 a0_3, .int .i64 a0_4, .int .i64 a0_5, .string a0_6]) (t := 44) ?hr ?_; (case hd => rfl); (case hg => rfl); (case hr => first | (go_simp; done) | (go_simp; rfl)); intro gb413 hg w3 hbox hb; have n0_ := Aside0.mk (below_step (by repeat (first | (with_reducible first | exact HB.out | apply below_alloc | apply pw_below_drewN | apply below_drew1) | exact HB.out)) hb); have n1_ := Aside0.mk (hbox); have n2_ := Aside0.mk ((by rw [hg]; exact (below_size (by repeat (first | (with_reducible first | exact HB.out | apply below_alloc | apply pw_below_drewN | apply below_drew1) | exact HB.out))) : w.heap.size ≤ gb413)); have n3_ := Aside0.mk ((by rw [hg]; exact (below_size (by repeat (first | (with_reducible first | exact HB.out | apply below_alloc | apply pw_below_drewN | apply below_drew1) | exact HB.out))) : w.heap.size ≤ gb413)); clear HB; have HB := n0_; have BK413 := n1_; have GW413 := n2_; have GE413 := n3_; clear n0_ n1_ n2_ n3_; clear hb hbox hg))
  (try simp only [Act.put, List.setIfInBounds_toArray, List.set_cons_zero, List.set_cons_succ])
  go_cut [18] (fun v18 wc => ∃ (kq : Nat) (x18_1 : Bool), v18 = .bool x18_1 ∧ Aside0 (wharfageref1_SegMay.j0 kq x18_1 a0_0 a0_1 a0_2 a0_3 a0_4 a0_5 a0_6 = some r) ∧ Aside0 (kq ≤ k) ∧ Aside0 (wc.heap[gb413]? = some (.cells #[.int .i64 a0_0, .int .i64 a0_1, .int .i64 a0_2, .int .i64 a0_3, .int .i64 a0_4, .int .i64 a0_5, .string a0_6] 44 (0, 0))) ∧ Aside0 (Below w.heap.size w wc))
  case first =>
    have H := HC2.out
    clear HC2
    replace H := Option.bind_eq_some_iff.mp H
    obtain ⟨t414, A40, H⟩ := H
    replace H : (if t414 = true then ((wharfageref1_within.f a0_2 16).bind fun t415 => (if t415 = true then (wharfageref1_SegMay.j0 k (decide ((a0_6.size : Int) > 256)) a0_0 a0_1 a0_2 a0_3 a0_4 a0_5 a0_6) else (wharfageref1_SegMay.j0 k true a0_0 a0_1 a0_2 a0_3 a0_4 a0_5 a0_6))) else (wharfageref1_SegMay.j0 k true a0_0 a0_1 a0_2 a0_3 a0_4 a0_5 a0_6)) = some r := H
    have A4 := Aside0.mk A40
    clear A40
    by_cases c5 : t414 = true
    · subst c5
      have H1 : ((wharfageref1_within.f a0_2 16).bind fun t415 => (if t415 = true then (wharfageref1_SegMay.j0 k (decide ((a0_6.size : Int) > 256)) a0_0 a0_1 a0_2 a0_3 a0_4 a0_5 a0_6) else (wharfageref1_SegMay.j0 k true a0_0 a0_1 a0_2 a0_3 a0_4 a0_5 a0_6))) = some r := by rw [if_pos rfl] at H; exact H
      clear H
      have H := H1
      clear H1
      replace H := Option.bind_eq_some_iff.mp H
      obtain ⟨t415, A60, H⟩ := H
      replace H : (if t415 = true then (wharfageref1_SegMay.j0 k (decide ((a0_6.size : Int) > 256)) a0_0 a0_1 a0_2 a0_3 a0_4 a0_5 a0_6) else (wharfageref1_SegMay.j0 k true a0_0 a0_1 a0_2 a0_3 a0_4 a0_5 a0_6)) = some r := H
      have A6 := Aside0.mk A60
      clear A60
      by_cases c7 : t415 = true
      · subst c7
        have H1 : (wharfageref1_SegMay.j0 k (decide ((a0_6.size : Int) > 256)) a0_0 a0_1 a0_2 a0_3 a0_4 a0_5 a0_6) = some r := by rw [if_pos rfl] at H; exact H
        clear H
        have H := H1
        clear H1
        have H' := Aside0.mk H
        clear H
        have hcz8_0 : w3.cell? ⟨gb413, 0, none⟩ = some (.int .i64 a0_0) := (blk_cell BK413.out 0).trans rfl
        have hcz8_1 : w3.cell? ⟨gb413, 1, none⟩ = some (.int .i64 a0_1) := (blk_cell BK413.out 1).trans rfl
        have hcz8_2 : w3.cell? ⟨gb413, 2, none⟩ = some (.int .i64 a0_2) := (blk_cell BK413.out 2).trans rfl
        have hcz8_3 : w3.cell? ⟨gb413, 3, none⟩ = some (.int .i64 a0_3) := (blk_cell BK413.out 3).trans rfl
        have hcz8_4 : w3.cell? ⟨gb413, 4, none⟩ = some (.int .i64 a0_4) := (blk_cell BK413.out 4).trans rfl
        have hcz8_5 : w3.cell? ⟨gb413, 5, none⟩ = some (.int .i64 a0_5) := (blk_cell BK413.out 5).trans rfl
        have hcz8_6 : w3.cell? ⟨gb413, 6, none⟩ = some (.string a0_6) := (blk_cell BK413.out 6).trans rfl
        have hfz8_0 := blk_frozen BK413.out 0
        have hfz8_1 := blk_frozen BK413.out 1
        have hfz8_2 := blk_frozen BK413.out 2
        have hfz8_3 := blk_frozen BK413.out 3
        have hfz8_4 := blk_frozen BK413.out 4
        have hfz8_5 := blk_frozen BK413.out 5
        have hfz8_6 := blk_frozen BK413.out 6
        go_wp2_with (first | ((with_reducible refine gate_callee (f := 58) rfl ?_); refine goesL_ (some 5) rfl rfl Try.func58 (by kernel_rfl) rfl #[.int .i64 a0_1, .int .i64 16] rfl (by (try simp only [List.map_toArray, List.map_cons, List.map_nil]); first | done | rfl | (simp only [List.length_drop, List.length_take]; rfl)) ?_; (with_reducible refine (wharfageref1_within.calls a0_1 16 true _ A4.out).mono ?_); rintro e w' ⟨rfl, ⟨nd, rfl⟩⟩; refine ⟨_, rfl, ?_⟩) | (go_at_call 58; (with_reducible refine (wharfageref1_within.calls a0_2 16 true _ A6.out).mono ?_); rintro e w' ⟨rfl, ⟨nd, rfl⟩⟩))
        go_meet
        case rel => exact ⟨_, (decide ((a0_6.size : Int) > 256)), (by first | rfl | (simp; done) | (simp [*]; done)), H', ⟨by first | omega | exact Nat.le_refl _⟩, ⟨by (with_reducible repeat (first | refine blk_drewN ?_ _ | refine blk_drew ?_ | refine blk_alloc ?_ _)); exact BK413.out⟩, ⟨by repeat (first | (with_reducible first | exact HB.out | apply below_alloc | apply pw_below_drewN | apply below_drew1 | refine below_set ?_ GE413.out) | exact HB.out)⟩⟩
      · replace c7 := Bool.eq_false_iff.mpr c7
        subst c7
        have H1 : (wharfageref1_SegMay.j0 k true a0_0 a0_1 a0_2 a0_3 a0_4 a0_5 a0_6) = some r := by rw [if_neg (show ¬ (false = true) by decide)] at H; exact H
        clear H
        have H := H1
        clear H1
        have H' := Aside0.mk H
        clear H
        have hcz9_0 : w3.cell? ⟨gb413, 0, none⟩ = some (.int .i64 a0_0) := (blk_cell BK413.out 0).trans rfl
        have hcz9_1 : w3.cell? ⟨gb413, 1, none⟩ = some (.int .i64 a0_1) := (blk_cell BK413.out 1).trans rfl
        have hcz9_2 : w3.cell? ⟨gb413, 2, none⟩ = some (.int .i64 a0_2) := (blk_cell BK413.out 2).trans rfl
        have hcz9_3 : w3.cell? ⟨gb413, 3, none⟩ = some (.int .i64 a0_3) := (blk_cell BK413.out 3).trans rfl
        have hcz9_4 : w3.cell? ⟨gb413, 4, none⟩ = some (.int .i64 a0_4) := (blk_cell BK413.out 4).trans rfl
        have hcz9_5 : w3.cell? ⟨gb413, 5, none⟩ = some (.int .i64 a0_5) := (blk_cell BK413.out 5).trans rfl
        have hcz9_6 : w3.cell? ⟨gb413, 6, none⟩ = some (.string a0_6) := (blk_cell BK413.out 6).trans rfl
        have hfz9_0 := blk_frozen BK413.out 0
        have hfz9_1 := blk_frozen BK413.out 1
        have hfz9_2 := blk_frozen BK413.out 2
        have hfz9_3 := blk_frozen BK413.out 3
        have hfz9_4 := blk_frozen BK413.out 4
        have hfz9_5 := blk_frozen BK413.out 5
        have hfz9_6 := blk_frozen BK413.out 6
        go_wp2_with (first | ((with_reducible refine gate_callee (f := 58) rfl ?_); refine goesL_ (some 5) rfl rfl Try.func58 (by kernel_rfl) rfl #[.int .i64 a0_1, .int .i64 16] rfl (by (try simp only [List.map_toArray, List.map_cons, List.map_nil]); first | done | rfl | (simp only [List.length_drop, List.length_take]; rfl)) ?_; (with_reducible refine (wharfageref1_within.calls a0_1 16 true _ A4.out).mono ?_); rintro e w' ⟨rfl, ⟨nd, rfl⟩⟩; refine ⟨_, rfl, ?_⟩) | (go_at_call 58; (with_reducible refine (wharfageref1_within.calls a0_2 16 false _ A6.out).mono ?_); rintro e w' ⟨rfl, ⟨nd, rfl⟩⟩))
        go_meet
        case rel => exact ⟨_, (true), (by first | rfl | (simp; done) | (simp [*]; done)), H', ⟨by first | omega | exact Nat.le_refl _⟩, ⟨by (with_reducible repeat (first | refine blk_drewN ?_ _ | refine blk_drew ?_ | refine blk_alloc ?_ _)); exact BK413.out⟩, ⟨by repeat (first | (with_reducible first | exact HB.out | apply below_alloc | apply pw_below_drewN | apply below_drew1 | refine below_set ?_ GE413.out) | exact HB.out)⟩⟩
    · replace c5 := Bool.eq_false_iff.mpr c5
      subst c5
      have H1 : (wharfageref1_SegMay.j0 k true a0_0 a0_1 a0_2 a0_3 a0_4 a0_5 a0_6) = some r := by rw [if_neg (show ¬ (false = true) by decide)] at H; exact H
      clear H
      have H := H1
      clear H1
      have H' := Aside0.mk H
      clear H
      have hcz10_0 : w3.cell? ⟨gb413, 0, none⟩ = some (.int .i64 a0_0) := (blk_cell BK413.out 0).trans rfl
      have hcz10_1 : w3.cell? ⟨gb413, 1, none⟩ = some (.int .i64 a0_1) := (blk_cell BK413.out 1).trans rfl
      have hcz10_2 : w3.cell? ⟨gb413, 2, none⟩ = some (.int .i64 a0_2) := (blk_cell BK413.out 2).trans rfl
      have hcz10_3 : w3.cell? ⟨gb413, 3, none⟩ = some (.int .i64 a0_3) := (blk_cell BK413.out 3).trans rfl
      have hcz10_4 : w3.cell? ⟨gb413, 4, none⟩ = some (.int .i64 a0_4) := (blk_cell BK413.out 4).trans rfl
      have hcz10_5 : w3.cell? ⟨gb413, 5, none⟩ = some (.int .i64 a0_5) := (blk_cell BK413.out 5).trans rfl
      have hcz10_6 : w3.cell? ⟨gb413, 6, none⟩ = some (.string a0_6) := (blk_cell BK413.out 6).trans rfl
      have hfz10_0 := blk_frozen BK413.out 0
      have hfz10_1 := blk_frozen BK413.out 1
      have hfz10_2 := blk_frozen BK413.out 2
      have hfz10_3 := blk_frozen BK413.out 3
      have hfz10_4 := blk_frozen BK413.out 4
      have hfz10_5 := blk_frozen BK413.out 5
      have hfz10_6 := blk_frozen BK413.out 6
      go_wp2_with (first | ((with_reducible refine gate_callee (f := 58) rfl ?_); refine goesL_ (some 5) rfl rfl Try.func58 (by kernel_rfl) rfl #[.int .i64 a0_1, .int .i64 16] rfl (by (try simp only [List.map_toArray, List.map_cons, List.map_nil]); first | done | rfl | (simp only [List.length_drop, List.length_take]; rfl)) ?_; (with_reducible refine (wharfageref1_within.calls a0_1 16 false _ A4.out).mono ?_); rintro e w' ⟨rfl, ⟨nd, rfl⟩⟩; refine ⟨_, rfl, ?_⟩))
      go_meet
      case rel => exact ⟨_, (true), (by first | rfl | (simp; done) | (simp [*]; done)), H', ⟨by first | omega | exact Nat.le_refl _⟩, ⟨by (with_reducible repeat (first | refine blk_drewN ?_ _ | refine blk_drew ?_ | refine blk_alloc ?_ _)); exact BK413.out⟩, ⟨by repeat (first | (with_reducible first | exact HB.out | apply below_alloc | apply pw_below_drewN | apply below_drew1 | refine below_set ?_ GE413.out) | exact HB.out)⟩⟩
  case rest =>
    clear HC2
    try clear p2
    try clear c3
    try clear c5
    try clear c7
    try clear hcz10_0
    try clear hcz10_1
    try clear hcz10_2
    try clear hcz10_3
    try clear hcz10_4
    try clear hcz10_5
    try clear hcz10_6
    try clear hcz8_0
    try clear hcz8_1
    try clear hcz8_2
    try clear hcz8_3
    try clear hcz8_4
    try clear hcz8_5
    try clear hcz8_6
    try clear hcz9_0
    try clear hcz9_1
    try clear hcz9_2
    try clear hcz9_3
    try clear hcz9_4
    try clear hcz9_5
    try clear hcz9_6
    try clear hfz10_0
    try clear hfz10_1
    try clear hfz10_2
    try clear hfz10_3
    try clear hfz10_4
    try clear hfz10_5
    try clear hfz10_6
    try clear hfz8_0
    try clear hfz8_1
    try clear hfz8_2
    try clear hfz8_3
    try clear hfz8_4
    try clear hfz8_5
    try clear hfz8_6
    try clear hfz9_0
    try clear hfz9_1
    try clear hfz9_2
    try clear hfz9_3
    try clear hfz9_4
    try clear hfz9_5
    try clear hfz9_6
    obtain ⟨kq, x18_1, rfl, HA, HJ1, BK413, HB⟩ := hcut
    cases kq with
    | zero => exact absurd HA.out (by simp [wharfageref1_SegMay.j0])
    | succ kj1 =>
      have H := HA.out
      clear HA
      simp only [wharfageref1_SegMay.j0] at H
      by_cases c11 : x18_1 = true
      · subst c11
        have H1 : (some false) = some r := by rw [if_pos rfl] at H; exact H
        clear H
        have H := H1
        clear H1
        obtain rfl := Option.some.inj H
        go_wp2
        go_ret
        exact ⟨by first | rfl | (simp [errW_none, errW_some] <;> rfl) | (simp [*, errW_none, errW_some] <;> rfl), by repeat (first | (with_reducible first | exact HB.out | apply below_alloc | apply pw_below_drewN | apply below_drew1 | refine below_set ?_ GE413.out) | exact HB.out)⟩
      · replace c11 := Bool.eq_false_iff.mpr c11
        subst c11
        have H1 : (if a0_0 = 17 then (if a0_3 = 0 then (if a0_4 = 0 then (some (a0_5 == 0)) else (some false)) else (some false)) else (if a0_0 = 6 then ((wharfageref1_within.f a0_3 32).bind fun t416 => (if t416 = true then ((wharfageref1_within.f a0_4 32).bind fun t417 => (if t417 = true then ((wharfageref1_within.f a0_5 6).bind fun t418 => (some t418)) else (some false))) else (some false))) else (some false))) = some r := by rw [if_neg (show ¬ (false = true) by decide)] at H; exact H
        clear H
        have H := H1
        clear H1
        by_cases c12 : a0_0 = 17
        · rw [if_pos c12] at H
          have c12b0 : (a0_0 == 17) = true := beq_iff_eq.mpr c12
          have c12b1 : (a0_0 != 17) = false := bne_eq_false_iff_eq.mpr c12
          clear c12
          by_cases c13 : a0_3 = 0
          · rw [if_pos c13] at H
            have c13b0 : (a0_3 == 0) = true := beq_iff_eq.mpr c13
            have c13b1 : (a0_3 != 0) = false := bne_eq_false_iff_eq.mpr c13
            clear c13
            by_cases c14 : a0_4 = 0
            · rw [if_pos c14] at H
              have c14b0 : (a0_4 == 0) = true := beq_iff_eq.mpr c14
              have c14b1 : (a0_4 != 0) = false := bne_eq_false_iff_eq.mpr c14
              clear c14
              obtain rfl := Option.some.inj H
              have hcz15_0 : wc.cell? ⟨gb413, 0, none⟩ = some (.int .i64 a0_0) := (blk_cell BK413.out 0).trans rfl
              have hcz15_1 : wc.cell? ⟨gb413, 1, none⟩ = some (.int .i64 a0_1) := (blk_cell BK413.out 1).trans rfl
              have hcz15_2 : wc.cell? ⟨gb413, 2, none⟩ = some (.int .i64 a0_2) := (blk_cell BK413.out 2).trans rfl
              have hcz15_3 : wc.cell? ⟨gb413, 3, none⟩ = some (.int .i64 a0_3) := (blk_cell BK413.out 3).trans rfl
              have hcz15_4 : wc.cell? ⟨gb413, 4, none⟩ = some (.int .i64 a0_4) := (blk_cell BK413.out 4).trans rfl
              have hcz15_5 : wc.cell? ⟨gb413, 5, none⟩ = some (.int .i64 a0_5) := (blk_cell BK413.out 5).trans rfl
              have hcz15_6 : wc.cell? ⟨gb413, 6, none⟩ = some (.string a0_6) := (blk_cell BK413.out 6).trans rfl
              have hfz15_0 := blk_frozen BK413.out 0
              have hfz15_1 := blk_frozen BK413.out 1
              have hfz15_2 := blk_frozen BK413.out 2
              have hfz15_3 := blk_frozen BK413.out 3
              have hfz15_4 := blk_frozen BK413.out 4
              have hfz15_5 := blk_frozen BK413.out 5
              have hfz15_6 := blk_frozen BK413.out 6
              go_wp2
              go_ret
              exact ⟨by first | rfl | (simp [errW_none, errW_some] <;> rfl) | (simp [*, errW_none, errW_some] <;> rfl), by repeat (first | (with_reducible first | exact HB.out | apply below_alloc | apply pw_below_drewN | apply below_drew1 | refine below_set ?_ GE413.out) | exact HB.out)⟩
            · rw [if_neg c14] at H
              have c14b0 : (a0_4 == 0) = false := beq_eq_false_iff_ne.mpr c14
              have c14b1 : (a0_4 != 0) = true := bne_iff_ne.mpr c14
              obtain rfl := Option.some.inj H
              have hcz16_0 : wc.cell? ⟨gb413, 0, none⟩ = some (.int .i64 a0_0) := (blk_cell BK413.out 0).trans rfl
              have hcz16_1 : wc.cell? ⟨gb413, 1, none⟩ = some (.int .i64 a0_1) := (blk_cell BK413.out 1).trans rfl
              have hcz16_2 : wc.cell? ⟨gb413, 2, none⟩ = some (.int .i64 a0_2) := (blk_cell BK413.out 2).trans rfl
              have hcz16_3 : wc.cell? ⟨gb413, 3, none⟩ = some (.int .i64 a0_3) := (blk_cell BK413.out 3).trans rfl
              have hcz16_4 : wc.cell? ⟨gb413, 4, none⟩ = some (.int .i64 a0_4) := (blk_cell BK413.out 4).trans rfl
              have hcz16_5 : wc.cell? ⟨gb413, 5, none⟩ = some (.int .i64 a0_5) := (blk_cell BK413.out 5).trans rfl
              have hcz16_6 : wc.cell? ⟨gb413, 6, none⟩ = some (.string a0_6) := (blk_cell BK413.out 6).trans rfl
              have hfz16_0 := blk_frozen BK413.out 0
              have hfz16_1 := blk_frozen BK413.out 1
              have hfz16_2 := blk_frozen BK413.out 2
              have hfz16_3 := blk_frozen BK413.out 3
              have hfz16_4 := blk_frozen BK413.out 4
              have hfz16_5 := blk_frozen BK413.out 5
              have hfz16_6 := blk_frozen BK413.out 6
              go_wp2
              go_ret
              exact ⟨by first | rfl | (simp [errW_none, errW_some] <;> rfl) | (simp [*, errW_none, errW_some] <;> rfl), by repeat (first | (with_reducible first | exact HB.out | apply below_alloc | apply pw_below_drewN | apply below_drew1 | refine below_set ?_ GE413.out) | exact HB.out)⟩
          · rw [if_neg c13] at H
            have c13b0 : (a0_3 == 0) = false := beq_eq_false_iff_ne.mpr c13
            have c13b1 : (a0_3 != 0) = true := bne_iff_ne.mpr c13
            obtain rfl := Option.some.inj H
            have hcz17_0 : wc.cell? ⟨gb413, 0, none⟩ = some (.int .i64 a0_0) := (blk_cell BK413.out 0).trans rfl
            have hcz17_1 : wc.cell? ⟨gb413, 1, none⟩ = some (.int .i64 a0_1) := (blk_cell BK413.out 1).trans rfl
            have hcz17_2 : wc.cell? ⟨gb413, 2, none⟩ = some (.int .i64 a0_2) := (blk_cell BK413.out 2).trans rfl
            have hcz17_3 : wc.cell? ⟨gb413, 3, none⟩ = some (.int .i64 a0_3) := (blk_cell BK413.out 3).trans rfl
            have hcz17_4 : wc.cell? ⟨gb413, 4, none⟩ = some (.int .i64 a0_4) := (blk_cell BK413.out 4).trans rfl
            have hcz17_5 : wc.cell? ⟨gb413, 5, none⟩ = some (.int .i64 a0_5) := (blk_cell BK413.out 5).trans rfl
            have hcz17_6 : wc.cell? ⟨gb413, 6, none⟩ = some (.string a0_6) := (blk_cell BK413.out 6).trans rfl
            have hfz17_0 := blk_frozen BK413.out 0
            have hfz17_1 := blk_frozen BK413.out 1
            have hfz17_2 := blk_frozen BK413.out 2
            have hfz17_3 := blk_frozen BK413.out 3
            have hfz17_4 := blk_frozen BK413.out 4
            have hfz17_5 := blk_frozen BK413.out 5
            have hfz17_6 := blk_frozen BK413.out 6
            go_wp2
            go_ret
            exact ⟨by first | rfl | (simp [errW_none, errW_some] <;> rfl) | (simp [*, errW_none, errW_some] <;> rfl), by repeat (first | (with_reducible first | exact HB.out | apply below_alloc | apply pw_below_drewN | apply below_drew1 | refine below_set ?_ GE413.out) | exact HB.out)⟩
        · rw [if_neg c12] at H
          have c12b0 : (a0_0 == 17) = false := beq_eq_false_iff_ne.mpr c12
          have c12b1 : (a0_0 != 17) = true := bne_iff_ne.mpr c12
          by_cases c18 : a0_0 = 6
          · rw [if_pos c18] at H
            have c18b0 : (a0_0 == 6) = true := beq_iff_eq.mpr c18
            have c18b1 : (a0_0 != 6) = false := bne_eq_false_iff_eq.mpr c18
            clear c18
            replace H := Option.bind_eq_some_iff.mp H
            obtain ⟨t416, A190, H⟩ := H
            replace H : (if t416 = true then ((wharfageref1_within.f a0_4 32).bind fun t417 => (if t417 = true then ((wharfageref1_within.f a0_5 6).bind fun t418 => (some t418)) else (some false))) else (some false)) = some r := H
            have A19 := Aside0.mk A190
            clear A190
            by_cases c20 : t416 = true
            · subst c20
              have H1 : ((wharfageref1_within.f a0_4 32).bind fun t417 => (if t417 = true then ((wharfageref1_within.f a0_5 6).bind fun t418 => (some t418)) else (some false))) = some r := by rw [if_pos rfl] at H; exact H
              clear H
              have H := H1
              clear H1
              replace H := Option.bind_eq_some_iff.mp H
              obtain ⟨t417, A210, H⟩ := H
              replace H : (if t417 = true then ((wharfageref1_within.f a0_5 6).bind fun t418 => (some t418)) else (some false)) = some r := H
              have A21 := Aside0.mk A210
              clear A210
              by_cases c22 : t417 = true
              · subst c22
                have H1 : ((wharfageref1_within.f a0_5 6).bind fun t418 => (some t418)) = some r := by rw [if_pos rfl] at H; exact H
                clear H
                have H := H1
                clear H1
                replace H := Option.bind_eq_some_iff.mp H
                obtain ⟨t418, A230, H⟩ := H
                replace H : (some t418) = some r := H
                have A23 := Aside0.mk A230
                clear A230
                obtain rfl := Option.some.inj H
                have hcz24_0 : wc.cell? ⟨gb413, 0, none⟩ = some (.int .i64 a0_0) := (blk_cell BK413.out 0).trans rfl
                have hcz24_1 : wc.cell? ⟨gb413, 1, none⟩ = some (.int .i64 a0_1) := (blk_cell BK413.out 1).trans rfl
                have hcz24_2 : wc.cell? ⟨gb413, 2, none⟩ = some (.int .i64 a0_2) := (blk_cell BK413.out 2).trans rfl
                have hcz24_3 : wc.cell? ⟨gb413, 3, none⟩ = some (.int .i64 a0_3) := (blk_cell BK413.out 3).trans rfl
                have hcz24_4 : wc.cell? ⟨gb413, 4, none⟩ = some (.int .i64 a0_4) := (blk_cell BK413.out 4).trans rfl
                have hcz24_5 : wc.cell? ⟨gb413, 5, none⟩ = some (.int .i64 a0_5) := (blk_cell BK413.out 5).trans rfl
                have hcz24_6 : wc.cell? ⟨gb413, 6, none⟩ = some (.string a0_6) := (blk_cell BK413.out 6).trans rfl
                have hfz24_0 := blk_frozen BK413.out 0
                have hfz24_1 := blk_frozen BK413.out 1
                have hfz24_2 := blk_frozen BK413.out 2
                have hfz24_3 := blk_frozen BK413.out 3
                have hfz24_4 := blk_frozen BK413.out 4
                have hfz24_5 := blk_frozen BK413.out 5
                have hfz24_6 := blk_frozen BK413.out 6
                go_wp2_with (first | (go_at_call 58; (with_reducible refine (wharfageref1_within.calls a0_3 32 true _ A19.out).mono ?_); rintro e w' ⟨rfl, ⟨nd, rfl⟩⟩) | (go_at_call 58; (with_reducible refine (wharfageref1_within.calls a0_4 32 true _ A21.out).mono ?_); rintro e w' ⟨rfl, ⟨nd, rfl⟩⟩) | (go_at_call 58; (with_reducible refine (wharfageref1_within.calls a0_5 6 t418 _ A23.out).mono ?_); rintro e w' ⟨rfl, ⟨nd, rfl⟩⟩))
                go_ret
                exact ⟨by first | rfl | (simp [errW_none, errW_some] <;> rfl) | (simp [*, errW_none, errW_some] <;> rfl), by repeat (first | (with_reducible first | exact HB.out | apply below_alloc | apply pw_below_drewN | apply below_drew1 | refine below_set ?_ GE413.out) | exact HB.out)⟩
              · replace c22 := Bool.eq_false_iff.mpr c22
                subst c22
                have H1 : (some false) = some r := by rw [if_neg (show ¬ (false = true) by decide)] at H; exact H
                clear H
                have H := H1
                clear H1
                obtain rfl := Option.some.inj H
                have hcz25_0 : wc.cell? ⟨gb413, 0, none⟩ = some (.int .i64 a0_0) := (blk_cell BK413.out 0).trans rfl
                have hcz25_1 : wc.cell? ⟨gb413, 1, none⟩ = some (.int .i64 a0_1) := (blk_cell BK413.out 1).trans rfl
                have hcz25_2 : wc.cell? ⟨gb413, 2, none⟩ = some (.int .i64 a0_2) := (blk_cell BK413.out 2).trans rfl
                have hcz25_3 : wc.cell? ⟨gb413, 3, none⟩ = some (.int .i64 a0_3) := (blk_cell BK413.out 3).trans rfl
                have hcz25_4 : wc.cell? ⟨gb413, 4, none⟩ = some (.int .i64 a0_4) := (blk_cell BK413.out 4).trans rfl
                have hcz25_5 : wc.cell? ⟨gb413, 5, none⟩ = some (.int .i64 a0_5) := (blk_cell BK413.out 5).trans rfl
                have hcz25_6 : wc.cell? ⟨gb413, 6, none⟩ = some (.string a0_6) := (blk_cell BK413.out 6).trans rfl
                have hfz25_0 := blk_frozen BK413.out 0
                have hfz25_1 := blk_frozen BK413.out 1
                have hfz25_2 := blk_frozen BK413.out 2
                have hfz25_3 := blk_frozen BK413.out 3
                have hfz25_4 := blk_frozen BK413.out 4
                have hfz25_5 := blk_frozen BK413.out 5
                have hfz25_6 := blk_frozen BK413.out 6
                go_wp2_with (first | (go_at_call 58; (with_reducible refine (wharfageref1_within.calls a0_3 32 true _ A19.out).mono ?_); rintro e w' ⟨rfl, ⟨nd, rfl⟩⟩) | (go_at_call 58; (with_reducible refine (wharfageref1_within.calls a0_4 32 false _ A21.out).mono ?_); rintro e w' ⟨rfl, ⟨nd, rfl⟩⟩))
                go_ret
                exact ⟨by first | rfl | (simp [errW_none, errW_some] <;> rfl) | (simp [*, errW_none, errW_some] <;> rfl), by repeat (first | (with_reducible first | exact HB.out | apply below_alloc | apply pw_below_drewN | apply below_drew1 | refine below_set ?_ GE413.out) | exact HB.out)⟩
            · replace c20 := Bool.eq_false_iff.mpr c20
              subst c20
              have H1 : (some false) = some r := by rw [if_neg (show ¬ (false = true) by decide)] at H; exact H
              clear H
              have H := H1
              clear H1
              obtain rfl := Option.some.inj H
              have hcz26_0 : wc.cell? ⟨gb413, 0, none⟩ = some (.int .i64 a0_0) := (blk_cell BK413.out 0).trans rfl
              have hcz26_1 : wc.cell? ⟨gb413, 1, none⟩ = some (.int .i64 a0_1) := (blk_cell BK413.out 1).trans rfl
              have hcz26_2 : wc.cell? ⟨gb413, 2, none⟩ = some (.int .i64 a0_2) := (blk_cell BK413.out 2).trans rfl
              have hcz26_3 : wc.cell? ⟨gb413, 3, none⟩ = some (.int .i64 a0_3) := (blk_cell BK413.out 3).trans rfl
              have hcz26_4 : wc.cell? ⟨gb413, 4, none⟩ = some (.int .i64 a0_4) := (blk_cell BK413.out 4).trans rfl
              have hcz26_5 : wc.cell? ⟨gb413, 5, none⟩ = some (.int .i64 a0_5) := (blk_cell BK413.out 5).trans rfl
              have hcz26_6 : wc.cell? ⟨gb413, 6, none⟩ = some (.string a0_6) := (blk_cell BK413.out 6).trans rfl
              have hfz26_0 := blk_frozen BK413.out 0
              have hfz26_1 := blk_frozen BK413.out 1
              have hfz26_2 := blk_frozen BK413.out 2
              have hfz26_3 := blk_frozen BK413.out 3
              have hfz26_4 := blk_frozen BK413.out 4
              have hfz26_5 := blk_frozen BK413.out 5
              have hfz26_6 := blk_frozen BK413.out 6
              go_wp2_with (first | (go_at_call 58; (with_reducible refine (wharfageref1_within.calls a0_3 32 false _ A19.out).mono ?_); rintro e w' ⟨rfl, ⟨nd, rfl⟩⟩))
              go_ret
              exact ⟨by first | rfl | (simp [errW_none, errW_some] <;> rfl) | (simp [*, errW_none, errW_some] <;> rfl), by repeat (first | (with_reducible first | exact HB.out | apply below_alloc | apply pw_below_drewN | apply below_drew1 | refine below_set ?_ GE413.out) | exact HB.out)⟩
          · rw [if_neg c18] at H
            have c18b0 : (a0_0 == 6) = false := beq_eq_false_iff_ne.mpr c18
            have c18b1 : (a0_0 != 6) = true := bne_iff_ne.mpr c18
            obtain rfl := Option.some.inj H
            have hcz27_0 : wc.cell? ⟨gb413, 0, none⟩ = some (.int .i64 a0_0) := (blk_cell BK413.out 0).trans rfl
            have hcz27_1 : wc.cell? ⟨gb413, 1, none⟩ = some (.int .i64 a0_1) := (blk_cell BK413.out 1).trans rfl
            have hcz27_2 : wc.cell? ⟨gb413, 2, none⟩ = some (.int .i64 a0_2) := (blk_cell BK413.out 2).trans rfl
            have hcz27_3 : wc.cell? ⟨gb413, 3, none⟩ = some (.int .i64 a0_3) := (blk_cell BK413.out 3).trans rfl
            have hcz27_4 : wc.cell? ⟨gb413, 4, none⟩ = some (.int .i64 a0_4) := (blk_cell BK413.out 4).trans rfl
            have hcz27_5 : wc.cell? ⟨gb413, 5, none⟩ = some (.int .i64 a0_5) := (blk_cell BK413.out 5).trans rfl
            have hcz27_6 : wc.cell? ⟨gb413, 6, none⟩ = some (.string a0_6) := (blk_cell BK413.out 6).trans rfl
            have hfz27_0 := blk_frozen BK413.out 0
            have hfz27_1 := blk_frozen BK413.out 1
            have hfz27_2 := blk_frozen BK413.out 2
            have hfz27_3 := blk_frozen BK413.out 3
            have hfz27_4 := blk_frozen BK413.out 4
            have hfz27_5 := blk_frozen BK413.out 5
            have hfz27_6 := blk_frozen BK413.out 6
            go_wp2
            go_ret
            exact ⟨by first | rfl | (simp [errW_none, errW_some] <;> rfl) | (simp [*, errW_none, errW_some] <;> rfl), by repeat (first | (with_reducible first | exact HB.out | apply below_alloc | apply pw_below_drewN | apply below_drew1 | refine below_set ?_ GE413.out) | exact HB.out)⟩

end Go.Proofs.Ytobhmonmeocfmaa.PA
