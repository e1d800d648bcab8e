-- printed by a program of this session (myprint.py) out of the translation
import Derived.Test.YtobhmonmeocfmaaFAM0
import Derived.Test.YtobhmonmeocfmaaFAWharfageref1SegMay
import Derived.Test.YtobhmonmeocfmaaFAWharfageref1Pseudo
namespace Go.Proofs.Ytobhmonmeocfmaa.PA
open Go.RowKit Go.Proofs.YtobhmonmeocfmaaW.PrintWords Go.Proofs.YtobhmonmeocfmaaW.PrintLast Go.Proofs.YtobhmonmeocfmaaW.PrintMore
attribute [local go_sem] max2_int min2_int max_two min_two max_three min_three max_four min_four   -- for this text's walks alone
set_option linter.unusedVariables false
set_option linter.unusedSimpArgs false

/-! ### wharfageref1_GetSeg: function 32 -/
mutual
def wharfageref1_GetSeg.j0 : Nat → Int → ByteArray → Int → Int → Bool → Option (Int × Int × Int × Int × Int × Int × ByteArray × Int)
  | 0, _, _, _, _, _ => none
  | k + 1, x0, x1, x2, x3, x24 => if x24 = true then (some (0, 0, 0, 0, 0, 0, (⟨#[]⟩ : ByteArray), 300)) else (if 0 ≤ 2 then (if 2 ≤ (x1.size : Int) then ((wharfageref1_Of.f k (x1.extract 0 2)).bind fun t474 => (if 2 ≤ 4 then (if 4 ≤ (x1.size : Int) then ((wharfageref1_Of.f k (x1.extract 2 4)).bind fun t475 => (if x0 = 6 then (wharfageref1_GetSeg.j1 k x0 x1 x2 x3 false (decide ((x1.size : Int) ≥ 20)) x0 t474 t475 0 0 0 (⟨#[]⟩ : ByteArray)) else (wharfageref1_GetSeg.j1 k x0 x1 x2 x3 false false x0 t474 t475 0 0 0 (⟨#[]⟩ : ByteArray)))) else (none)) else (none))) else (none)) else (none))
def wharfageref1_GetSeg.j1 : Nat → Int → ByteArray → Int → Int → Bool → Bool → Int → Int → Int → Int → Int → Int → ByteArray → Option (Int × Int × Int × Int × Int × Int × ByteArray × Int)
  | 0, _, _, _, _, _, _, _, _, _, _, _, _, _ => none
  | k + 1, x0, x1, x2, x3, x11, x34, x477000, x477001, x477002, x477003, x477004, x477005, x477006 => if x34 = true then (if 4 ≤ 8 then (if 8 ≤ (x1.size : Int) then ((wharfageref1_Of.f k (x1.extract 4 8)).bind fun t477 => (if 8 ≤ 12 then (if 12 ≤ (x1.size : Int) then ((wharfageref1_Of.f k (x1.extract 8 12)).bind fun t478 => (if 13 < (x1.size : Int) then (if 20 ≤ (x1.size : Int) then (if 12 < (x1.size : Int) then (if (bt x1 12) = 80 then ((wharfageref1_pseudo.f k x0 x1 x2 x3).bind fun t479 => (if t479 = 65535 then ((wharfageref1_SegMay.f k x477000 x477001 x477002 t477 t478 (wrap64 (bt x1 13)) (x1.extract 20 x1.size)).bind fun t480 => (if t480 = true then (some (x477000, x477001, x477002, t477, t478, wrap64 (bt x1 13), x1.extract 20 x1.size, 0)) else (some (0, 0, 0, 0, 0, 0, (⟨#[]⟩ : ByteArray), 300)))) else (some (0, 0, 0, 0, 0, 0, (⟨#[]⟩ : ByteArray), 300)))) else (some (0, 0, 0, 0, 0, 0, (⟨#[]⟩ : ByteArray), 300))) else (none)) else (none)) else (none))) else (none)) else (none))) else (none)) else (none)) else (if x0 = 17 then (if 8 ≤ (x1.size : Int) then (if 4 ≤ 6 then (if 6 ≤ (x1.size : Int) then ((wharfageref1_Of.f k (x1.extract 4 6)).bind fun t481 => (if t481 = (x1.size : Int) then (if 6 ≤ 8 then ((wharfageref1_Of.f k (x1.extract 6 8)).bind fun t482 => (if t482 = 0 then ((wharfageref1_SegMay.f k x477000 x477001 x477002 x477003 x477004 x477005 (x1.extract 8 x1.size)).bind fun t483 => (if t483 = true then (some (x477000, x477001, x477002, x477003, x477004, x477005, x1.extract 8 x1.size, 0)) else (some (0, 0, 0, 0, 0, 0, (⟨#[]⟩ : ByteArray), 300)))) else ((wharfageref1_pseudo.f k x0 x1 x2 x3).bind fun t484 => (if t484 = 65535 then ((wharfageref1_SegMay.f k x477000 x477001 x477002 x477003 x477004 x477005 (x1.extract 8 x1.size)).bind fun t485 => (if t485 = true then (some (x477000, x477001, x477002, x477003, x477004, x477005, x1.extract 8 x1.size, 0)) else (some (0, 0, 0, 0, 0, 0, (⟨#[]⟩ : ByteArray), 300)))) else (some (0, 0, 0, 0, 0, 0, (⟨#[]⟩ : ByteArray), 300)))))) else (none)) else (some (0, 0, 0, 0, 0, 0, (⟨#[]⟩ : ByteArray), 300)))) else (none)) else (none)) else (none)) else (if x11 = true then ((wharfageref1_SegMay.f k x477000 x477001 x477002 x477003 x477004 x477005 x477006).bind fun t486 => (if t486 = true then (some (x477000, x477001, x477002, x477003, x477004, x477005, x477006, 0)) else (some (0, 0, 0, 0, 0, 0, (⟨#[]⟩ : ByteArray), 300)))) else (some (0, 0, 0, 0, 0, 0, (⟨#[]⟩ : ByteArray), 300))))
end
def wharfageref1_GetSeg.f (k : Nat) (a0 : Int) (a1 : ByteArray) (a2 : Int) (a3 : Int) : Option (Int × Int × Int × Int × Int × Int × ByteArray × Int) := (wharfageref1_within.f a2 32).bind fun t472 => (if t472 = true then ((wharfageref1_within.f a3 32).bind fun t473 => (if t473 = true then (wharfageref1_GetSeg.j0 k a0 a1 a2 a3 (decide ((a1.size : Int) < 8))) else (wharfageref1_GetSeg.j0 k a0 a1 a2 a3 true))) else (wharfageref1_GetSeg.j0 k a0 a1 a2 a3 true))
theorem wharfageref1_GetSeg.mono_l : ∀ k, (∀ y0 y1 y2 y3 y4, LeO (wharfageref1_GetSeg.j0 k y0 y1 y2 y3 y4) (wharfageref1_GetSeg.j0 (k + 1) y0 y1 y2 y3 y4)) ∧ (∀ y0 y1 y2 y3 y4 y5 y6 y7 y8 y9 y10 y11 y12, LeO (wharfageref1_GetSeg.j1 k y0 y1 y2 y3 y4 y5 y6 y7 y8 y9 y10 y11 y12) (wharfageref1_GetSeg.j1 (k + 1) y0 y1 y2 y3 y4 y5 y6 y7 y8 y9 y10 y11 y12))
  | 0 => ⟨fun _ _ _ _ _ r h => by simp [wharfageref1_GetSeg.j0] at h, fun _ _ _ _ _ _ _ _ _ _ _ _ _ r h => by simp [wharfageref1_GetSeg.j1] at h⟩
  | k + 1 => by
    obtain ⟨ih0, ih1⟩ := wharfageref1_GetSeg.mono_l k
    refine ⟨?_, ?_⟩
    · intro y0 y1 y2 y3 y4
      unfold wharfageref1_GetSeg.j0
      repeat' first
      | (with_reducible exact ih0 _ _ _ _ _)
      | (with_reducible exact ih1 _ _ _ _ _ _ _ _ _ _ _ _ _)
      | (with_reducible exact wharfageref1_Of.mono _ _)
      | (with_reducible exact wharfageref1_SegMay.mono _ _ _ _ _ _ _ _)
      | (with_reducible exact wharfageref1_pseudo.mono _ _ _ _ _)
      | (with_reducible exact LeO.refl _)
      | (with_reducible exact LeO.none _)
      | (with_reducible refine LeO.ite ?_ ?_)
      | (with_reducible refine LeO.bind ?_ (fun _ => ?_))
      | exact ih0 _ _ _ _ _
      | exact ih1 _ _ _ _ _ _ _ _ _ _ _ _ _
      | exact wharfageref1_Of.mono _ _
      | exact wharfageref1_SegMay.mono _ _ _ _ _ _ _ _
      | exact wharfageref1_pseudo.mono _ _ _ _ _
      | exact LeO.none _
      | refine LeO.ite ?_ ?_
      | refine LeO.bind ?_ (fun _ => ?_)
    · intro y0 y1 y2 y3 y4 y5 y6 y7 y8 y9 y10 y11 y12
      unfold wharfageref1_GetSeg.j1
      repeat' first
      | (with_reducible exact ih0 _ _ _ _ _)
      | (with_reducible exact ih1 _ _ _ _ _ _ _ _ _ _ _ _ _)
      | (with_reducible exact wharfageref1_Of.mono _ _)
      | (with_reducible exact wharfageref1_SegMay.mono _ _ _ _ _ _ _ _)
      | (with_reducible exact wharfageref1_pseudo.mono _ _ _ _ _)
      | (with_reducible exact LeO.refl _)
      | (with_reducible exact LeO.none _)
      | (with_reducible refine LeO.ite ?_ ?_)
      | (with_reducible refine LeO.bind ?_ (fun _ => ?_))
      | exact ih0 _ _ _ _ _
      | exact ih1 _ _ _ _ _ _ _ _ _ _ _ _ _
      | exact wharfageref1_Of.mono _ _
      | exact wharfageref1_SegMay.mono _ _ _ _ _ _ _ _
      | exact wharfageref1_pseudo.mono _ _ _ _ _
      | exact LeO.none _
      | refine LeO.ite ?_ ?_
      | refine LeO.bind ?_ (fun _ => ?_)
theorem wharfageref1_GetSeg.mono : ∀ a0 a1 a2 a3 k, LeO (wharfageref1_GetSeg.f k a0 a1 a2 a3) (wharfageref1_GetSeg.f (k + 1) a0 a1 a2 a3) := by
  intro a0 a1 a2 a3 k
  obtain ⟨ih0, ih1⟩ := wharfageref1_GetSeg.mono_l k
  unfold wharfageref1_GetSeg.f
  repeat' first
      | (with_reducible exact ih0 _ _ _ _ _)
      | (with_reducible exact ih1 _ _ _ _ _ _ _ _ _ _ _ _ _)
      | (with_reducible exact wharfageref1_Of.mono _ _)
      | (with_reducible exact wharfageref1_SegMay.mono _ _ _ _ _ _ _ _)
      | (with_reducible exact wharfageref1_pseudo.mono _ _ _ _ _)
      | (with_reducible exact LeO.refl _)
      | (with_reducible exact LeO.none _)
      | (with_reducible refine LeO.ite ?_ ?_)
      | (with_reducible refine LeO.bind ?_ (fun _ => ?_))
      | exact ih0 _ _ _ _ _
      | exact ih1 _ _ _ _ _ _ _ _ _ _ _ _ _
      | exact wharfageref1_Of.mono _ _
      | exact wharfageref1_SegMay.mono _ _ _ _ _ _ _ _
      | exact wharfageref1_pseudo.mono _ _ _ _ _
      | exact LeO.none _
      | refine LeO.ite ?_ ?_
      | refine LeO.bind ?_ (fun _ => ?_)
def wharfageref1_GetSeg.T3 : Bool × List (List Nat × List Nat) := (true, [([], []), ([], []), ([1], [1]), ([2], [2]), ([], []), ([4], [4]), ([5, 3], [5]), ([0, 3, 6], [0, 3, 6]), ([], []), ([8, 7, 6, 0, 1, 2, 3, 4, 5, 6, 7, 8], [7, 8])])
def wharfageref1_GetSeg.B3 : List Nat := [0, 0, 2, 6, 0, 16, 62, 127, 0, 511]
theorem wharfageref1_GetSeg.tab3 : rtab .any (opsOf Try.f32 3) = wharfageref1_GetSeg.T3 := by kernel_rfl
theorem wharfageref1_GetSeg.bits3 : waitsOk wharfageref1_GetSeg.T3.2 wharfageref1_GetSeg.B3 = true := by kernel_rfl
set_option maxHeartbeats 8000000 in
set_option maxRecDepth 100000 in
theorem wharfageref1_GetSeg.calls (k : Nat) (a0 : Int) (a1 : ByteArray) (a2 : Int) (a3 : Int) (r1 : Int) (r2 : Int) (r3 : Int) (r4 : Int) (r5 : Int) (r6 : Int) (r7 : ByteArray) (r8 : Int) (w : World) (h : wharfageref1_GetSeg.f k a0 a1 a2 a3 = some (r1, r2, r3, r4, r5, r6, r7, r8)) :
    Calls Try.prog 32 #[.int .i64 a0, .string a1, .int .i64 a2, .int .i64 a3] w fun e w' => e = .returned (.tuple #[.agg #[.int .i64 r1, .int .i64 r2, .int .i64 r3, .int .i64 r4, .int .i64 r5, .int .i64 r6, .string r7], .int .i64 r8]) ∧ Below w.heap.size w w' := by
  have hu44 := Try.underlying44
  have HB := Aside0.mk (Below.refl w.heap.size w)
  have H : ((wharfageref1_within.f a2 32).bind fun t472 => (if t472 = true then ((wharfageref1_within.f a3 32).bind fun t473 => (if t473 = true then (wharfageref1_GetSeg.j0 k a0 a1 a2 a3 (decide ((a1.size : Int) < 8))) else (wharfageref1_GetSeg.j0 k a0 a1 a2 a3 true))) else (wharfageref1_GetSeg.j0 k a0 a1 a2 a3 true))) = some (r1, r2, r3, r4, r5, r6, r7, r8) := h
  clear h
  have HC5 := Aside0.mk H
  clear H
  go_enter Try.func32, Try.ntmps32
  go_upto_region 1 with (first | ((with_reducible refine gate_dst (N := 8) rfl ?_); (try (refine gate_guard (by rfl) ?_; dsimp only)); refine box_event ?hg (N := 8) ?hd (cs := #[.int .i64 0, .int .i64 0, .int .i64 0, .int .i64 0, .int .i64 0, .int .i64 0, .string (⟨#[]⟩ : ByteArray)]) (t := 44) ?hr ?_; (case hd => rfl); (case hg => rfl); (case hr => first | (go_simp; done) | (go_simp; rfl)); intro gb471 hg w6 hbox hb; have n0_ := Aside0.mk (below_step (by repeat (first | (with_reducible first | exact HB.out | apply below_alloc | apply pw_below_drewN | apply below_drew1) | exact HB.out)) hb); have n1_ := Aside0.mk (hbox); have n2_ := Aside0.mk ((by rw [hg]; exact (below_size (by repeat (first | (with_reducible first | exact HB.out | apply below_alloc | apply pw_below_drewN | apply below_drew1) | exact HB.out))) : w.heap.size ≤ gb471)); have n3_ := Aside0.mk ((by rw [hg]; exact (below_size (by repeat (first | (with_reducible first | exact HB.out | apply below_alloc | apply pw_below_drewN | apply below_drew1) | exact HB.out))) : w.heap.size ≤ gb471)); clear HB; have HB := n0_; have BK471 := n1_; have GW471 := n2_; have GE471 := n3_; clear n0_ n1_ n2_ n3_; clear hb hbox hg))
  (try simp only [Act.put, List.setIfInBounds_toArray, List.set_cons_zero, List.set_cons_succ])
  go_cut [24] (fun v24 wc => ∃ (kq : Nat) (x24_4 : Bool), v24 = .bool x24_4 ∧ Aside0 (wharfageref1_GetSeg.j0 kq a0 a1 a2 a3 x24_4 = some (r1, r2, r3, r4, r5, r6, r7, r8)) ∧ Aside0 (kq ≤ k) ∧ Aside0 (wc.heap[gb471]? = some (.cells #[.int .i64 0, .int .i64 0, .int .i64 0, .int .i64 0, .int .i64 0, .int .i64 0, .string (⟨#[]⟩ : ByteArray)] 44 (0, 0))) ∧ Aside0 (Below w.heap.size w wc))
  case first =>
    have H := HC5.out
    clear HC5
    replace H := Option.bind_eq_some_iff.mp H
    obtain ⟨t472, A70, H⟩ := H
    replace H : (if t472 = true then ((wharfageref1_within.f a3 32).bind fun t473 => (if t473 = true then (wharfageref1_GetSeg.j0 k a0 a1 a2 a3 (decide ((a1.size : Int) < 8))) else (wharfageref1_GetSeg.j0 k a0 a1 a2 a3 true))) else (wharfageref1_GetSeg.j0 k a0 a1 a2 a3 true)) = some (r1, r2, r3, r4, r5, r6, r7, r8) := H
    have A7 := Aside0.mk A70
    clear A70
    by_cases c8 : t472 = true
    · subst c8
      have H1 : ((wharfageref1_within.f a3 32).bind fun t473 => (if t473 = true then (wharfageref1_GetSeg.j0 k a0 a1 a2 a3 (decide ((a1.size : Int) < 8))) else (wharfageref1_GetSeg.j0 k a0 a1 a2 a3 true))) = some (r1, r2, r3, r4, r5, r6, r7, r8) := by rw [if_pos rfl] at H; exact H
      clear H
      have H := H1
      clear H1
      replace H := Option.bind_eq_some_iff.mp H
      obtain ⟨t473, A90, H⟩ := H
      replace H : (if t473 = true then (wharfageref1_GetSeg.j0 k a0 a1 a2 a3 (decide ((a1.size : Int) < 8))) else (wharfageref1_GetSeg.j0 k a0 a1 a2 a3 true)) = some (r1, r2, r3, r4, r5, r6, r7, r8) := H
      have A9 := Aside0.mk A90
      clear A90
      by_cases c10 : t473 = true
      · subst c10
        have H1 : (wharfageref1_GetSeg.j0 k a0 a1 a2 a3 (decide ((a1.size : Int) < 8))) = some (r1, r2, r3, r4, r5, r6, r7, r8) := by rw [if_pos rfl] at H; exact H
        clear H
        have H := H1
        clear H1
        have H' := Aside0.mk H
        clear H
        go_wp2_with (first | ((with_reducible refine gate_callee (f := 58) rfl ?_); refine goesL_ (some 13) rfl rfl Try.func58 (by kernel_rfl) rfl #[.int .i64 a2, .int .i64 32] rfl (by (try simp only [List.map_toArray, List.map_cons, List.map_nil]); first | done | rfl | (simp only [List.length_drop, List.length_take]; rfl)) ?_; (with_reducible refine (wharfageref1_within.calls a2 32 true _ A7.out).mono ?_); rintro e w' ⟨rfl, ⟨nd, rfl⟩⟩; refine ⟨_, rfl, ?_⟩) | (go_at_call 58; (with_reducible refine (wharfageref1_within.calls a3 32 true _ A9.out).mono ?_); rintro e w' ⟨rfl, ⟨nd, rfl⟩⟩))
        go_meet
        case rel => exact ⟨_, (decide ((a1.size : Int) < 8)), (by first | rfl | (simp; done) | (simp [*]; done)), H', ⟨by first | omega | exact Nat.le_refl _⟩, ⟨by (with_reducible repeat (first | refine blk_drewN ?_ _ | refine blk_drew ?_ | refine blk_alloc ?_ _)); exact BK471.out⟩, ⟨by repeat (first | (with_reducible first | exact HB.out | apply below_alloc | apply pw_below_drewN | apply below_drew1 | refine below_set ?_ GE471.out) | exact HB.out)⟩⟩
      · replace c10 := Bool.eq_false_iff.mpr c10
        subst c10
        have H1 : (wharfageref1_GetSeg.j0 k a0 a1 a2 a3 true) = some (r1, r2, r3, r4, r5, r6, r7, r8) := by rw [if_neg (show ¬ (false = true) by decide)] at H; exact H
        clear H
        have H := H1
        clear H1
        have H' := Aside0.mk H
        clear H
        go_wp2_with (first | ((with_reducible refine gate_callee (f := 58) rfl ?_); refine goesL_ (some 13) rfl rfl Try.func58 (by kernel_rfl) rfl #[.int .i64 a2, .int .i64 32] rfl (by (try simp only [List.map_toArray, List.map_cons, List.map_nil]); first | done | rfl | (simp only [List.length_drop, List.length_take]; rfl)) ?_; (with_reducible refine (wharfageref1_within.calls a2 32 true _ A7.out).mono ?_); rintro e w' ⟨rfl, ⟨nd, rfl⟩⟩; refine ⟨_, rfl, ?_⟩) | (go_at_call 58; (with_reducible refine (wharfageref1_within.calls a3 32 false _ A9.out).mono ?_); rintro e w' ⟨rfl, ⟨nd, rfl⟩⟩))
        go_meet
        case rel => exact ⟨_, (true), (by first | rfl | (simp; done) | (simp [*]; done)), H', ⟨by first | omega | exact Nat.le_refl _⟩, ⟨by (with_reducible repeat (first | refine blk_drewN ?_ _ | refine blk_drew ?_ | refine blk_alloc ?_ _)); exact BK471.out⟩, ⟨by repeat (first | (with_reducible first | exact HB.out | apply below_alloc | apply pw_below_drewN | apply below_drew1 | refine below_set ?_ GE471.out) | exact HB.out)⟩⟩
    · replace c8 := Bool.eq_false_iff.mpr c8
      subst c8
      have H1 : (wharfageref1_GetSeg.j0 k a0 a1 a2 a3 true) = some (r1, r2, r3, r4, r5, r6, r7, r8) := by rw [if_neg (show ¬ (false = true) by decide)] at H; exact H
      clear H
      have H := H1
      clear H1
      have H' := Aside0.mk H
      clear H
      go_wp2_with (first | ((with_reducible refine gate_callee (f := 58) rfl ?_); refine goesL_ (some 13) rfl rfl Try.func58 (by kernel_rfl) rfl #[.int .i64 a2, .int .i64 32] rfl (by (try simp only [List.map_toArray, List.map_cons, List.map_nil]); first | done | rfl | (simp only [List.length_drop, List.length_take]; rfl)) ?_; (with_reducible refine (wharfageref1_within.calls a2 32 false _ A7.out).mono ?_); rintro e w' ⟨rfl, ⟨nd, rfl⟩⟩; refine ⟨_, rfl, ?_⟩))
      go_meet
      case rel => exact ⟨_, (true), (by first | rfl | (simp; done) | (simp [*]; done)), H', ⟨by first | omega | exact Nat.le_refl _⟩, ⟨by (with_reducible repeat (first | refine blk_drewN ?_ _ | refine blk_drew ?_ | refine blk_alloc ?_ _)); exact BK471.out⟩, ⟨by repeat (first | (with_reducible first | exact HB.out | apply below_alloc | apply pw_below_drewN | apply below_drew1 | refine below_set ?_ GE471.out) | exact HB.out)⟩⟩
  case rest =>
    clear HC5
    try clear c1
    try clear p2
    try clear c3
    try clear c5
    try clear c8
    try clear c10
    obtain ⟨kq, x24_4, rfl, HA, HJ4, BK471, HB⟩ := hcut
    cases kq with
    | zero => exact absurd HA.out (by simp [wharfageref1_GetSeg.j0])
    | succ kj4 =>
      have H := HA.out
      clear HA
      simp only [wharfageref1_GetSeg.j0] at H
      by_cases c11 : x24_4 = true
      · subst c11
        have H1 : (some (0, 0, 0, 0, 0, 0, (⟨#[]⟩ : ByteArray), 300)) = some (r1, r2, r3, r4, r5, r6, r7, r8) := by rw [if_pos rfl] at H; exact H
        clear H
        have H := H1
        clear H1
        simp only [Option.some.injEq, Prod.mk.injEq] at H
        obtain ⟨rfl, rfl, rfl, rfl, rfl, rfl, rfl, rfl⟩ := H
        have hcz12_0 : wc.cell? ⟨gb471, 0, none⟩ = some (.int .i64 0) := (blk_cell BK471.out 0).trans rfl
        have hcz12_1 : wc.cell? ⟨gb471, 1, none⟩ = some (.int .i64 0) := (blk_cell BK471.out 1).trans rfl
        have hcz12_2 : wc.cell? ⟨gb471, 2, none⟩ = some (.int .i64 0) := (blk_cell BK471.out 2).trans rfl
        have hcz12_3 : wc.cell? ⟨gb471, 3, none⟩ = some (.int .i64 0) := (blk_cell BK471.out 3).trans rfl
        have hcz12_4 : wc.cell? ⟨gb471, 4, none⟩ = some (.int .i64 0) := (blk_cell BK471.out 4).trans rfl
        have hcz12_5 : wc.cell? ⟨gb471, 5, none⟩ = some (.int .i64 0) := (blk_cell BK471.out 5).trans rfl
        have hcz12_6 : wc.cell? ⟨gb471, 6, none⟩ = some (.string (⟨#[]⟩ : ByteArray)) := (blk_cell BK471.out 6).trans rfl
        have hfz12_0 := blk_frozen BK471.out 0
        have hfz12_1 := blk_frozen BK471.out 1
        have hfz12_2 := blk_frozen BK471.out 2
        have hfz12_3 := blk_frozen BK471.out 3
        have hfz12_4 := blk_frozen BK471.out 4
        have hfz12_5 := blk_frozen BK471.out 5
        have hfz12_6 := blk_frozen BK471.out 6
        go_wp2
        refine bodyPost_ret (results_ct rfl _ _ gb471 44 #[.int .i64 0, .int .i64 0, .int .i64 0, .int .i64 0, .int .i64 0, .int .i64 0, .string (⟨#[]⟩ : ByteArray)] (0, 0) _ rfl (by (with_reducible repeat (first | refine blk_drewN ?_ _ | refine blk_drew ?_ | refine blk_alloc ?_ _)); refine blk_put (cs := #[.int .i64 0, .int .i64 0, .int .i64 0, .int .i64 0, .int .i64 0, .int .i64 0, .string (⟨#[]⟩ : ByteArray)]) ?_ 6 _ (by first | rfl | (simp [*]; done)); (with_reducible repeat (first | refine blk_drewN ?_ _ | refine blk_drew ?_ | refine blk_alloc ?_ _)); refine blk_put (cs := #[.int .i64 0, .int .i64 0, .int .i64 0, .int .i64 0, .int .i64 0, .int .i64 0, .string (⟨#[]⟩ : ByteArray)]) ?_ 5 _ (by first | rfl | (simp [*]; done)); (with_reducible repeat (first | refine blk_drewN ?_ _ | refine blk_drew ?_ | refine blk_alloc ?_ _)); refine blk_put (cs := #[.int .i64 0, .int .i64 0, .int .i64 0, .int .i64 0, .int .i64 0, .int .i64 0, .string (⟨#[]⟩ : ByteArray)]) ?_ 4 _ (by first | rfl | (simp [*]; done)); (with_reducible repeat (first | refine blk_drewN ?_ _ | refine blk_drew ?_ | refine blk_alloc ?_ _)); refine blk_put (cs := #[.int .i64 0, .int .i64 0, .int .i64 0, .int .i64 0, .int .i64 0, .int .i64 0, .string (⟨#[]⟩ : ByteArray)]) ?_ 3 _ (by first | rfl | (simp [*]; done)); (with_reducible repeat (first | refine blk_drewN ?_ _ | refine blk_drew ?_ | refine blk_alloc ?_ _)); refine blk_put (cs := #[.int .i64 0, .int .i64 0, .int .i64 0, .int .i64 0, .int .i64 0, .int .i64 0, .string (⟨#[]⟩ : ByteArray)]) ?_ 2 _ (by first | rfl | (simp [*]; done)); (with_reducible repeat (first | refine blk_drewN ?_ _ | refine blk_drew ?_ | refine blk_alloc ?_ _)); refine blk_put (cs := #[.int .i64 0, .int .i64 0, .int .i64 0, .int .i64 0, .int .i64 0, .int .i64 0, .string (⟨#[]⟩ : ByteArray)]) ?_ 1 _ (by first | rfl | (simp [*]; done)); (with_reducible repeat (first | refine blk_drewN ?_ _ | refine blk_drew ?_ | refine blk_alloc ?_ _)); refine blk_put (cs := #[.int .i64 0, .int .i64 0, .int .i64 0, .int .i64 0, .int .i64 0, .int .i64 0, .string (⟨#[]⟩ : ByteArray)]) ?_ 0 _ (by first | rfl | (simp [*]; done)); (with_reducible repeat (first | refine blk_drewN ?_ _ | refine blk_drew ?_ | refine blk_alloc ?_ _)); exact BK471.out) Try.underlying44 rfl (by kernel_rfl)) rfl ?_
        exact ⟨by first | rfl | (simp [errW_none, errW_some] <;> rfl) | (simp [*, errW_none, errW_some] <;> rfl), by repeat (first | (with_reducible first | exact HB.out | apply below_alloc | apply pw_below_drewN | apply below_drew1 | refine below_set ?_ GE471.out) | exact HB.out)⟩
      · replace c11 := Bool.eq_false_iff.mpr c11
        subst c11
        have H1 : (if 0 ≤ 2 then (if 2 ≤ (a1.size : Int) then ((wharfageref1_Of.f kj4 (a1.extract 0 2)).bind fun t474 => (if 2 ≤ 4 then (if 4 ≤ (a1.size : Int) then ((wharfageref1_Of.f kj4 (a1.extract 2 4)).bind fun t475 => (if a0 = 6 then (wharfageref1_GetSeg.j1 kj4 a0 a1 a2 a3 false (decide ((a1.size : Int) ≥ 20)) a0 t474 t475 0 0 0 (⟨#[]⟩ : ByteArray)) else (wharfageref1_GetSeg.j1 kj4 a0 a1 a2 a3 false false a0 t474 t475 0 0 0 (⟨#[]⟩ : ByteArray)))) else (none)) else (none))) else (none)) else (none)) = some (r1, r2, r3, r4, r5, r6, r7, r8) := by rw [if_neg (show ¬ (false = true) by decide)] at H; exact H
        clear H
        have H := H1
        clear H1
        by_cases c13 : 0 ≤ 2
        · rw [if_pos c13] at H
          have c13b0 := eq_true c13
          have c13b1 : decide (0 ≤ 2) = true := decide_eq_true c13
          clear c13
          by_cases c14 : 2 ≤ (a1.size : Int)
          · rw [if_pos c14] at H
            have c14b0 := eq_true c14
            have c14b1 : decide (2 ≤ (a1.size : Int)) = true := decide_eq_true c14
            clear c14
            replace H := Option.bind_eq_some_iff.mp H
            obtain ⟨t474, A150, H⟩ := H
            replace H : (if 2 ≤ 4 then (if 4 ≤ (a1.size : Int) then ((wharfageref1_Of.f kj4 (a1.extract 2 4)).bind fun t475 => (if a0 = 6 then (wharfageref1_GetSeg.j1 kj4 a0 a1 a2 a3 false (decide ((a1.size : Int) ≥ 20)) a0 t474 t475 0 0 0 (⟨#[]⟩ : ByteArray)) else (wharfageref1_GetSeg.j1 kj4 a0 a1 a2 a3 false false a0 t474 t475 0 0 0 (⟨#[]⟩ : ByteArray)))) else (none)) else (none)) = some (r1, r2, r3, r4, r5, r6, r7, r8) := H
            have A15 := Aside0.mk A150
            clear A150
            by_cases c16 : 2 ≤ 4
            · rw [if_pos c16] at H
              have c16b0 := eq_true c16
              have c16b1 : decide (2 ≤ 4) = true := decide_eq_true c16
              clear c16
              by_cases c17 : 4 ≤ (a1.size : Int)
              · rw [if_pos c17] at H
                have c17b0 := eq_true c17
                have c17b1 : decide (4 ≤ (a1.size : Int)) = true := decide_eq_true c17
                clear c17
                replace H := Option.bind_eq_some_iff.mp H
                obtain ⟨t475, A180, H⟩ := H
                replace H : (if a0 = 6 then (wharfageref1_GetSeg.j1 kj4 a0 a1 a2 a3 false (decide ((a1.size : Int) ≥ 20)) a0 t474 t475 0 0 0 (⟨#[]⟩ : ByteArray)) else (wharfageref1_GetSeg.j1 kj4 a0 a1 a2 a3 false false a0 t474 t475 0 0 0 (⟨#[]⟩ : ByteArray))) = some (r1, r2, r3, r4, r5, r6, r7, r8) := H
                have A18 := Aside0.mk A180
                clear A180
                have HC19 := Aside0.mk H
                clear H
                try go_wp2
                have n0_ := Aside0.mk (blk_drew BK471.out)
                have n1_ := Aside0.mk (below_drew1 HB.out)
                clear BK471
                clear HB
                have BK471 := n0_
                have HB := n1_
                clear n0_ n1_
                refine start_ (n := 10) (S := fun w' => True) (ds := []) #[false, false, false, false, false, false, false, false, false, false] (by kernel_rfl) rfl rfl trivial (fun hHeld => ?_); refine with_tabW wharfageref1_GetSeg.tab3 wharfageref1_GetSeg.bits3 (fun HT_ HW_ => ?_)
                generalize wc.drew = w20 at BK471 HB hHeld ⊢
                refine pure_ (i := 0) (N := some 26) (v := ?_) (a' := ?_) #[true, false, false, false, false, false, false, false, false, false] rfl rfl (any_of HT_.out (by kernel_rfl)) (fun _ _ _ h => h) (Or.inl ⟨by rfl, ?_⟩) ?_ ?_
                rotate_left
                · intro w'
                  go_simp
                  with_reducible rfl
                rotate_left
                · simp only [Act.put, List.setIfInBounds_toArray, List.set_cons_zero, List.set_cons_succ, i64_w, i32_w]
                  rfl
                refine pure_ (i := 1) (N := some 27) (v := ?_) (a' := ?_) #[true, true, false, false, false, false, false, false, false, false] rfl rfl (any_of HT_.out (by kernel_rfl)) (fun _ _ _ h => h) (Or.inl ⟨by rfl, ?_⟩) ?_ ?_
                rotate_left
                · intro w'
                  go_simp
                  with_reducible rfl
                rotate_left
                · simp only [Act.put, List.setIfInBounds_toArray, List.set_cons_zero, List.set_cons_succ, i64_w, i32_w]
                  rfl
                refine pure_ (i := 2) (N := some 28) (v := ?_) (a' := ?_) #[true, true, true, false, false, false, false, false, false, false] rfl rfl (any_of HT_.out (by kernel_rfl)) (fun _ _ _ h => h) (Or.inl ⟨by rfl, ?_⟩) ?_ ?_
                rotate_left
                · intro w'
                  go_simp
                  with_reducible rfl
                rotate_left
                · simp only [Act.put, List.setIfInBounds_toArray, List.set_cons_zero, List.set_cons_succ, i64_w, i32_w]
                  rfl
                refine pure_ (i := 4) (N := some 30) (v := ?_) (a' := ?_) #[true, true, true, false, true, false, false, false, false, false] rfl rfl (any_of HT_.out (by kernel_rfl)) (fun _ _ _ h => h) (Or.inl ⟨by rfl, ?_⟩) ?_ ?_
                rotate_left
                · intro w'
                  go_simp
                  with_reducible rfl
                rotate_left
                · simp only [Act.put, List.setIfInBounds_toArray, List.set_cons_zero, List.set_cons_succ, i64_w, i32_w]
                  rfl
                refine pure_ (i := 5) (N := some 31) (v := ?_) (a' := ?_) #[true, true, true, false, true, true, false, false, false, false] rfl rfl (any_of HT_.out (by kernel_rfl)) (fun _ _ _ h => h) (Or.inl ⟨by rfl, ?_⟩) ?_ ?_
                rotate_left
                · intro w'
                  go_simp
                  with_reducible rfl
                rotate_left
                · simp only [Act.put, List.setIfInBounds_toArray, List.set_cons_zero, List.set_cons_succ, i64_w, i32_w]
                  rfl
                refine join_ (σ := Nat) 1 #[true, true, true, true, true, true, true, true, true, false] (fun s_ => [(29, .int .i64 t474), (32, .int .i64 t475), (10, .pointer (some ⟨s_, 0, none⟩)), (33, .agg #[.int .i64 a0, .int .i64 t474, .int .i64 t475, .int .i64 0, .int .i64 0, .int .i64 0, .string (⟨#[]⟩ : ByteArray)])]) (fun s_ w' => (w'.heap[gb471]? = some (.cells #[.int .i64 0, .int .i64 0, .int .i64 0, .int .i64 0, .int .i64 0, .int .i64 0, .string (⟨#[]⟩ : ByteArray)] 44 (0, 0))) ∧ (w'.heap[s_]? = some (.cells #[.int .i64 0, .int .i64 0, .int .i64 0, .int .i64 0, .int .i64 0, .int .i64 0, .string (⟨#[]⟩ : ByteArray)] 44 (0, 0))) ∧ (w.heap.size ≤ s_) ∧ (w.heap.size ≤ s_) ∧ (gb471 ≠ s_) ∧ (s_ ≠ gb471) ∧ (Below w.heap.size w w')) ?_ ?_
                rotate_left
                · intro hCont
                  refine two_ (i := 3) (j := 8) (Ni := some 29) (Nj := some 10) #[true, true, true, true, true, true, false, false, false, false] #[true, true, true, false, true, true, false, false, true, false] rfl rfl rfl rfl (two_of HT_.out (by kernel_rfl)) (by decide) (by decide) (fun K hK => ?_) (fun K hK => ?_)
                  · skip
                    refine goes_ Try.func65 (by kernel_rfl) rfl #[.string (a1.extract 0 2)] (by rfl) rfl rfl (by (try simp only [List.map_toArray, List.map_cons, List.map_nil]); first | done | rfl | (simp only [List.length_drop, List.length_take]; rfl)) ?_
                    with_reducible refine (wharfageref1_Of.calls kj4 (a1.extract 0 2) t474 _ A15.out).mono ?_
                    rintro e w' ⟨rfl, ⟨nd, rfl⟩⟩
                    refine ⟨_, rfl, ?_⟩
                    refine hK.out _ _ trivial (fun hHeld => ?_)
                    clear hK K
                    refine norm_ (a' := ?_) ?_ ?_
                    rotate_left
                    · show Act.put _ (some 29) _ = _
                      simp only [Act.put, List.setIfInBounds_toArray, List.set_cons_zero, List.set_cons_succ, i64_w, i32_w]
                      rfl
                    refine two_ (i := 6) (j := 8) (Ni := some 32) (Nj := some 10) #[true, true, true, true, true, true, true, false, false, false] #[true, true, true, true, true, true, false, false, true, false] rfl rfl rfl rfl (two_of HT_.out (by kernel_rfl)) (by decide) (by decide) (fun K hK => ?_) (fun K hK => ?_)
                    · skip
                      refine goes_ Try.func65 (by kernel_rfl) rfl #[.string (a1.extract 2 4)] (by rfl) rfl rfl (by (try simp only [List.map_toArray, List.map_cons, List.map_nil]); first | done | rfl | (simp only [List.length_drop, List.length_take]; rfl)) ?_
                      with_reducible refine (wharfageref1_Of.calls kj4 (a1.extract 2 4) t475 _ A18.out).mono ?_
                      rintro e w' ⟨rfl, ⟨nd, rfl⟩⟩
                      refine ⟨_, rfl, ?_⟩
                      refine hK.out _ _ trivial (fun hHeld => ?_)
                      clear hK K
                      refine norm_ (a' := ?_) ?_ ?_
                      rotate_left
                      · show Act.put _ (some 32) _ = _
                        simp only [Act.put, List.setIfInBounds_toArray, List.set_cons_zero, List.set_cons_succ, i64_w, i32_w]
                        rfl
                      refine pure_ (i := 7) (N := some 33) (v := ?_) (a' := ?_) #[true, true, true, true, true, true, true, true, false, false] rfl rfl (any_of HT_.out (by kernel_rfl)) (fun _ _ _ h => h) (Or.inl ⟨by rfl, ?_⟩) ?_ ?_
                      rotate_left
                      · intro w'
                        go_simp
                        with_reducible rfl
                      rotate_left
                      · simp only [Act.put, List.setIfInBounds_toArray, List.set_cons_zero, List.set_cons_succ, i64_w, i32_w]
                        rfl
                      refine one_ (i := 8) (N := some 10) #[true, true, true, true, true, true, true, true, true, false] rfl rfl (one_of HT_.out (by kernel_rfl)) (by decide) (fun K hK => ?_)
                      refine box_step ?hg (N := 10) ?hd (cs := #[.int .i64 0, .int .i64 0, .int .i64 0, .int .i64 0, .int .i64 0, .int .i64 0, .string (⟨#[]⟩ : ByteArray)]) (t := 44) ?hr ?_; (case hd => rfl); (case hg => rfl); (case hr => first | (go_simp; done) | (go_simp; rfl))
                      intro gb476 hg w21 hbox hb
                      have n0_ := Aside0.mk (blk_below (g := gb471) (o := .cells #[.int .i64 0, .int .i64 0, .int .i64 0, .int .i64 0, .int .i64 0, .int .i64 0, .string (⟨#[]⟩ : ByteArray)] 44 (0, 0)) (by (with_reducible repeat (first | refine blk_drewN ?_ _ | refine blk_drew ?_ | refine blk_alloc ?_ _)); exact BK471.out) hb)
                      have n1_ := Aside0.mk (below_step (by repeat (first | (with_reducible first | exact HB.out | apply below_alloc | apply pw_below_drewN | apply below_drew1 | refine below_set ?_ GE471.out) | exact HB.out)) hb)
                      have n2_ := Aside0.mk (hbox)
                      have n3_ := Aside0.mk ((by rw [hg]; exact (below_size (by repeat (first | (with_reducible first | exact HB.out | apply below_alloc | apply pw_below_drewN | apply below_drew1 | refine below_set ?_ GE471.out) | exact HB.out))) : w.heap.size ≤ gb476))
                      have n4_ := Aside0.mk ((by rw [hg]; exact (below_size (by repeat (first | (with_reducible first | exact HB.out | apply below_alloc | apply pw_below_drewN | apply below_drew1 | refine below_set ?_ GE471.out) | exact HB.out))) : w.heap.size ≤ gb476))
                      have n5_ := Aside0.mk ((by rw [hg]; exact Nat.ne_of_lt (blk_lt (g := gb471) (o := .cells #[.int .i64 0, .int .i64 0, .int .i64 0, .int .i64 0, .int .i64 0, .int .i64 0, .string (⟨#[]⟩ : ByteArray)] 44 (0, 0)) (by (with_reducible repeat (first | refine blk_drewN ?_ _ | refine blk_drew ?_ | refine blk_alloc ?_ _)); exact BK471.out)) : gb471 ≠ gb476))
                      have n6_ := Aside0.mk ((by rw [hg]; exact Nat.ne_of_gt (blk_lt (g := gb471) (o := .cells #[.int .i64 0, .int .i64 0, .int .i64 0, .int .i64 0, .int .i64 0, .int .i64 0, .string (⟨#[]⟩ : ByteArray)] 44 (0, 0)) (by (with_reducible repeat (first | refine blk_drewN ?_ _ | refine blk_drew ?_ | refine blk_alloc ?_ _)); exact BK471.out)) : gb476 ≠ gb471))
                      clear BK471
                      clear HB
                      have BK471 := n0_
                      have HB := n1_
                      have BK476 := n2_
                      have GW476 := n3_
                      have GE476 := n4_
                      have NB471_476 := n5_
                      have NB476_471 := n6_
                      clear n0_ n1_ n2_ n3_ n4_ n5_ n6_
                      clear hb hbox hg
                      refine hK.out _ _ trivial (fun hHeld => ?_)
                      clear hK K
                      refine norm_ (a' := ?_) ?_ ?_
                      rotate_left
                      · show Act.put _ (some 10) _ = _
                        simp only [Act.put, List.setIfInBounds_toArray, List.set_cons_zero, List.set_cons_succ, i64_w, i32_w]
                        rfl
                      exact norm_ (by simp only [putAll, Act.put, List.setIfInBounds_toArray, List.set_cons_zero, List.set_cons_succ]) (hCont (gb476) _ ⟨(by (with_reducible repeat (first | refine blk_drewN ?_ _ | refine blk_drew ?_ | refine blk_alloc ?_ _)); exact BK471.out), (by (with_reducible repeat (first | refine blk_drewN ?_ _ | refine blk_drew ?_ | refine blk_alloc ?_ _)); exact BK476.out), GW476.out, GE476.out, NB471_476.out, NB476_471.out, (by repeat (first | (with_reducible first | exact HB.out | apply below_alloc | apply pw_below_drewN | apply below_drew1 | refine below_set ?_ GE471.out | refine below_set ?_ GE476.out) | exact HB.out))⟩)
                    · skip
                      refine box_step ?hg (N := 10) ?hd (cs := #[.int .i64 0, .int .i64 0, .int .i64 0, .int .i64 0, .int .i64 0, .int .i64 0, .string (⟨#[]⟩ : ByteArray)]) (t := 44) ?hr ?_; (case hd => rfl); (case hg => rfl); (case hr => first | (go_simp; done) | (go_simp; rfl))
                      intro gb476 hg w21 hbox hb
                      have n0_ := Aside0.mk (blk_below (g := gb471) (o := .cells #[.int .i64 0, .int .i64 0, .int .i64 0, .int .i64 0, .int .i64 0, .int .i64 0, .string (⟨#[]⟩ : ByteArray)] 44 (0, 0)) (by (with_reducible repeat (first | refine blk_drewN ?_ _ | refine blk_drew ?_ | refine blk_alloc ?_ _)); exact BK471.out) hb)
                      have n1_ := Aside0.mk (below_step (by repeat (first | (with_reducible first | exact HB.out | apply below_alloc | apply pw_below_drewN | apply below_drew1 | refine below_set ?_ GE471.out) | exact HB.out)) hb)
                      have n2_ := Aside0.mk (hbox)
                      have n3_ := Aside0.mk ((by rw [hg]; exact (below_size (by repeat (first | (with_reducible first | exact HB.out | apply below_alloc | apply pw_below_drewN | apply below_drew1 | refine below_set ?_ GE471.out) | exact HB.out))) : w.heap.size ≤ gb476))
                      have n4_ := Aside0.mk ((by rw [hg]; exact (below_size (by repeat (first | (with_reducible first | exact HB.out | apply below_alloc | apply pw_below_drewN | apply below_drew1 | refine below_set ?_ GE471.out) | exact HB.out))) : w.heap.size ≤ gb476))
                      have n5_ := Aside0.mk ((by rw [hg]; exact Nat.ne_of_lt (blk_lt (g := gb471) (o := .cells #[.int .i64 0, .int .i64 0, .int .i64 0, .int .i64 0, .int .i64 0, .int .i64 0, .string (⟨#[]⟩ : ByteArray)] 44 (0, 0)) (by (with_reducible repeat (first | refine blk_drewN ?_ _ | refine blk_drew ?_ | refine blk_alloc ?_ _)); exact BK471.out)) : gb471 ≠ gb476))
                      have n6_ := Aside0.mk ((by rw [hg]; exact Nat.ne_of_gt (blk_lt (g := gb471) (o := .cells #[.int .i64 0, .int .i64 0, .int .i64 0, .int .i64 0, .int .i64 0, .int .i64 0, .string (⟨#[]⟩ : ByteArray)] 44 (0, 0)) (by (with_reducible repeat (first | refine blk_drewN ?_ _ | refine blk_drew ?_ | refine blk_alloc ?_ _)); exact BK471.out)) : gb476 ≠ gb471))
                      clear BK471
                      clear HB
                      have BK471 := n0_
                      have HB := n1_
                      have BK476 := n2_
                      have GW476 := n3_
                      have GE476 := n4_
                      have NB471_476 := n5_
                      have NB476_471 := n6_
                      clear n0_ n1_ n2_ n3_ n4_ n5_ n6_
                      clear hb hbox hg
                      refine hK.out _ _ trivial (fun hHeld => ?_)
                      clear hK K
                      refine norm_ (a' := ?_) ?_ ?_
                      rotate_left
                      · show Act.put _ (some 10) _ = _
                        simp only [Act.put, List.setIfInBounds_toArray, List.set_cons_zero, List.set_cons_succ, i64_w, i32_w]
                        rfl
                      refine one_ (i := 6) (N := some 32) #[true, true, true, true, true, true, true, false, true, false] rfl rfl (one_of HT_.out (by kernel_rfl)) (by decide) (fun K hK => ?_)
                      refine goes_ Try.func65 (by kernel_rfl) rfl #[.string (a1.extract 2 4)] (by rfl) rfl rfl (by (try simp only [List.map_toArray, List.map_cons, List.map_nil]); first | done | rfl | (simp only [List.length_drop, List.length_take]; rfl)) ?_
                      with_reducible refine (wharfageref1_Of.calls kj4 (a1.extract 2 4) t475 _ A18.out).mono ?_
                      rintro e w' ⟨rfl, ⟨nd, rfl⟩⟩
                      refine ⟨_, rfl, ?_⟩
                      refine hK.out _ _ trivial (fun hHeld => ?_)
                      clear hK K
                      refine norm_ (a' := ?_) ?_ ?_
                      rotate_left
                      · show Act.put _ (some 32) _ = _
                        simp only [Act.put, List.setIfInBounds_toArray, List.set_cons_zero, List.set_cons_succ, i64_w, i32_w]
                        rfl
                      refine pure_ (i := 7) (N := some 33) (v := ?_) (a' := ?_) #[true, true, true, true, true, true, true, true, true, false] rfl rfl (any_of HT_.out (by kernel_rfl)) (fun _ _ _ h => h) (Or.inl ⟨by rfl, ?_⟩) ?_ ?_
                      rotate_left
                      · intro w'
                        go_simp
                        with_reducible rfl
                      rotate_left
                      · simp only [Act.put, List.setIfInBounds_toArray, List.set_cons_zero, List.set_cons_succ, i64_w, i32_w]
                        rfl
                      exact norm_ (by simp only [putAll, Act.put, List.setIfInBounds_toArray, List.set_cons_zero, List.set_cons_succ]) (hCont (gb476) _ ⟨(by (with_reducible repeat (first | refine blk_drewN ?_ _ | refine blk_drew ?_ | refine blk_alloc ?_ _)); exact BK471.out), (by (with_reducible repeat (first | refine blk_drewN ?_ _ | refine blk_drew ?_ | refine blk_alloc ?_ _)); exact BK476.out), GW476.out, GE476.out, NB471_476.out, NB476_471.out, (by repeat (first | (with_reducible first | exact HB.out | apply below_alloc | apply pw_below_drewN | apply below_drew1 | refine below_set ?_ GE471.out | refine below_set ?_ GE476.out) | exact HB.out))⟩)
                  · skip
                    refine box_step ?hg (N := 10) ?hd (cs := #[.int .i64 0, .int .i64 0, .int .i64 0, .int .i64 0, .int .i64 0, .int .i64 0, .string (⟨#[]⟩ : ByteArray)]) (t := 44) ?hr ?_; (case hd => rfl); (case hg => rfl); (case hr => first | (go_simp; done) | (go_simp; rfl))
                    intro gb476 hg w21 hbox hb
                    have n0_ := Aside0.mk (blk_below (g := gb471) (o := .cells #[.int .i64 0, .int .i64 0, .int .i64 0, .int .i64 0, .int .i64 0, .int .i64 0, .string (⟨#[]⟩ : ByteArray)] 44 (0, 0)) (by (with_reducible repeat (first | refine blk_drewN ?_ _ | refine blk_drew ?_ | refine blk_alloc ?_ _)); exact BK471.out) hb)
                    have n1_ := Aside0.mk (below_step (by repeat (first | (with_reducible first | exact HB.out | apply below_alloc | apply pw_below_drewN | apply below_drew1 | refine below_set ?_ GE471.out) | exact HB.out)) hb)
                    have n2_ := Aside0.mk (hbox)
                    have n3_ := Aside0.mk ((by rw [hg]; exact (below_size (by repeat (first | (with_reducible first | exact HB.out | apply below_alloc | apply pw_below_drewN | apply below_drew1 | refine below_set ?_ GE471.out) | exact HB.out))) : w.heap.size ≤ gb476))
                    have n4_ := Aside0.mk ((by rw [hg]; exact (below_size (by repeat (first | (with_reducible first | exact HB.out | apply below_alloc | apply pw_below_drewN | apply below_drew1 | refine below_set ?_ GE471.out) | exact HB.out))) : w.heap.size ≤ gb476))
                    have n5_ := Aside0.mk ((by rw [hg]; exact Nat.ne_of_lt (blk_lt (g := gb471) (o := .cells #[.int .i64 0, .int .i64 0, .int .i64 0, .int .i64 0, .int .i64 0, .int .i64 0, .string (⟨#[]⟩ : ByteArray)] 44 (0, 0)) (by (with_reducible repeat (first | refine blk_drewN ?_ _ | refine blk_drew ?_ | refine blk_alloc ?_ _)); exact BK471.out)) : gb471 ≠ gb476))
                    have n6_ := Aside0.mk ((by rw [hg]; exact Nat.ne_of_gt (blk_lt (g := gb471) (o := .cells #[.int .i64 0, .int .i64 0, .int .i64 0, .int .i64 0, .int .i64 0, .int .i64 0, .string (⟨#[]⟩ : ByteArray)] 44 (0, 0)) (by (with_reducible repeat (first | refine blk_drewN ?_ _ | refine blk_drew ?_ | refine blk_alloc ?_ _)); exact BK471.out)) : gb476 ≠ gb471))
                    clear BK471
                    clear HB
                    have BK471 := n0_
                    have HB := n1_
                    have BK476 := n2_
                    have GW476 := n3_
                    have GE476 := n4_
                    have NB471_476 := n5_
                    have NB476_471 := n6_
                    clear n0_ n1_ n2_ n3_ n4_ n5_ n6_
                    clear hb hbox hg
                    refine hK.out _ _ trivial (fun hHeld => ?_)
                    clear hK K
                    refine norm_ (a' := ?_) ?_ ?_
                    rotate_left
                    · show Act.put _ (some 10) _ = _
                      simp only [Act.put, List.setIfInBounds_toArray, List.set_cons_zero, List.set_cons_succ, i64_w, i32_w]
                      rfl
                    refine one_ (i := 3) (N := some 29) #[true, true, true, true, true, true, false, false, true, false] rfl rfl (one_of HT_.out (by kernel_rfl)) (by decide) (fun K hK => ?_)
                    refine goes_ Try.func65 (by kernel_rfl) rfl #[.string (a1.extract 0 2)] (by rfl) rfl rfl (by (try simp only [List.map_toArray, List.map_cons, List.map_nil]); first | done | rfl | (simp only [List.length_drop, List.length_take]; rfl)) ?_
                    with_reducible refine (wharfageref1_Of.calls kj4 (a1.extract 0 2) t474 _ A15.out).mono ?_
                    rintro e w' ⟨rfl, ⟨nd, rfl⟩⟩
                    refine ⟨_, rfl, ?_⟩
                    refine hK.out _ _ trivial (fun hHeld => ?_)
                    clear hK K
                    refine norm_ (a' := ?_) ?_ ?_
                    rotate_left
                    · show Act.put _ (some 29) _ = _
                      simp only [Act.put, List.setIfInBounds_toArray, List.set_cons_zero, List.set_cons_succ, i64_w, i32_w]
                      rfl
                    refine one_ (i := 6) (N := some 32) #[true, true, true, true, true, true, true, false, true, false] rfl rfl (one_of HT_.out (by kernel_rfl)) (by decide) (fun K hK => ?_)
                    refine goes_ Try.func65 (by kernel_rfl) rfl #[.string (a1.extract 2 4)] (by rfl) rfl rfl (by (try simp only [List.map_toArray, List.map_cons, List.map_nil]); first | done | rfl | (simp only [List.length_drop, List.length_take]; rfl)) ?_
                    with_reducible refine (wharfageref1_Of.calls kj4 (a1.extract 2 4) t475 _ A18.out).mono ?_
                    rintro e w' ⟨rfl, ⟨nd, rfl⟩⟩
                    refine ⟨_, rfl, ?_⟩
                    refine hK.out _ _ trivial (fun hHeld => ?_)
                    clear hK K
                    refine norm_ (a' := ?_) ?_ ?_
                    rotate_left
                    · show Act.put _ (some 32) _ = _
                      simp only [Act.put, List.setIfInBounds_toArray, List.set_cons_zero, List.set_cons_succ, i64_w, i32_w]
                      rfl
                    refine pure_ (i := 7) (N := some 33) (v := ?_) (a' := ?_) #[true, true, true, true, true, true, true, true, true, false] rfl rfl (any_of HT_.out (by kernel_rfl)) (fun _ _ _ h => h) (Or.inl ⟨by rfl, ?_⟩) ?_ ?_
                    rotate_left
                    · intro w'
                      go_simp
                      with_reducible rfl
                    rotate_left
                    · simp only [Act.put, List.setIfInBounds_toArray, List.set_cons_zero, List.set_cons_succ, i64_w, i32_w]
                      rfl
                    exact norm_ (by simp only [putAll, Act.put, List.setIfInBounds_toArray, List.set_cons_zero, List.set_cons_succ]) (hCont (gb476) _ ⟨(by (with_reducible repeat (first | refine blk_drewN ?_ _ | refine blk_drew ?_ | refine blk_alloc ?_ _)); exact BK471.out), (by (with_reducible repeat (first | refine blk_drewN ?_ _ | refine blk_drew ?_ | refine blk_alloc ?_ _)); exact BK476.out), GW476.out, GE476.out, NB471_476.out, NB476_471.out, (by repeat (first | (with_reducible first | exact HB.out | apply below_alloc | apply pw_below_drewN | apply below_drew1 | refine below_set ?_ GE471.out | refine below_set ?_ GE476.out) | exact HB.out))⟩)
                rintro gb476 w22 ⟨h0_, h1_, h2_, h3_, h4_, h5_, h6_⟩
                have n0_ : Aside0 (w22.heap[gb471]? = some (.cells #[.int .i64 0, .int .i64 0, .int .i64 0, .int .i64 0, .int .i64 0, .int .i64 0, .string (⟨#[]⟩ : ByteArray)] 44 (0, 0))) := ⟨h0_⟩
                have n1_ : Aside0 (w22.heap[gb476]? = some (.cells #[.int .i64 0, .int .i64 0, .int .i64 0, .int .i64 0, .int .i64 0, .int .i64 0, .string (⟨#[]⟩ : ByteArray)] 44 (0, 0))) := ⟨h1_⟩
                have n2_ : Aside0 (w.heap.size ≤ gb476) := ⟨h2_⟩
                have n3_ : Aside0 (w.heap.size ≤ gb476) := ⟨h3_⟩
                have n4_ : Aside0 (gb471 ≠ gb476) := ⟨h4_⟩
                have n5_ : Aside0 (gb476 ≠ gb471) := ⟨h5_⟩
                have n6_ : Aside0 (Below w.heap.size w w22) := ⟨h6_⟩
                clear BK471
                clear HB
                clear h0_ h1_ h2_ h3_ h4_ h5_ h6_
                have BK471 := n0_
                have BK476 := n1_
                have GW476 := n2_
                have GE476 := n3_
                have NB471_476 := n4_
                have NB476_471 := n5_
                have HB := n6_
                clear n0_ n1_ n2_ n3_ n4_ n5_ n6_
                have hHeld := trivial
                refine norm_ (a' := ?_) ?_ ?_
                rotate_left
                · simp only [putAll, Act.put, List.setIfInBounds_toArray, List.set_cons_zero, List.set_cons_succ]
                  rfl
                refine one_ (i := 9) (N := none) #[true, true, true, true, true, true, true, true, true, true] rfl rfl (one_of HT_.out (by kernel_rfl)) (by decide) (fun K hK => ?_)
                have hs23 : w22.cell? ⟨gb476, 0, none⟩ = some (.int .i64 0) := (blk_cell BK476.out 0).trans rfl
                have hfs23 := blk_frozen BK476.out 0
                have hns23_0 := NB471_476.out
                have hms23_0 := NB476_471.out
                have hs24 : w22.cell? ⟨gb476, 1, none⟩ = some (.int .i64 0) := (blk_cell BK476.out 1).trans rfl
                have hfs24 := blk_frozen BK476.out 1
                have hns24_0 := NB471_476.out
                have hms24_0 := NB476_471.out
                have hs25 : w22.cell? ⟨gb476, 2, none⟩ = some (.int .i64 0) := (blk_cell BK476.out 2).trans rfl
                have hfs25 := blk_frozen BK476.out 2
                have hns25_0 := NB471_476.out
                have hms25_0 := NB476_471.out
                have hs26 : w22.cell? ⟨gb476, 3, none⟩ = some (.int .i64 0) := (blk_cell BK476.out 3).trans rfl
                have hfs26 := blk_frozen BK476.out 3
                have hns26_0 := NB471_476.out
                have hms26_0 := NB476_471.out
                have hs27 : w22.cell? ⟨gb476, 4, none⟩ = some (.int .i64 0) := (blk_cell BK476.out 4).trans rfl
                have hfs27 := blk_frozen BK476.out 4
                have hns27_0 := NB471_476.out
                have hms27_0 := NB476_471.out
                have hs28 : w22.cell? ⟨gb476, 5, none⟩ = some (.int .i64 0) := (blk_cell BK476.out 5).trans rfl
                have hfs28 := blk_frozen BK476.out 5
                have hns28_0 := NB471_476.out
                have hms28_0 := NB476_471.out
                have hs29 : w22.cell? ⟨gb476, 6, none⟩ = some (.string (⟨#[]⟩ : ByteArray)) := (blk_cell BK476.out 6).trans rfl
                have hfs29 := blk_frozen BK476.out 6
                have hns29_0 := NB471_476.out
                have hms29_0 := NB476_471.out
                refine skip_ (w1 := ?_) (by rfl) rfl ?_ ?_
                rotate_left
                · go_simp
                  rfl
                refine hK.out _ _ trivial (fun hHeld => ?_)
                clear hK K
                refine done_ (done_of HT_.out (by kernel_rfl)) ?_
                go_upto_region 5 with (fail)
                go_cut [34] (fun v34 wc => ∃ (kq : Nat) (x34_18 : Bool), v34 = .bool x34_18 ∧ Aside0 (wharfageref1_GetSeg.j1 kq a0 a1 a2 a3 false x34_18 a0 t474 t475 0 0 0 (⟨#[]⟩ : ByteArray) = some (r1, r2, r3, r4, r5, r6, r7, r8)) ∧ Aside0 (kq ≤ kj4) ∧ Aside0 (wc.heap[gb471]? = some (.cells #[.int .i64 0, .int .i64 0, .int .i64 0, .int .i64 0, .int .i64 0, .int .i64 0, .string (⟨#[]⟩ : ByteArray)] 44 (0, 0))) ∧ Aside0 (wc.heap[gb476]? = some (.cells #[.int .i64 a0, .int .i64 t474, .int .i64 t475, .int .i64 0, .int .i64 0, .int .i64 0, .string (⟨#[]⟩ : ByteArray)] 44 (0, 0))) ∧ Aside0 (Below w.heap.size w wc))
                case first =>
                  have H := HC19.out
                  clear HC19
                  by_cases c30 : a0 = 6
                  · rw [if_pos c30] at H
                    have c30b0 : (a0 == 6) = true := beq_iff_eq.mpr c30
                    have c30b1 : (a0 != 6) = false := bne_eq_false_iff_eq.mpr c30
                    clear c30
                    (first | rw [c30b0] | (simp only [i64_w, i32_w]; rw [c30b0]) | skip)
                    have H' := Aside0.mk H
                    clear H
                    go_wp2
                    go_meet
                    case rel => exact ⟨_, (decide ((a1.size : Int) ≥ 20)), (by first | rfl | (simp; done) | (simp [*]; done)), H', ⟨by have := HJ4.out; first | omega | exact Nat.le_refl _⟩, ⟨by (with_reducible repeat (first | refine blk_drewN ?_ _ | refine blk_drew ?_ | refine blk_alloc ?_ _)); refine blk_far ?_ NB471_476.out _; (with_reducible repeat (first | refine blk_drewN ?_ _ | refine blk_drew ?_ | refine blk_alloc ?_ _)); refine blk_far ?_ NB471_476.out _; (with_reducible repeat (first | refine blk_drewN ?_ _ | refine blk_drew ?_ | refine blk_alloc ?_ _)); refine blk_far ?_ NB471_476.out _; (with_reducible repeat (first | refine blk_drewN ?_ _ | refine blk_drew ?_ | refine blk_alloc ?_ _)); refine blk_far ?_ NB471_476.out _; (with_reducible repeat (first | refine blk_drewN ?_ _ | refine blk_drew ?_ | refine blk_alloc ?_ _)); refine blk_far ?_ NB471_476.out _; (with_reducible repeat (first | refine blk_drewN ?_ _ | refine blk_drew ?_ | refine blk_alloc ?_ _)); refine blk_far ?_ NB471_476.out _; (with_reducible repeat (first | refine blk_drewN ?_ _ | refine blk_drew ?_ | refine blk_alloc ?_ _)); refine blk_far ?_ NB471_476.out _; (with_reducible repeat (first | refine blk_drewN ?_ _ | refine blk_drew ?_ | refine blk_alloc ?_ _)); exact BK471.out⟩, ⟨by (with_reducible repeat (first | refine blk_drewN ?_ _ | refine blk_drew ?_ | refine blk_alloc ?_ _)); refine blk_put (cs := #[.int .i64 a0, .int .i64 t474, .int .i64 t475, .int .i64 0, .int .i64 0, .int .i64 0, .string (⟨#[]⟩ : ByteArray)]) ?_ 6 _ (by first | rfl | (simp [*]; done)); (with_reducible repeat (first | refine blk_drewN ?_ _ | refine blk_drew ?_ | refine blk_alloc ?_ _)); refine blk_put (cs := #[.int .i64 a0, .int .i64 t474, .int .i64 t475, .int .i64 0, .int .i64 0, .int .i64 0, .string (⟨#[]⟩ : ByteArray)]) ?_ 5 _ (by first | rfl | (simp [*]; done)); (with_reducible repeat (first | refine blk_drewN ?_ _ | refine blk_drew ?_ | refine blk_alloc ?_ _)); refine blk_put (cs := #[.int .i64 a0, .int .i64 t474, .int .i64 t475, .int .i64 0, .int .i64 0, .int .i64 0, .string (⟨#[]⟩ : ByteArray)]) ?_ 4 _ (by first | rfl | (simp [*]; done)); (with_reducible repeat (first | refine blk_drewN ?_ _ | refine blk_drew ?_ | refine blk_alloc ?_ _)); refine blk_put (cs := #[.int .i64 a0, .int .i64 t474, .int .i64 t475, .int .i64 0, .int .i64 0, .int .i64 0, .string (⟨#[]⟩ : ByteArray)]) ?_ 3 _ (by first | rfl | (simp [*]; done)); (with_reducible repeat (first | refine blk_drewN ?_ _ | refine blk_drew ?_ | refine blk_alloc ?_ _)); refine blk_put (cs := #[.int .i64 a0, .int .i64 t474, .int .i64 0, .int .i64 0, .int .i64 0, .int .i64 0, .string (⟨#[]⟩ : ByteArray)]) ?_ 2 _ (by first | rfl | (simp [*]; done)); (with_reducible repeat (first | refine blk_drewN ?_ _ | refine blk_drew ?_ | refine blk_alloc ?_ _)); refine blk_put (cs := #[.int .i64 a0, .int .i64 0, .int .i64 0, .int .i64 0, .int .i64 0, .int .i64 0, .string (⟨#[]⟩ : ByteArray)]) ?_ 1 _ (by first | rfl | (simp [*]; done)); (with_reducible repeat (first | refine blk_drewN ?_ _ | refine blk_drew ?_ | refine blk_alloc ?_ _)); refine blk_put (cs := #[.int .i64 0, .int .i64 0, .int .i64 0, .int .i64 0, .int .i64 0, .int .i64 0, .string (⟨#[]⟩ : ByteArray)]) ?_ 0 _ (by first | rfl | (simp [*]; done)); (with_reducible repeat (first | refine blk_drewN ?_ _ | refine blk_drew ?_ | refine blk_alloc ?_ _)); exact BK476.out⟩, ⟨by repeat (first | (with_reducible first | exact HB.out | apply below_alloc | apply pw_below_drewN | apply below_drew1 | refine below_set ?_ GE471.out | refine below_set ?_ GE476.out) | exact HB.out)⟩⟩
                  · rw [if_neg c30] at H
                    have c30b0 : (a0 == 6) = false := beq_eq_false_iff_ne.mpr c30
                    have c30b1 : (a0 != 6) = true := bne_iff_ne.mpr c30
                    (first | rw [c30b0] | (simp only [i64_w, i32_w]; rw [c30b0]) | skip)
                    have H' := Aside0.mk H
                    clear H
                    go_wp2
                    go_meet
                    case rel => exact ⟨_, (false), (by first | rfl | (simp; done) | (simp [*]; done)), H', ⟨by have := HJ4.out; first | omega | exact Nat.le_refl _⟩, ⟨by (with_reducible repeat (first | refine blk_drewN ?_ _ | refine blk_drew ?_ | refine blk_alloc ?_ _)); refine blk_far ?_ NB471_476.out _; (with_reducible repeat (first | refine blk_drewN ?_ _ | refine blk_drew ?_ | refine blk_alloc ?_ _)); refine blk_far ?_ NB471_476.out _; (with_reducible repeat (first | refine blk_drewN ?_ _ | refine blk_drew ?_ | refine blk_alloc ?_ _)); refine blk_far ?_ NB471_476.out _; (with_reducible repeat (first | refine blk_drewN ?_ _ | refine blk_drew ?_ | refine blk_alloc ?_ _)); refine blk_far ?_ NB471_476.out _; (with_reducible repeat (first | refine blk_drewN ?_ _ | refine blk_drew ?_ | refine blk_alloc ?_ _)); refine blk_far ?_ NB471_476.out _; (with_reducible repeat (first | refine blk_drewN ?_ _ | refine blk_drew ?_ | refine blk_alloc ?_ _)); refine blk_far ?_ NB471_476.out _; (with_reducible repeat (first | refine blk_drewN ?_ _ | refine blk_drew ?_ | refine blk_alloc ?_ _)); refine blk_far ?_ NB471_476.out _; (with_reducible repeat (first | refine blk_drewN ?_ _ | refine blk_drew ?_ | refine blk_alloc ?_ _)); exact BK471.out⟩, ⟨by (with_reducible repeat (first | refine blk_drewN ?_ _ | refine blk_drew ?_ | refine blk_alloc ?_ _)); refine blk_put (cs := #[.int .i64 a0, .int .i64 t474, .int .i64 t475, .int .i64 0, .int .i64 0, .int .i64 0, .string (⟨#[]⟩ : ByteArray)]) ?_ 6 _ (by first | rfl | (simp [*]; done)); (with_reducible repeat (first | refine blk_drewN ?_ _ | refine blk_drew ?_ | refine blk_alloc ?_ _)); refine blk_put (cs := #[.int .i64 a0, .int .i64 t474, .int .i64 t475, .int .i64 0, .int .i64 0, .int .i64 0, .string (⟨#[]⟩ : ByteArray)]) ?_ 5 _ (by first | rfl | (simp [*]; done)); (with_reducible repeat (first | refine blk_drewN ?_ _ | refine blk_drew ?_ | refine blk_alloc ?_ _)); refine blk_put (cs := #[.int .i64 a0, .int .i64 t474, .int .i64 t475, .int .i64 0, .int .i64 0, .int .i64 0, .string (⟨#[]⟩ : ByteArray)]) ?_ 4 _ (by first | rfl | (simp [*]; done)); (with_reducible repeat (first | refine blk_drewN ?_ _ | refine blk_drew ?_ | refine blk_alloc ?_ _)); refine blk_put (cs := #[.int .i64 a0, .int .i64 t474, .int .i64 t475, .int .i64 0, .int .i64 0, .int .i64 0, .string (⟨#[]⟩ : ByteArray)]) ?_ 3 _ (by first | rfl | (simp [*]; done)); (with_reducible repeat (first | refine blk_drewN ?_ _ | refine blk_drew ?_ | refine blk_alloc ?_ _)); refine blk_put (cs := #[.int .i64 a0, .int .i64 t474, .int .i64 0, .int .i64 0, .int .i64 0, .int .i64 0, .string (⟨#[]⟩ : ByteArray)]) ?_ 2 _ (by first | rfl | (simp [*]; done)); (with_reducible repeat (first | refine blk_drewN ?_ _ | refine blk_drew ?_ | refine blk_alloc ?_ _)); refine blk_put (cs := #[.int .i64 a0, .int .i64 0, .int .i64 0, .int .i64 0, .int .i64 0, .int .i64 0, .string (⟨#[]⟩ : ByteArray)]) ?_ 1 _ (by first | rfl | (simp [*]; done)); (with_reducible repeat (first | refine blk_drewN ?_ _ | refine blk_drew ?_ | refine blk_alloc ?_ _)); refine blk_put (cs := #[.int .i64 0, .int .i64 0, .int .i64 0, .int .i64 0, .int .i64 0, .int .i64 0, .string (⟨#[]⟩ : ByteArray)]) ?_ 0 _ (by first | rfl | (simp [*]; done)); (with_reducible repeat (first | refine blk_drewN ?_ _ | refine blk_drew ?_ | refine blk_alloc ?_ _)); exact BK476.out⟩, ⟨by repeat (first | (with_reducible first | exact HB.out | apply below_alloc | apply pw_below_drewN | apply below_drew1 | refine below_set ?_ GE471.out | refine below_set ?_ GE476.out) | exact HB.out)⟩⟩
                case rest =>
                  clear HC19
                  try clear c1
                  try clear p2
                  try clear c3
                  try clear c5
                  try clear c6
                  try clear c8
                  try clear c10
                  try clear c11
                  try clear c13
                  try clear c13b0
                  try clear c13b1
                  try clear c14
                  try clear c14b0
                  try clear c14b1
                  try clear c16
                  try clear c16b0
                  try clear c16b1
                  try clear c17
                  try clear c17b0
                  try clear c17b1
                  try clear c30
                  try clear c30b0
                  try clear c30b1
                  try clear hcz12_0
                  try clear hcz12_1
                  try clear hcz12_2
                  try clear hcz12_3
                  try clear hcz12_4
                  try clear hcz12_5
                  try clear hcz12_6
                  try clear hfz12_0
                  try clear hfz12_1
                  try clear hfz12_2
                  try clear hfz12_3
                  try clear hfz12_4
                  try clear hfz12_5
                  try clear hfz12_6
                  try clear p2
                  obtain ⟨kq, x34_18, rfl, HA, HJ18, BK471, BK476, HB⟩ := hcut
                  cases kq with
                  | zero => exact absurd HA.out (by simp [wharfageref1_GetSeg.j1])
                  | succ kj18 =>
                    have H := HA.out
                    clear HA
                    simp only [wharfageref1_GetSeg.j1] at H
                    by_cases c31 : x34_18 = true
                    · subst c31
                      have H1 : (if 4 ≤ 8 then (if 8 ≤ (a1.size : Int) then ((wharfageref1_Of.f kj18 (a1.extract 4 8)).bind fun t477 => (if 8 ≤ 12 then (if 12 ≤ (a1.size : Int) then ((wharfageref1_Of.f kj18 (a1.extract 8 12)).bind fun t478 => (if 13 < (a1.size : Int) then (if 20 ≤ (a1.size : Int) then (if 12 < (a1.size : Int) then (if (bt a1 12) = 80 then ((wharfageref1_pseudo.f kj18 a0 a1 a2 a3).bind fun t479 => (if t479 = 65535 then ((wharfageref1_SegMay.f kj18 a0 t474 t475 t477 t478 (wrap64 (bt a1 13)) (a1.extract 20 a1.size)).bind fun t480 => (if t480 = true then (some (a0, t474, t475, t477, t478, wrap64 (bt a1 13), a1.extract 20 a1.size, 0)) else (some (0, 0, 0, 0, 0, 0, (⟨#[]⟩ : ByteArray), 300)))) else (some (0, 0, 0, 0, 0, 0, (⟨#[]⟩ : ByteArray), 300)))) else (some (0, 0, 0, 0, 0, 0, (⟨#[]⟩ : ByteArray), 300))) else (none)) else (none)) else (none))) else (none)) else (none))) else (none)) else (none)) = some (r1, r2, r3, r4, r5, r6, r7, r8) := by rw [if_pos rfl] at H; exact H
                      clear H
                      have H := H1
                      clear H1
                      by_cases c32 : 4 ≤ 8
                      · rw [if_pos c32] at H
                        have c32b0 := eq_true c32
                        have c32b1 : decide (4 ≤ 8) = true := decide_eq_true c32
                        clear c32
                        by_cases c33 : 8 ≤ (a1.size : Int)
                        · rw [if_pos c33] at H
                          have c33b0 := eq_true c33
                          have c33b1 : decide (8 ≤ (a1.size : Int)) = true := decide_eq_true c33
                          clear c33
                          replace H := Option.bind_eq_some_iff.mp H
                          obtain ⟨t477, A340, H⟩ := H
                          replace H : (if 8 ≤ 12 then (if 12 ≤ (a1.size : Int) then ((wharfageref1_Of.f kj18 (a1.extract 8 12)).bind fun t478 => (if 13 < (a1.size : Int) then (if 20 ≤ (a1.size : Int) then (if 12 < (a1.size : Int) then (if (bt a1 12) = 80 then ((wharfageref1_pseudo.f kj18 a0 a1 a2 a3).bind fun t479 => (if t479 = 65535 then ((wharfageref1_SegMay.f kj18 a0 t474 t475 t477 t478 (wrap64 (bt a1 13)) (a1.extract 20 a1.size)).bind fun t480 => (if t480 = true then (some (a0, t474, t475, t477, t478, wrap64 (bt a1 13), a1.extract 20 a1.size, 0)) else (some (0, 0, 0, 0, 0, 0, (⟨#[]⟩ : ByteArray), 300)))) else (some (0, 0, 0, 0, 0, 0, (⟨#[]⟩ : ByteArray), 300)))) else (some (0, 0, 0, 0, 0, 0, (⟨#[]⟩ : ByteArray), 300))) else (none)) else (none)) else (none))) else (none)) else (none)) = some (r1, r2, r3, r4, r5, r6, r7, r8) := H
                          have A34 := Aside0.mk A340
                          clear A340
                          by_cases c35 : 8 ≤ 12
                          · rw [if_pos c35] at H
                            have c35b0 := eq_true c35
                            have c35b1 : decide (8 ≤ 12) = true := decide_eq_true c35
                            clear c35
                            by_cases c36 : 12 ≤ (a1.size : Int)
                            · rw [if_pos c36] at H
                              have c36b0 := eq_true c36
                              have c36b1 : decide (12 ≤ (a1.size : Int)) = true := decide_eq_true c36
                              clear c36
                              replace H := Option.bind_eq_some_iff.mp H
                              obtain ⟨t478, A370, H⟩ := H
                              replace H : (if 13 < (a1.size : Int) then (if 20 ≤ (a1.size : Int) then (if 12 < (a1.size : Int) then (if (bt a1 12) = 80 then ((wharfageref1_pseudo.f kj18 a0 a1 a2 a3).bind fun t479 => (if t479 = 65535 then ((wharfageref1_SegMay.f kj18 a0 t474 t475 t477 t478 (wrap64 (bt a1 13)) (a1.extract 20 a1.size)).bind fun t480 => (if t480 = true then (some (a0, t474, t475, t477, t478, wrap64 (bt a1 13), a1.extract 20 a1.size, 0)) else (some (0, 0, 0, 0, 0, 0, (⟨#[]⟩ : ByteArray), 300)))) else (some (0, 0, 0, 0, 0, 0, (⟨#[]⟩ : ByteArray), 300)))) else (some (0, 0, 0, 0, 0, 0, (⟨#[]⟩ : ByteArray), 300))) else (none)) else (none)) else (none)) = some (r1, r2, r3, r4, r5, r6, r7, r8) := H
                              have A37 := Aside0.mk A370
                              clear A370
                              by_cases c38 : 13 < (a1.size : Int)
                              · rw [if_pos c38] at H
                                have c38b0 : decide (13 < (a1.size : Int)) = true := decide_eq_true c38
                                have c38b1 : decide (13 < a1.size) = true := decide_eq_true (by omega)
                                clear c38
                                by_cases c40 : 20 ≤ (a1.size : Int)
                                · rw [if_pos c40] at H
                                  have c40b0 := eq_true c40
                                  have c40b1 : decide (20 ≤ (a1.size : Int)) = true := decide_eq_true c40
                                  clear c40
                                  by_cases c41 : 12 < (a1.size : Int)
                                  · rw [if_pos c41] at H
                                    have c41b0 : decide (12 < (a1.size : Int)) = true := decide_eq_true c41
                                    have c41b1 : decide (12 < a1.size) = true := decide_eq_true (by omega)
                                    clear c41
                                    by_cases c43 : (bt a1 12) = 80
                                    · rw [if_pos c43] at H
                                      have c43b0 : ((bt a1 12) == 80) = true := beq_iff_eq.mpr c43
                                      have c43b1 : ((bt a1 12) != 80) = false := bne_eq_false_iff_eq.mpr c43
                                      clear c43
                                      replace H := Option.bind_eq_some_iff.mp H
                                      obtain ⟨t479, A440, H⟩ := H
                                      replace H : (if t479 = 65535 then ((wharfageref1_SegMay.f kj18 a0 t474 t475 t477 t478 (wrap64 (bt a1 13)) (a1.extract 20 a1.size)).bind fun t480 => (if t480 = true then (some (a0, t474, t475, t477, t478, wrap64 (bt a1 13), a1.extract 20 a1.size, 0)) else (some (0, 0, 0, 0, 0, 0, (⟨#[]⟩ : ByteArray), 300)))) else (some (0, 0, 0, 0, 0, 0, (⟨#[]⟩ : ByteArray), 300))) = some (r1, r2, r3, r4, r5, r6, r7, r8) := H
                                      have A44 := Aside0.mk A440
                                      clear A440
                                      by_cases c45 : t479 = 65535
                                      · rw [if_pos c45] at H
                                        have c45b0 : (t479 == 65535) = true := beq_iff_eq.mpr c45
                                        have c45b1 : (t479 != 65535) = false := bne_eq_false_iff_eq.mpr c45
                                        clear c45
                                        replace H := Option.bind_eq_some_iff.mp H
                                        obtain ⟨t480, A460, H⟩ := H
                                        replace H : (if t480 = true then (some (a0, t474, t475, t477, t478, wrap64 (bt a1 13), a1.extract 20 a1.size, 0)) else (some (0, 0, 0, 0, 0, 0, (⟨#[]⟩ : ByteArray), 300))) = some (r1, r2, r3, r4, r5, r6, r7, r8) := H
                                        have A46 := Aside0.mk A460
                                        clear A460
                                        by_cases c47 : t480 = true
                                        · subst c47
                                          have H1 : (some (a0, t474, t475, t477, t478, wrap64 (bt a1 13), a1.extract 20 a1.size, 0)) = some (r1, r2, r3, r4, r5, r6, r7, r8) := by rw [if_pos rfl] at H; exact H
                                          clear H
                                          have H := H1
                                          clear H1
                                          simp only [Option.some.injEq, Prod.mk.injEq] at H
                                          obtain ⟨rfl, rfl, rfl, rfl, rfl, rfl, rfl, rfl⟩ := H
                                          go_wp2_with (first | ((with_reducible refine gate_callee (f := 65) rfl ?_); refine goesL_ (some 44) rfl rfl Try.func65 (by kernel_rfl) rfl #[.string (a1.extract 4 8)] rfl (by (try simp only [List.map_toArray, List.map_cons, List.map_nil]); first | done | rfl | (simp only [List.length_drop, List.length_take]; rfl)) ?_; (with_reducible refine (wharfageref1_Of.calls kj18 (a1.extract 4 8) t477 _ A34.out).mono ?_); rintro e w' ⟨rfl, ⟨nd, rfl⟩⟩; refine ⟨_, rfl, ?_⟩; (try (rw [drewN_self wc]; generalize hq_ : World.drewN wc _ = wc; have n0_ : Aside0 (wc.heap[gb471]? = some (.cells #[.int .i64 0, .int .i64 0, .int .i64 0, .int .i64 0, .int .i64 0, .int .i64 0, .string (⟨#[]⟩ : ByteArray)] 44 (0, 0))) := ⟨by rw [← hq_]; exact (by (with_reducible repeat (first | refine blk_drewN ?_ _ | refine blk_drew ?_ | refine blk_alloc ?_ _)); exact BK471.out)⟩; have n1_ : Aside0 (wc.heap[gb476]? = some (.cells #[.int .i64 a0, .int .i64 t474, .int .i64 t475, .int .i64 0, .int .i64 0, .int .i64 0, .string (⟨#[]⟩ : ByteArray)] 44 (0, 0))) := ⟨by rw [← hq_]; exact (by (with_reducible repeat (first | refine blk_drewN ?_ _ | refine blk_drew ?_ | refine blk_alloc ?_ _)); exact BK476.out)⟩; have n2_ : Aside0 (Below w.heap.size w wc) := ⟨by rw [← hq_]; exact (by repeat (first | (with_reducible first | exact HB.out | apply below_alloc | apply pw_below_drewN | apply below_drew1 | refine below_set ?_ GE471.out | refine below_set ?_ GE476.out) | exact HB.out))⟩; clear BK471 BK476 HB hq_; have BK471 := n0_; have BK476 := n1_; have HB := n2_; clear n0_ n1_ n2_)); have hnb48 := NB476_471.out; have hnc48 := NB471_476.out; have hcz49_0 : wc.cell? ⟨gb476, 0, none⟩ = some (.int .i64 a0) := (blk_cell BK476.out 0).trans rfl; have hcz49_1 : wc.cell? ⟨gb476, 1, none⟩ = some (.int .i64 t474) := (blk_cell BK476.out 1).trans rfl; have hcz49_2 : wc.cell? ⟨gb476, 2, none⟩ = some (.int .i64 t475) := (blk_cell BK476.out 2).trans rfl; have hcz49_3 : wc.cell? ⟨gb476, 3, none⟩ = some (.int .i64 0) := (blk_cell BK476.out 3).trans rfl; have hcz49_4 : wc.cell? ⟨gb476, 4, none⟩ = some (.int .i64 0) := (blk_cell BK476.out 4).trans rfl; have hcz49_5 : wc.cell? ⟨gb476, 5, none⟩ = some (.int .i64 0) := (blk_cell BK476.out 5).trans rfl; have hcz49_6 : wc.cell? ⟨gb476, 6, none⟩ = some (.string (⟨#[]⟩ : ByteArray)) := (blk_cell BK476.out 6).trans rfl; have hfz49_0 := blk_frozen BK476.out 0; have hfz49_1 := blk_frozen BK476.out 1; have hfz49_2 := blk_frozen BK476.out 2; have hfz49_3 := blk_frozen BK476.out 3; have hfz49_4 := blk_frozen BK476.out 4; have hfz49_5 := blk_frozen BK476.out 5; have hfz49_6 := blk_frozen BK476.out 6) | ((with_reducible refine gate_callee (f := 65) rfl ?_); refine goesL_ (some 48) rfl rfl Try.func65 (by kernel_rfl) rfl #[.string (a1.extract 8 12)] rfl (by (try simp only [List.map_toArray, List.map_cons, List.map_nil]); first | done | rfl | (simp only [List.length_drop, List.length_take]; rfl)) ?_; (with_reducible refine (wharfageref1_Of.calls kj18 (a1.extract 8 12) t478 _ A37.out).mono ?_); rintro e w' ⟨rfl, ⟨nd, rfl⟩⟩; refine ⟨_, rfl, ?_⟩; have p39 : 0 ≤ (13 : Int) := (by omega); have q39 : 13 < a1.size := (by have : (13 : Int) < (a1.size : Int) := of_decide_eq_true (by first | (with_reducible assumption) | assumption); omega); have hx39 : ∀ h : 13 < a1.size, ((a1[13]'h).toNat : Int) = bt a1 13 := bt_at a1 13; clear p39; have qi39 : (13 < (a1.size : Int)) = True := eq_true (of_decide_eq_true (by first | (with_reducible assumption) | assumption)); replace q39 := eq_true q39; have p42 : 0 ≤ (12 : Int) := (by omega); have q42 : 12 < a1.size := (by have : (12 : Int) < (a1.size : Int) := of_decide_eq_true (by first | (with_reducible assumption) | assumption); omega); have hx42 : ∀ h : 12 < a1.size, ((a1[12]'h).toNat : Int) = bt a1 12 := bt_at a1 12; clear p42; have qi42 : (12 < (a1.size : Int)) = True := eq_true (of_decide_eq_true (by first | (with_reducible assumption) | assumption)); replace q42 := eq_true q42) | (go_at_call 62; (with_reducible refine (wharfageref1_pseudo.calls kj18 a0 a1 a2 a3 t479 _ A44.out).mono ?_); rintro e w50 ⟨rfl, hb⟩; have n0_ := Aside0.mk (blk_below (g := gb471) (o := .cells #[.int .i64 0, .int .i64 0, .int .i64 0, .int .i64 0, .int .i64 0, .int .i64 0, .string (⟨#[]⟩ : ByteArray)] 44 (0, 0)) (by (with_reducible repeat (first | refine blk_drewN ?_ _ | refine blk_drew ?_ | refine blk_alloc ?_ _)); refine blk_far ?_ NB471_476.out _; (with_reducible repeat (first | refine blk_drewN ?_ _ | refine blk_drew ?_ | refine blk_alloc ?_ _)); refine blk_far ?_ NB471_476.out _; (with_reducible repeat (first | refine blk_drewN ?_ _ | refine blk_drew ?_ | refine blk_alloc ?_ _)); refine blk_far ?_ NB471_476.out _; (with_reducible repeat (first | refine blk_drewN ?_ _ | refine blk_drew ?_ | refine blk_alloc ?_ _)); refine blk_far ?_ NB471_476.out _; (with_reducible repeat (first | refine blk_drewN ?_ _ | refine blk_drew ?_ | refine blk_alloc ?_ _)); exact BK471.out) hb); have n1_ := Aside0.mk (blk_below (g := gb476) (o := .cells #[.int .i64 a0, .int .i64 t474, .int .i64 t475, .int .i64 t477, .int .i64 t478, .int .i64 (wrap64 (bt a1 13)), .string (a1.extract 20 a1.size)] 44 (0, 0)) (by (with_reducible repeat (first | refine blk_drewN ?_ _ | refine blk_drew ?_ | refine blk_alloc ?_ _)); refine blk_put (cs := #[.int .i64 a0, .int .i64 t474, .int .i64 t475, .int .i64 t477, .int .i64 t478, .int .i64 (wrap64 (bt a1 13)), .string (⟨#[]⟩ : ByteArray)]) ?_ 6 _ (by first | rfl | (simp [*]; done)); (with_reducible repeat (first | refine blk_drewN ?_ _ | refine blk_drew ?_ | refine blk_alloc ?_ _)); refine blk_put (cs := #[.int .i64 a0, .int .i64 t474, .int .i64 t475, .int .i64 t477, .int .i64 t478, .int .i64 0, .string (⟨#[]⟩ : ByteArray)]) ?_ 5 _ (by first | rfl | (simp [*]; done)); (with_reducible repeat (first | refine blk_drewN ?_ _ | refine blk_drew ?_ | refine blk_alloc ?_ _)); refine blk_put (cs := #[.int .i64 a0, .int .i64 t474, .int .i64 t475, .int .i64 t477, .int .i64 0, .int .i64 0, .string (⟨#[]⟩ : ByteArray)]) ?_ 4 _ (by first | rfl | (simp [*]; done)); (with_reducible repeat (first | refine blk_drewN ?_ _ | refine blk_drew ?_ | refine blk_alloc ?_ _)); refine blk_put (cs := #[.int .i64 a0, .int .i64 t474, .int .i64 t475, .int .i64 0, .int .i64 0, .int .i64 0, .string (⟨#[]⟩ : ByteArray)]) ?_ 3 _ (by first | rfl | (simp [*]; done)); (with_reducible repeat (first | refine blk_drewN ?_ _ | refine blk_drew ?_ | refine blk_alloc ?_ _)); exact BK476.out) hb); have n2_ := Aside0.mk (below_step (by repeat (first | (with_reducible first | exact HB.out | apply below_alloc | apply pw_below_drewN | apply below_drew1 | refine below_set ?_ GE471.out | refine below_set ?_ GE476.out) | exact HB.out)) hb); clear BK471; clear BK476; clear HB; have BK471 := n0_; have BK476 := n1_; have HB := n2_; clear n0_ n1_ n2_; (try clear hb); (try clear hb2); (try clear hk); (try clear hi); have hcz51_0 : w50.cell? ⟨gb476, 0, none⟩ = some (.int .i64 a0) := (blk_cell BK476.out 0).trans rfl; have hcz51_1 : w50.cell? ⟨gb476, 1, none⟩ = some (.int .i64 t474) := (blk_cell BK476.out 1).trans rfl; have hcz51_2 : w50.cell? ⟨gb476, 2, none⟩ = some (.int .i64 t475) := (blk_cell BK476.out 2).trans rfl; have hcz51_3 : w50.cell? ⟨gb476, 3, none⟩ = some (.int .i64 t477) := (blk_cell BK476.out 3).trans rfl; have hcz51_4 : w50.cell? ⟨gb476, 4, none⟩ = some (.int .i64 t478) := (blk_cell BK476.out 4).trans rfl; have hcz51_5 : w50.cell? ⟨gb476, 5, none⟩ = some (.int .i64 (wrap64 (bt a1 13))) := (blk_cell BK476.out 5).trans rfl; have hcz51_6 : w50.cell? ⟨gb476, 6, none⟩ = some (.string (a1.extract 20 a1.size)) := (blk_cell BK476.out 6).trans rfl; have hfz51_0 := blk_frozen BK476.out 0; have hfz51_1 := blk_frozen BK476.out 1; have hfz51_2 := blk_frozen BK476.out 2; have hfz51_3 := blk_frozen BK476.out 3; have hfz51_4 := blk_frozen BK476.out 4; have hfz51_5 := blk_frozen BK476.out 5; have hfz51_6 := blk_frozen BK476.out 6) | (go_at_call 34; (with_reducible refine (wharfageref1_SegMay.calls kj18 a0 t474 t475 t477 t478 (wrap64 (bt a1 13)) (a1.extract 20 a1.size) true _ A46.out).mono ?_); rintro e w52 ⟨rfl, hb⟩; have n0_ := Aside0.mk (blk_below (g := gb471) (o := .cells #[.int .i64 0, .int .i64 0, .int .i64 0, .int .i64 0, .int .i64 0, .int .i64 0, .string (⟨#[]⟩ : ByteArray)] 44 (0, 0)) (by (with_reducible repeat (first | refine blk_drewN ?_ _ | refine blk_drew ?_ | refine blk_alloc ?_ _)); exact BK471.out) hb); have n1_ := Aside0.mk (blk_below (g := gb476) (o := .cells #[.int .i64 a0, .int .i64 t474, .int .i64 t475, .int .i64 t477, .int .i64 t478, .int .i64 (wrap64 (bt a1 13)), .string (a1.extract 20 a1.size)] 44 (0, 0)) (by (with_reducible repeat (first | refine blk_drewN ?_ _ | refine blk_drew ?_ | refine blk_alloc ?_ _)); exact BK476.out) hb); have n2_ := Aside0.mk (below_step (by repeat (first | (with_reducible first | exact HB.out | apply below_alloc | apply pw_below_drewN | apply below_drew1 | refine below_set ?_ GE471.out | refine below_set ?_ GE476.out) | exact HB.out)) hb); clear BK471; clear BK476; clear HB; have BK471 := n0_; have BK476 := n1_; have HB := n2_; clear n0_ n1_ n2_; (try clear hb); (try clear hb2); (try clear hk); (try clear hi); have hcz53_0 : w52.cell? ⟨gb476, 0, none⟩ = some (.int .i64 a0) := (blk_cell BK476.out 0).trans rfl; have hcz53_1 : w52.cell? ⟨gb476, 1, none⟩ = some (.int .i64 t474) := (blk_cell BK476.out 1).trans rfl; have hcz53_2 : w52.cell? ⟨gb476, 2, none⟩ = some (.int .i64 t475) := (blk_cell BK476.out 2).trans rfl; have hcz53_3 : w52.cell? ⟨gb476, 3, none⟩ = some (.int .i64 t477) := (blk_cell BK476.out 3).trans rfl; have hcz53_4 : w52.cell? ⟨gb476, 4, none⟩ = some (.int .i64 t478) := (blk_cell BK476.out 4).trans rfl; have hcz53_5 : w52.cell? ⟨gb476, 5, none⟩ = some (.int .i64 (wrap64 (bt a1 13))) := (blk_cell BK476.out 5).trans rfl; have hcz53_6 : w52.cell? ⟨gb476, 6, none⟩ = some (.string (a1.extract 20 a1.size)) := (blk_cell BK476.out 6).trans rfl; have hfz53_0 := blk_frozen BK476.out 0; have hfz53_1 := blk_frozen BK476.out 1; have hfz53_2 := blk_frozen BK476.out 2; have hfz53_3 := blk_frozen BK476.out 3; have hfz53_4 := blk_frozen BK476.out 4; have hfz53_5 := blk_frozen BK476.out 5; have hfz53_6 := blk_frozen BK476.out 6; have hcz54_0 : w52.cell? ⟨gb471, 0, none⟩ = some (.int .i64 0) := (blk_cell BK471.out 0).trans rfl; have hcz54_1 : w52.cell? ⟨gb471, 1, none⟩ = some (.int .i64 0) := (blk_cell BK471.out 1).trans rfl; have hcz54_2 : w52.cell? ⟨gb471, 2, none⟩ = some (.int .i64 0) := (blk_cell BK471.out 2).trans rfl; have hcz54_3 : w52.cell? ⟨gb471, 3, none⟩ = some (.int .i64 0) := (blk_cell BK471.out 3).trans rfl; have hcz54_4 : w52.cell? ⟨gb471, 4, none⟩ = some (.int .i64 0) := (blk_cell BK471.out 4).trans rfl; have hcz54_5 : w52.cell? ⟨gb471, 5, none⟩ = some (.int .i64 0) := (blk_cell BK471.out 5).trans rfl; have hcz54_6 : w52.cell? ⟨gb471, 6, none⟩ = some (.string (⟨#[]⟩ : ByteArray)) := (blk_cell BK471.out 6).trans rfl; have hfz54_0 := blk_frozen BK471.out 0; have hfz54_1 := blk_frozen BK471.out 1; have hfz54_2 := blk_frozen BK471.out 2; have hfz54_3 := blk_frozen BK471.out 3; have hfz54_4 := blk_frozen BK471.out 4; have hfz54_5 := blk_frozen BK471.out 5; have hfz54_6 := blk_frozen BK471.out 6))
                                          refine bodyPost_ret (results_ct rfl _ _ gb471 44 #[.int .i64 a0, .int .i64 t474, .int .i64 t475, .int .i64 t477, .int .i64 t478, .int .i64 (wrap64 (bt a1 13)), .string (a1.extract 20 a1.size)] (0, 0) _ rfl (by (with_reducible repeat (first | refine blk_drewN ?_ _ | refine blk_drew ?_ | refine blk_alloc ?_ _)); refine blk_put (cs := #[.int .i64 a0, .int .i64 t474, .int .i64 t475, .int .i64 t477, .int .i64 t478, .int .i64 (wrap64 (bt a1 13)), .string (⟨#[]⟩ : ByteArray)]) ?_ 6 _ (by first | rfl | (simp [*]; done)); (with_reducible repeat (first | refine blk_drewN ?_ _ | refine blk_drew ?_ | refine blk_alloc ?_ _)); refine blk_put (cs := #[.int .i64 a0, .int .i64 t474, .int .i64 t475, .int .i64 t477, .int .i64 t478, .int .i64 0, .string (⟨#[]⟩ : ByteArray)]) ?_ 5 _ (by first | rfl | (simp [*]; done)); (with_reducible repeat (first | refine blk_drewN ?_ _ | refine blk_drew ?_ | refine blk_alloc ?_ _)); refine blk_put (cs := #[.int .i64 a0, .int .i64 t474, .int .i64 t475, .int .i64 t477, .int .i64 0, .int .i64 0, .string (⟨#[]⟩ : ByteArray)]) ?_ 4 _ (by first | rfl | (simp [*]; done)); (with_reducible repeat (first | refine blk_drewN ?_ _ | refine blk_drew ?_ | refine blk_alloc ?_ _)); refine blk_put (cs := #[.int .i64 a0, .int .i64 t474, .int .i64 t475, .int .i64 0, .int .i64 0, .int .i64 0, .string (⟨#[]⟩ : ByteArray)]) ?_ 3 _ (by first | rfl | (simp [*]; done)); (with_reducible repeat (first | refine blk_drewN ?_ _ | refine blk_drew ?_ | refine blk_alloc ?_ _)); refine blk_put (cs := #[.int .i64 a0, .int .i64 t474, .int .i64 0, .int .i64 0, .int .i64 0, .int .i64 0, .string (⟨#[]⟩ : ByteArray)]) ?_ 2 _ (by first | rfl | (simp [*]; done)); (with_reducible repeat (first | refine blk_drewN ?_ _ | refine blk_drew ?_ | refine blk_alloc ?_ _)); refine blk_put (cs := #[.int .i64 a0, .int .i64 0, .int .i64 0, .int .i64 0, .int .i64 0, .int .i64 0, .string (⟨#[]⟩ : ByteArray)]) ?_ 1 _ (by first | rfl | (simp [*]; done)); (with_reducible repeat (first | refine blk_drewN ?_ _ | refine blk_drew ?_ | refine blk_alloc ?_ _)); refine blk_put (cs := #[.int .i64 0, .int .i64 0, .int .i64 0, .int .i64 0, .int .i64 0, .int .i64 0, .string (⟨#[]⟩ : ByteArray)]) ?_ 0 _ (by first | rfl | (simp [*]; done)); (with_reducible repeat (first | refine blk_drewN ?_ _ | refine blk_drew ?_ | refine blk_alloc ?_ _)); exact BK471.out) Try.underlying44 rfl (by kernel_rfl)) rfl ?_
                                          exact ⟨by first | rfl | (simp [errW_none, errW_some] <;> rfl) | (simp [*, errW_none, errW_some] <;> rfl), by repeat (first | (with_reducible first | exact HB.out | apply below_alloc | apply pw_below_drewN | apply below_drew1 | refine below_set ?_ GE471.out | refine below_set ?_ GE476.out) | exact HB.out)⟩
                                        · replace c47 := Bool.eq_false_iff.mpr c47
                                          subst c47
                                          have H1 : (some (0, 0, 0, 0, 0, 0, (⟨#[]⟩ : ByteArray), 300)) = some (r1, r2, r3, r4, r5, r6, r7, r8) := by rw [if_neg (show ¬ (false = true) by decide)] at H; exact H
                                          clear H
                                          have H := H1
                                          clear H1
                                          simp only [Option.some.injEq, Prod.mk.injEq] at H
                                          obtain ⟨rfl, rfl, rfl, rfl, rfl, rfl, rfl, rfl⟩ := H
                                          go_wp2_with (first | ((with_reducible refine gate_callee (f := 65) rfl ?_); refine goesL_ (some 44) rfl rfl Try.func65 (by kernel_rfl) rfl #[.string (a1.extract 4 8)] rfl (by (try simp only [List.map_toArray, List.map_cons, List.map_nil]); first | done | rfl | (simp only [List.length_drop, List.length_take]; rfl)) ?_; (with_reducible refine (wharfageref1_Of.calls kj18 (a1.extract 4 8) t477 _ A34.out).mono ?_); rintro e w' ⟨rfl, ⟨nd, rfl⟩⟩; refine ⟨_, rfl, ?_⟩; (try (rw [drewN_self wc]; generalize hq_ : World.drewN wc _ = wc; have n0_ : Aside0 (wc.heap[gb471]? = some (.cells #[.int .i64 0, .int .i64 0, .int .i64 0, .int .i64 0, .int .i64 0, .int .i64 0, .string (⟨#[]⟩ : ByteArray)] 44 (0, 0))) := ⟨by rw [← hq_]; exact (by (with_reducible repeat (first | refine blk_drewN ?_ _ | refine blk_drew ?_ | refine blk_alloc ?_ _)); exact BK471.out)⟩; have n1_ : Aside0 (wc.heap[gb476]? = some (.cells #[.int .i64 a0, .int .i64 t474, .int .i64 t475, .int .i64 0, .int .i64 0, .int .i64 0, .string (⟨#[]⟩ : ByteArray)] 44 (0, 0))) := ⟨by rw [← hq_]; exact (by (with_reducible repeat (first | refine blk_drewN ?_ _ | refine blk_drew ?_ | refine blk_alloc ?_ _)); exact BK476.out)⟩; have n2_ : Aside0 (Below w.heap.size w wc) := ⟨by rw [← hq_]; exact (by repeat (first | (with_reducible first | exact HB.out | apply below_alloc | apply pw_below_drewN | apply below_drew1 | refine below_set ?_ GE471.out | refine below_set ?_ GE476.out) | exact HB.out))⟩; clear BK471 BK476 HB hq_; have BK471 := n0_; have BK476 := n1_; have HB := n2_; clear n0_ n1_ n2_)); have hnb55 := NB476_471.out; have hnc55 := NB471_476.out; have hcz56_0 : wc.cell? ⟨gb476, 0, none⟩ = some (.int .i64 a0) := (blk_cell BK476.out 0).trans rfl; have hcz56_1 : wc.cell? ⟨gb476, 1, none⟩ = some (.int .i64 t474) := (blk_cell BK476.out 1).trans rfl; have hcz56_2 : wc.cell? ⟨gb476, 2, none⟩ = some (.int .i64 t475) := (blk_cell BK476.out 2).trans rfl; have hcz56_3 : wc.cell? ⟨gb476, 3, none⟩ = some (.int .i64 0) := (blk_cell BK476.out 3).trans rfl; have hcz56_4 : wc.cell? ⟨gb476, 4, none⟩ = some (.int .i64 0) := (blk_cell BK476.out 4).trans rfl; have hcz56_5 : wc.cell? ⟨gb476, 5, none⟩ = some (.int .i64 0) := (blk_cell BK476.out 5).trans rfl; have hcz56_6 : wc.cell? ⟨gb476, 6, none⟩ = some (.string (⟨#[]⟩ : ByteArray)) := (blk_cell BK476.out 6).trans rfl; have hfz56_0 := blk_frozen BK476.out 0; have hfz56_1 := blk_frozen BK476.out 1; have hfz56_2 := blk_frozen BK476.out 2; have hfz56_3 := blk_frozen BK476.out 3; have hfz56_4 := blk_frozen BK476.out 4; have hfz56_5 := blk_frozen BK476.out 5; have hfz56_6 := blk_frozen BK476.out 6) | ((with_reducible refine gate_callee (f := 65) rfl ?_); refine goesL_ (some 48) rfl rfl Try.func65 (by kernel_rfl) rfl #[.string (a1.extract 8 12)] rfl (by (try simp only [List.map_toArray, List.map_cons, List.map_nil]); first | done | rfl | (simp only [List.length_drop, List.length_take]; rfl)) ?_; (with_reducible refine (wharfageref1_Of.calls kj18 (a1.extract 8 12) t478 _ A37.out).mono ?_); rintro e w' ⟨rfl, ⟨nd, rfl⟩⟩; refine ⟨_, rfl, ?_⟩; have p39 : 0 ≤ (13 : Int) := (by omega); have q39 : 13 < a1.size := (by have : (13 : Int) < (a1.size : Int) := of_decide_eq_true (by first | (with_reducible assumption) | assumption); omega); have hx39 : ∀ h : 13 < a1.size, ((a1[13]'h).toNat : Int) = bt a1 13 := bt_at a1 13; clear p39; have qi39 : (13 < (a1.size : Int)) = True := eq_true (of_decide_eq_true (by first | (with_reducible assumption) | assumption)); replace q39 := eq_true q39; have p42 : 0 ≤ (12 : Int) := (by omega); have q42 : 12 < a1.size := (by have : (12 : Int) < (a1.size : Int) := of_decide_eq_true (by first | (with_reducible assumption) | assumption); omega); have hx42 : ∀ h : 12 < a1.size, ((a1[12]'h).toNat : Int) = bt a1 12 := bt_at a1 12; clear p42; have qi42 : (12 < (a1.size : Int)) = True := eq_true (of_decide_eq_true (by first | (with_reducible assumption) | assumption)); replace q42 := eq_true q42) | (go_at_call 62; (with_reducible refine (wharfageref1_pseudo.calls kj18 a0 a1 a2 a3 t479 _ A44.out).mono ?_); rintro e w57 ⟨rfl, hb⟩; have n0_ := Aside0.mk (blk_below (g := gb471) (o := .cells #[.int .i64 0, .int .i64 0, .int .i64 0, .int .i64 0, .int .i64 0, .int .i64 0, .string (⟨#[]⟩ : ByteArray)] 44 (0, 0)) (by (with_reducible repeat (first | refine blk_drewN ?_ _ | refine blk_drew ?_ | refine blk_alloc ?_ _)); refine blk_far ?_ NB471_476.out _; (with_reducible repeat (first | refine blk_drewN ?_ _ | refine blk_drew ?_ | refine blk_alloc ?_ _)); refine blk_far ?_ NB471_476.out _; (with_reducible repeat (first | refine blk_drewN ?_ _ | refine blk_drew ?_ | refine blk_alloc ?_ _)); refine blk_far ?_ NB471_476.out _; (with_reducible repeat (first | refine blk_drewN ?_ _ | refine blk_drew ?_ | refine blk_alloc ?_ _)); refine blk_far ?_ NB471_476.out _; (with_reducible repeat (first | refine blk_drewN ?_ _ | refine blk_drew ?_ | refine blk_alloc ?_ _)); exact BK471.out) hb); have n1_ := Aside0.mk (blk_below (g := gb476) (o := .cells #[.int .i64 a0, .int .i64 t474, .int .i64 t475, .int .i64 t477, .int .i64 t478, .int .i64 (wrap64 (bt a1 13)), .string (a1.extract 20 a1.size)] 44 (0, 0)) (by (with_reducible repeat (first | refine blk_drewN ?_ _ | refine blk_drew ?_ | refine blk_alloc ?_ _)); refine blk_put (cs := #[.int .i64 a0, .int .i64 t474, .int .i64 t475, .int .i64 t477, .int .i64 t478, .int .i64 (wrap64 (bt a1 13)), .string (⟨#[]⟩ : ByteArray)]) ?_ 6 _ (by first | rfl | (simp [*]; done)); (with_reducible repeat (first | refine blk_drewN ?_ _ | refine blk_drew ?_ | refine blk_alloc ?_ _)); refine blk_put (cs := #[.int .i64 a0, .int .i64 t474, .int .i64 t475, .int .i64 t477, .int .i64 t478, .int .i64 0, .string (⟨#[]⟩ : ByteArray)]) ?_ 5 _ (by first | rfl | (simp [*]; done)); (with_reducible repeat (first | refine blk_drewN ?_ _ | refine blk_drew ?_ | refine blk_alloc ?_ _)); refine blk_put (cs := #[.int .i64 a0, .int .i64 t474, .int .i64 t475, .int .i64 t477, .int .i64 0, .int .i64 0, .string (⟨#[]⟩ : ByteArray)]) ?_ 4 _ (by first | rfl | (simp [*]; done)); (with_reducible repeat (first | refine blk_drewN ?_ _ | refine blk_drew ?_ | refine blk_alloc ?_ _)); refine blk_put (cs := #[.int .i64 a0, .int .i64 t474, .int .i64 t475, .int .i64 0, .int .i64 0, .int .i64 0, .string (⟨#[]⟩ : ByteArray)]) ?_ 3 _ (by first | rfl | (simp [*]; done)); (with_reducible repeat (first | refine blk_drewN ?_ _ | refine blk_drew ?_ | refine blk_alloc ?_ _)); exact BK476.out) hb); have n2_ := Aside0.mk (below_step (by repeat (first | (with_reducible first | exact HB.out | apply below_alloc | apply pw_below_drewN | apply below_drew1 | refine below_set ?_ GE471.out | refine below_set ?_ GE476.out) | exact HB.out)) hb); clear BK471; clear BK476; clear HB; have BK471 := n0_; have BK476 := n1_; have HB := n2_; clear n0_ n1_ n2_; (try clear hb); (try clear hb2); (try clear hk); (try clear hi); have hcz58_0 : w57.cell? ⟨gb476, 0, none⟩ = some (.int .i64 a0) := (blk_cell BK476.out 0).trans rfl; have hcz58_1 : w57.cell? ⟨gb476, 1, none⟩ = some (.int .i64 t474) := (blk_cell BK476.out 1).trans rfl; have hcz58_2 : w57.cell? ⟨gb476, 2, none⟩ = some (.int .i64 t475) := (blk_cell BK476.out 2).trans rfl; have hcz58_3 : w57.cell? ⟨gb476, 3, none⟩ = some (.int .i64 t477) := (blk_cell BK476.out 3).trans rfl; have hcz58_4 : w57.cell? ⟨gb476, 4, none⟩ = some (.int .i64 t478) := (blk_cell BK476.out 4).trans rfl; have hcz58_5 : w57.cell? ⟨gb476, 5, none⟩ = some (.int .i64 (wrap64 (bt a1 13))) := (blk_cell BK476.out 5).trans rfl; have hcz58_6 : w57.cell? ⟨gb476, 6, none⟩ = some (.string (a1.extract 20 a1.size)) := (blk_cell BK476.out 6).trans rfl; have hfz58_0 := blk_frozen BK476.out 0; have hfz58_1 := blk_frozen BK476.out 1; have hfz58_2 := blk_frozen BK476.out 2; have hfz58_3 := blk_frozen BK476.out 3; have hfz58_4 := blk_frozen BK476.out 4; have hfz58_5 := blk_frozen BK476.out 5; have hfz58_6 := blk_frozen BK476.out 6) | (go_at_call 34; (with_reducible refine (wharfageref1_SegMay.calls kj18 a0 t474 t475 t477 t478 (wrap64 (bt a1 13)) (a1.extract 20 a1.size) false _ A46.out).mono ?_); rintro e w59 ⟨rfl, hb⟩; have n0_ := Aside0.mk (blk_below (g := gb471) (o := .cells #[.int .i64 0, .int .i64 0, .int .i64 0, .int .i64 0, .int .i64 0, .int .i64 0, .string (⟨#[]⟩ : ByteArray)] 44 (0, 0)) (by (with_reducible repeat (first | refine blk_drewN ?_ _ | refine blk_drew ?_ | refine blk_alloc ?_ _)); exact BK471.out) hb); have n1_ := Aside0.mk (blk_below (g := gb476) (o := .cells #[.int .i64 a0, .int .i64 t474, .int .i64 t475, .int .i64 t477, .int .i64 t478, .int .i64 (wrap64 (bt a1 13)), .string (a1.extract 20 a1.size)] 44 (0, 0)) (by (with_reducible repeat (first | refine blk_drewN ?_ _ | refine blk_drew ?_ | refine blk_alloc ?_ _)); exact BK476.out) hb); have n2_ := Aside0.mk (below_step (by repeat (first | (with_reducible first | exact HB.out | apply below_alloc | apply pw_below_drewN | apply below_drew1 | refine below_set ?_ GE471.out | refine below_set ?_ GE476.out) | exact HB.out)) hb); clear BK471; clear BK476; clear HB; have BK471 := n0_; have BK476 := n1_; have HB := n2_; clear n0_ n1_ n2_; (try clear hb); (try clear hb2); (try clear hk); (try clear hi); have hcz60_0 : w59.cell? ⟨gb471, 0, none⟩ = some (.int .i64 0) := (blk_cell BK471.out 0).trans rfl; have hcz60_1 : w59.cell? ⟨gb471, 1, none⟩ = some (.int .i64 0) := (blk_cell BK471.out 1).trans rfl; have hcz60_2 : w59.cell? ⟨gb471, 2, none⟩ = some (.int .i64 0) := (blk_cell BK471.out 2).trans rfl; have hcz60_3 : w59.cell? ⟨gb471, 3, none⟩ = some (.int .i64 0) := (blk_cell BK471.out 3).trans rfl; have hcz60_4 : w59.cell? ⟨gb471, 4, none⟩ = some (.int .i64 0) := (blk_cell BK471.out 4).trans rfl; have hcz60_5 : w59.cell? ⟨gb471, 5, none⟩ = some (.int .i64 0) := (blk_cell BK471.out 5).trans rfl; have hcz60_6 : w59.cell? ⟨gb471, 6, none⟩ = some (.string (⟨#[]⟩ : ByteArray)) := (blk_cell BK471.out 6).trans rfl; have hfz60_0 := blk_frozen BK471.out 0; have hfz60_1 := blk_frozen BK471.out 1; have hfz60_2 := blk_frozen BK471.out 2; have hfz60_3 := blk_frozen BK471.out 3; have hfz60_4 := blk_frozen BK471.out 4; have hfz60_5 := blk_frozen BK471.out 5; have hfz60_6 := blk_frozen BK471.out 6))
                                          refine bodyPost_ret (results_ct rfl _ _ gb471 44 #[.int .i64 0, .int .i64 0, .int .i64 0, .int .i64 0, .int .i64 0, .int .i64 0, .string (⟨#[]⟩ : ByteArray)] (0, 0) _ rfl (by (with_reducible repeat (first | refine blk_drewN ?_ _ | refine blk_drew ?_ | refine blk_alloc ?_ _)); refine blk_put (cs := #[.int .i64 0, .int .i64 0, .int .i64 0, .int .i64 0, .int .i64 0, .int .i64 0, .string (⟨#[]⟩ : ByteArray)]) ?_ 6 _ (by first | rfl | (simp [*]; done)); (with_reducible repeat (first | refine blk_drewN ?_ _ | refine blk_drew ?_ | refine blk_alloc ?_ _)); refine blk_put (cs := #[.int .i64 0, .int .i64 0, .int .i64 0, .int .i64 0, .int .i64 0, .int .i64 0, .string (⟨#[]⟩ : ByteArray)]) ?_ 5 _ (by first | rfl | (simp [*]; done)); (with_reducible repeat (first | refine blk_drewN ?_ _ | refine blk_drew ?_ | refine blk_alloc ?_ _)); refine blk_put (cs := #[.int .i64 0, .int .i64 0, .int .i64 0, .int .i64 0, .int .i64 0, .int .i64 0, .string (⟨#[]⟩ : ByteArray)]) ?_ 4 _ (by first | rfl | (simp [*]; done)); (with_reducible repeat (first | refine blk_drewN ?_ _ | refine blk_drew ?_ | refine blk_alloc ?_ _)); refine blk_put (cs := #[.int .i64 0, .int .i64 0, .int .i64 0, .int .i64 0, .int .i64 0, .int .i64 0, .string (⟨#[]⟩ : ByteArray)]) ?_ 3 _ (by first | rfl | (simp [*]; done)); (with_reducible repeat (first | refine blk_drewN ?_ _ | refine blk_drew ?_ | refine blk_alloc ?_ _)); refine blk_put (cs := #[.int .i64 0, .int .i64 0, .int .i64 0, .int .i64 0, .int .i64 0, .int .i64 0, .string (⟨#[]⟩ : ByteArray)]) ?_ 2 _ (by first | rfl | (simp [*]; done)); (with_reducible repeat (first | refine blk_drewN ?_ _ | refine blk_drew ?_ | refine blk_alloc ?_ _)); refine blk_put (cs := #[.int .i64 0, .int .i64 0, .int .i64 0, .int .i64 0, .int .i64 0, .int .i64 0, .string (⟨#[]⟩ : ByteArray)]) ?_ 1 _ (by first | rfl | (simp [*]; done)); (with_reducible repeat (first | refine blk_drewN ?_ _ | refine blk_drew ?_ | refine blk_alloc ?_ _)); refine blk_put (cs := #[.int .i64 0, .int .i64 0, .int .i64 0, .int .i64 0, .int .i64 0, .int .i64 0, .string (⟨#[]⟩ : ByteArray)]) ?_ 0 _ (by first | rfl | (simp [*]; done)); (with_reducible repeat (first | refine blk_drewN ?_ _ | refine blk_drew ?_ | refine blk_alloc ?_ _)); exact BK471.out) Try.underlying44 rfl (by kernel_rfl)) rfl ?_
                                          exact ⟨by first | rfl | (simp [errW_none, errW_some] <;> rfl) | (simp [*, errW_none, errW_some] <;> rfl), by repeat (first | (with_reducible first | exact HB.out | apply below_alloc | apply pw_below_drewN | apply below_drew1 | refine below_set ?_ GE471.out | refine below_set ?_ GE476.out) | exact HB.out)⟩
                                      · rw [if_neg c45] at H
                                        have c45b0 : (t479 == 65535) = false := beq_eq_false_iff_ne.mpr c45
                                        have c45b1 : (t479 != 65535) = true := bne_iff_ne.mpr c45
                                        simp only [Option.some.injEq, Prod.mk.injEq] at H
                                        obtain ⟨rfl, rfl, rfl, rfl, rfl, rfl, rfl, rfl⟩ := H
                                        go_wp2_with (first | ((with_reducible refine gate_callee (f := 65) rfl ?_); refine goesL_ (some 44) rfl rfl Try.func65 (by kernel_rfl) rfl #[.string (a1.extract 4 8)] rfl (by (try simp only [List.map_toArray, List.map_cons, List.map_nil]); first | done | rfl | (simp only [List.length_drop, List.length_take]; rfl)) ?_; (with_reducible refine (wharfageref1_Of.calls kj18 (a1.extract 4 8) t477 _ A34.out).mono ?_); rintro e w' ⟨rfl, ⟨nd, rfl⟩⟩; refine ⟨_, rfl, ?_⟩; (try (rw [drewN_self wc]; generalize hq_ : World.drewN wc _ = wc; have n0_ : Aside0 (wc.heap[gb471]? = some (.cells #[.int .i64 0, .int .i64 0, .int .i64 0, .int .i64 0, .int .i64 0, .int .i64 0, .string (⟨#[]⟩ : ByteArray)] 44 (0, 0))) := ⟨by rw [← hq_]; exact (by (with_reducible repeat (first | refine blk_drewN ?_ _ | refine blk_drew ?_ | refine blk_alloc ?_ _)); exact BK471.out)⟩; have n1_ : Aside0 (wc.heap[gb476]? = some (.cells #[.int .i64 a0, .int .i64 t474, .int .i64 t475, .int .i64 0, .int .i64 0, .int .i64 0, .string (⟨#[]⟩ : ByteArray)] 44 (0, 0))) := ⟨by rw [← hq_]; exact (by (with_reducible repeat (first | refine blk_drewN ?_ _ | refine blk_drew ?_ | refine blk_alloc ?_ _)); exact BK476.out)⟩; have n2_ : Aside0 (Below w.heap.size w wc) := ⟨by rw [← hq_]; exact (by repeat (first | (with_reducible first | exact HB.out | apply below_alloc | apply pw_below_drewN | apply below_drew1 | refine below_set ?_ GE471.out | refine below_set ?_ GE476.out) | exact HB.out))⟩; clear BK471 BK476 HB hq_; have BK471 := n0_; have BK476 := n1_; have HB := n2_; clear n0_ n1_ n2_)); have hnb61 := NB476_471.out; have hnc61 := NB471_476.out; have hcz62_0 : wc.cell? ⟨gb476, 0, none⟩ = some (.int .i64 a0) := (blk_cell BK476.out 0).trans rfl; have hcz62_1 : wc.cell? ⟨gb476, 1, none⟩ = some (.int .i64 t474) := (blk_cell BK476.out 1).trans rfl; have hcz62_2 : wc.cell? ⟨gb476, 2, none⟩ = some (.int .i64 t475) := (blk_cell BK476.out 2).trans rfl; have hcz62_3 : wc.cell? ⟨gb476, 3, none⟩ = some (.int .i64 0) := (blk_cell BK476.out 3).trans rfl; have hcz62_4 : wc.cell? ⟨gb476, 4, none⟩ = some (.int .i64 0) := (blk_cell BK476.out 4).trans rfl; have hcz62_5 : wc.cell? ⟨gb476, 5, none⟩ = some (.int .i64 0) := (blk_cell BK476.out 5).trans rfl; have hcz62_6 : wc.cell? ⟨gb476, 6, none⟩ = some (.string (⟨#[]⟩ : ByteArray)) := (blk_cell BK476.out 6).trans rfl; have hfz62_0 := blk_frozen BK476.out 0; have hfz62_1 := blk_frozen BK476.out 1; have hfz62_2 := blk_frozen BK476.out 2; have hfz62_3 := blk_frozen BK476.out 3; have hfz62_4 := blk_frozen BK476.out 4; have hfz62_5 := blk_frozen BK476.out 5; have hfz62_6 := blk_frozen BK476.out 6) | ((with_reducible refine gate_callee (f := 65) rfl ?_); refine goesL_ (some 48) rfl rfl Try.func65 (by kernel_rfl) rfl #[.string (a1.extract 8 12)] rfl (by (try simp only [List.map_toArray, List.map_cons, List.map_nil]); first | done | rfl | (simp only [List.length_drop, List.length_take]; rfl)) ?_; (with_reducible refine (wharfageref1_Of.calls kj18 (a1.extract 8 12) t478 _ A37.out).mono ?_); rintro e w' ⟨rfl, ⟨nd, rfl⟩⟩; refine ⟨_, rfl, ?_⟩; have p39 : 0 ≤ (13 : Int) := (by omega); have q39 : 13 < a1.size := (by have : (13 : Int) < (a1.size : Int) := of_decide_eq_true (by first | (with_reducible assumption) | assumption); omega); have hx39 : ∀ h : 13 < a1.size, ((a1[13]'h).toNat : Int) = bt a1 13 := bt_at a1 13; clear p39; have qi39 : (13 < (a1.size : Int)) = True := eq_true (of_decide_eq_true (by first | (with_reducible assumption) | assumption)); replace q39 := eq_true q39; have p42 : 0 ≤ (12 : Int) := (by omega); have q42 : 12 < a1.size := (by have : (12 : Int) < (a1.size : Int) := of_decide_eq_true (by first | (with_reducible assumption) | assumption); omega); have hx42 : ∀ h : 12 < a1.size, ((a1[12]'h).toNat : Int) = bt a1 12 := bt_at a1 12; clear p42; have qi42 : (12 < (a1.size : Int)) = True := eq_true (of_decide_eq_true (by first | (with_reducible assumption) | assumption)); replace q42 := eq_true q42) | (go_at_call 62; (with_reducible refine (wharfageref1_pseudo.calls kj18 a0 a1 a2 a3 t479 _ A44.out).mono ?_); rintro e w63 ⟨rfl, hb⟩; have n0_ := Aside0.mk (blk_below (g := gb471) (o := .cells #[.int .i64 0, .int .i64 0, .int .i64 0, .int .i64 0, .int .i64 0, .int .i64 0, .string (⟨#[]⟩ : ByteArray)] 44 (0, 0)) (by (with_reducible repeat (first | refine blk_drewN ?_ _ | refine blk_drew ?_ | refine blk_alloc ?_ _)); refine blk_far ?_ NB471_476.out _; (with_reducible repeat (first | refine blk_drewN ?_ _ | refine blk_drew ?_ | refine blk_alloc ?_ _)); refine blk_far ?_ NB471_476.out _; (with_reducible repeat (first | refine blk_drewN ?_ _ | refine blk_drew ?_ | refine blk_alloc ?_ _)); refine blk_far ?_ NB471_476.out _; (with_reducible repeat (first | refine blk_drewN ?_ _ | refine blk_drew ?_ | refine blk_alloc ?_ _)); refine blk_far ?_ NB471_476.out _; (with_reducible repeat (first | refine blk_drewN ?_ _ | refine blk_drew ?_ | refine blk_alloc ?_ _)); exact BK471.out) hb); have n1_ := Aside0.mk (blk_below (g := gb476) (o := .cells #[.int .i64 a0, .int .i64 t474, .int .i64 t475, .int .i64 t477, .int .i64 t478, .int .i64 (wrap64 (bt a1 13)), .string (a1.extract 20 a1.size)] 44 (0, 0)) (by (with_reducible repeat (first | refine blk_drewN ?_ _ | refine blk_drew ?_ | refine blk_alloc ?_ _)); refine blk_put (cs := #[.int .i64 a0, .int .i64 t474, .int .i64 t475, .int .i64 t477, .int .i64 t478, .int .i64 (wrap64 (bt a1 13)), .string (⟨#[]⟩ : ByteArray)]) ?_ 6 _ (by first | rfl | (simp [*]; done)); (with_reducible repeat (first | refine blk_drewN ?_ _ | refine blk_drew ?_ | refine blk_alloc ?_ _)); refine blk_put (cs := #[.int .i64 a0, .int .i64 t474, .int .i64 t475, .int .i64 t477, .int .i64 t478, .int .i64 0, .string (⟨#[]⟩ : ByteArray)]) ?_ 5 _ (by first | rfl | (simp [*]; done)); (with_reducible repeat (first | refine blk_drewN ?_ _ | refine blk_drew ?_ | refine blk_alloc ?_ _)); refine blk_put (cs := #[.int .i64 a0, .int .i64 t474, .int .i64 t475, .int .i64 t477, .int .i64 0, .int .i64 0, .string (⟨#[]⟩ : ByteArray)]) ?_ 4 _ (by first | rfl | (simp [*]; done)); (with_reducible repeat (first | refine blk_drewN ?_ _ | refine blk_drew ?_ | refine blk_alloc ?_ _)); refine blk_put (cs := #[.int .i64 a0, .int .i64 t474, .int .i64 t475, .int .i64 0, .int .i64 0, .int .i64 0, .string (⟨#[]⟩ : ByteArray)]) ?_ 3 _ (by first | rfl | (simp [*]; done)); (with_reducible repeat (first | refine blk_drewN ?_ _ | refine blk_drew ?_ | refine blk_alloc ?_ _)); exact BK476.out) hb); have n2_ := Aside0.mk (below_step (by repeat (first | (with_reducible first | exact HB.out | apply below_alloc | apply pw_below_drewN | apply below_drew1 | refine below_set ?_ GE471.out | refine below_set ?_ GE476.out) | exact HB.out)) hb); clear BK471; clear BK476; clear HB; have BK471 := n0_; have BK476 := n1_; have HB := n2_; clear n0_ n1_ n2_; (try clear hb); (try clear hb2); (try clear hk); (try clear hi); have hcz64_0 : w63.cell? ⟨gb471, 0, none⟩ = some (.int .i64 0) := (blk_cell BK471.out 0).trans rfl; have hcz64_1 : w63.cell? ⟨gb471, 1, none⟩ = some (.int .i64 0) := (blk_cell BK471.out 1).trans rfl; have hcz64_2 : w63.cell? ⟨gb471, 2, none⟩ = some (.int .i64 0) := (blk_cell BK471.out 2).trans rfl; have hcz64_3 : w63.cell? ⟨gb471, 3, none⟩ = some (.int .i64 0) := (blk_cell BK471.out 3).trans rfl; have hcz64_4 : w63.cell? ⟨gb471, 4, none⟩ = some (.int .i64 0) := (blk_cell BK471.out 4).trans rfl; have hcz64_5 : w63.cell? ⟨gb471, 5, none⟩ = some (.int .i64 0) := (blk_cell BK471.out 5).trans rfl; have hcz64_6 : w63.cell? ⟨gb471, 6, none⟩ = some (.string (⟨#[]⟩ : ByteArray)) := (blk_cell BK471.out 6).trans rfl; have hfz64_0 := blk_frozen BK471.out 0; have hfz64_1 := blk_frozen BK471.out 1; have hfz64_2 := blk_frozen BK471.out 2; have hfz64_3 := blk_frozen BK471.out 3; have hfz64_4 := blk_frozen BK471.out 4; have hfz64_5 := blk_frozen BK471.out 5; have hfz64_6 := blk_frozen BK471.out 6))
                                        refine bodyPost_ret (results_ct rfl _ _ gb471 44 #[.int .i64 0, .int .i64 0, .int .i64 0, .int .i64 0, .int .i64 0, .int .i64 0, .string (⟨#[]⟩ : ByteArray)] (0, 0) _ rfl (by (with_reducible repeat (first | refine blk_drewN ?_ _ | refine blk_drew ?_ | refine blk_alloc ?_ _)); refine blk_put (cs := #[.int .i64 0, .int .i64 0, .int .i64 0, .int .i64 0, .int .i64 0, .int .i64 0, .string (⟨#[]⟩ : ByteArray)]) ?_ 6 _ (by first | rfl | (simp [*]; done)); (with_reducible repeat (first | refine blk_drewN ?_ _ | refine blk_drew ?_ | refine blk_alloc ?_ _)); refine blk_put (cs := #[.int .i64 0, .int .i64 0, .int .i64 0, .int .i64 0, .int .i64 0, .int .i64 0, .string (⟨#[]⟩ : ByteArray)]) ?_ 5 _ (by first | rfl | (simp [*]; done)); (with_reducible repeat (first | refine blk_drewN ?_ _ | refine blk_drew ?_ | refine blk_alloc ?_ _)); refine blk_put (cs := #[.int .i64 0, .int .i64 0, .int .i64 0, .int .i64 0, .int .i64 0, .int .i64 0, .string (⟨#[]⟩ : ByteArray)]) ?_ 4 _ (by first | rfl | (simp [*]; done)); (with_reducible repeat (first | refine blk_drewN ?_ _ | refine blk_drew ?_ | refine blk_alloc ?_ _)); refine blk_put (cs := #[.int .i64 0, .int .i64 0, .int .i64 0, .int .i64 0, .int .i64 0, .int .i64 0, .string (⟨#[]⟩ : ByteArray)]) ?_ 3 _ (by first | rfl | (simp [*]; done)); (with_reducible repeat (first | refine blk_drewN ?_ _ | refine blk_drew ?_ | refine blk_alloc ?_ _)); refine blk_put (cs := #[.int .i64 0, .int .i64 0, .int .i64 0, .int .i64 0, .int .i64 0, .int .i64 0, .string (⟨#[]⟩ : ByteArray)]) ?_ 2 _ (by first | rfl | (simp [*]; done)); (with_reducible repeat (first | refine blk_drewN ?_ _ | refine blk_drew ?_ | refine blk_alloc ?_ _)); refine blk_put (cs := #[.int .i64 0, .int .i64 0, .int .i64 0, .int .i64 0, .int .i64 0, .int .i64 0, .string (⟨#[]⟩ : ByteArray)]) ?_ 1 _ (by first | rfl | (simp [*]; done)); (with_reducible repeat (first | refine blk_drewN ?_ _ | refine blk_drew ?_ | refine blk_alloc ?_ _)); refine blk_put (cs := #[.int .i64 0, .int .i64 0, .int .i64 0, .int .i64 0, .int .i64 0, .int .i64 0, .string (⟨#[]⟩ : ByteArray)]) ?_ 0 _ (by first | rfl | (simp [*]; done)); (with_reducible repeat (first | refine blk_drewN ?_ _ | refine blk_drew ?_ | refine blk_alloc ?_ _)); exact BK471.out) Try.underlying44 rfl (by kernel_rfl)) rfl ?_
                                        exact ⟨by first | rfl | (simp [errW_none, errW_some] <;> rfl) | (simp [*, errW_none, errW_some] <;> rfl), by repeat (first | (with_reducible first | exact HB.out | apply below_alloc | apply pw_below_drewN | apply below_drew1 | refine below_set ?_ GE471.out | refine below_set ?_ GE476.out) | exact HB.out)⟩
                                    · rw [if_neg c43] at H
                                      have c43b0 : ((bt a1 12) == 80) = false := beq_eq_false_iff_ne.mpr c43
                                      have c43b1 : ((bt a1 12) != 80) = true := bne_iff_ne.mpr c43
                                      simp only [Option.some.injEq, Prod.mk.injEq] at H
                                      obtain ⟨rfl, rfl, rfl, rfl, rfl, rfl, rfl, rfl⟩ := H
                                      go_wp2_with (first | ((with_reducible refine gate_callee (f := 65) rfl ?_); refine goesL_ (some 44) rfl rfl Try.func65 (by kernel_rfl) rfl #[.string (a1.extract 4 8)] rfl (by (try simp only [List.map_toArray, List.map_cons, List.map_nil]); first | done | rfl | (simp only [List.length_drop, List.length_take]; rfl)) ?_; (with_reducible refine (wharfageref1_Of.calls kj18 (a1.extract 4 8) t477 _ A34.out).mono ?_); rintro e w' ⟨rfl, ⟨nd, rfl⟩⟩; refine ⟨_, rfl, ?_⟩; (try (rw [drewN_self wc]; generalize hq_ : World.drewN wc _ = wc; have n0_ : Aside0 (wc.heap[gb471]? = some (.cells #[.int .i64 0, .int .i64 0, .int .i64 0, .int .i64 0, .int .i64 0, .int .i64 0, .string (⟨#[]⟩ : ByteArray)] 44 (0, 0))) := ⟨by rw [← hq_]; exact (by (with_reducible repeat (first | refine blk_drewN ?_ _ | refine blk_drew ?_ | refine blk_alloc ?_ _)); exact BK471.out)⟩; have n1_ : Aside0 (wc.heap[gb476]? = some (.cells #[.int .i64 a0, .int .i64 t474, .int .i64 t475, .int .i64 0, .int .i64 0, .int .i64 0, .string (⟨#[]⟩ : ByteArray)] 44 (0, 0))) := ⟨by rw [← hq_]; exact (by (with_reducible repeat (first | refine blk_drewN ?_ _ | refine blk_drew ?_ | refine blk_alloc ?_ _)); exact BK476.out)⟩; have n2_ : Aside0 (Below w.heap.size w wc) := ⟨by rw [← hq_]; exact (by repeat (first | (with_reducible first | exact HB.out | apply below_alloc | apply pw_below_drewN | apply below_drew1 | refine below_set ?_ GE471.out | refine below_set ?_ GE476.out) | exact HB.out))⟩; clear BK471 BK476 HB hq_; have BK471 := n0_; have BK476 := n1_; have HB := n2_; clear n0_ n1_ n2_)); have hnb65 := NB476_471.out; have hnc65 := NB471_476.out; have hcz66_0 : wc.cell? ⟨gb476, 0, none⟩ = some (.int .i64 a0) := (blk_cell BK476.out 0).trans rfl; have hcz66_1 : wc.cell? ⟨gb476, 1, none⟩ = some (.int .i64 t474) := (blk_cell BK476.out 1).trans rfl; have hcz66_2 : wc.cell? ⟨gb476, 2, none⟩ = some (.int .i64 t475) := (blk_cell BK476.out 2).trans rfl; have hcz66_3 : wc.cell? ⟨gb476, 3, none⟩ = some (.int .i64 0) := (blk_cell BK476.out 3).trans rfl; have hcz66_4 : wc.cell? ⟨gb476, 4, none⟩ = some (.int .i64 0) := (blk_cell BK476.out 4).trans rfl; have hcz66_5 : wc.cell? ⟨gb476, 5, none⟩ = some (.int .i64 0) := (blk_cell BK476.out 5).trans rfl; have hcz66_6 : wc.cell? ⟨gb476, 6, none⟩ = some (.string (⟨#[]⟩ : ByteArray)) := (blk_cell BK476.out 6).trans rfl; have hfz66_0 := blk_frozen BK476.out 0; have hfz66_1 := blk_frozen BK476.out 1; have hfz66_2 := blk_frozen BK476.out 2; have hfz66_3 := blk_frozen BK476.out 3; have hfz66_4 := blk_frozen BK476.out 4; have hfz66_5 := blk_frozen BK476.out 5; have hfz66_6 := blk_frozen BK476.out 6) | ((with_reducible refine gate_callee (f := 65) rfl ?_); refine goesL_ (some 48) rfl rfl Try.func65 (by kernel_rfl) rfl #[.string (a1.extract 8 12)] rfl (by (try simp only [List.map_toArray, List.map_cons, List.map_nil]); first | done | rfl | (simp only [List.length_drop, List.length_take]; rfl)) ?_; (with_reducible refine (wharfageref1_Of.calls kj18 (a1.extract 8 12) t478 _ A37.out).mono ?_); rintro e w' ⟨rfl, ⟨nd, rfl⟩⟩; refine ⟨_, rfl, ?_⟩; have p39 : 0 ≤ (13 : Int) := (by omega); have q39 : 13 < a1.size := (by have : (13 : Int) < (a1.size : Int) := of_decide_eq_true (by first | (with_reducible assumption) | assumption); omega); have hx39 : ∀ h : 13 < a1.size, ((a1[13]'h).toNat : Int) = bt a1 13 := bt_at a1 13; clear p39; have qi39 : (13 < (a1.size : Int)) = True := eq_true (of_decide_eq_true (by first | (with_reducible assumption) | assumption)); replace q39 := eq_true q39; have p42 : 0 ≤ (12 : Int) := (by omega); have q42 : 12 < a1.size := (by have : (12 : Int) < (a1.size : Int) := of_decide_eq_true (by first | (with_reducible assumption) | assumption); omega); have hx42 : ∀ h : 12 < a1.size, ((a1[12]'h).toNat : Int) = bt a1 12 := bt_at a1 12; clear p42; have qi42 : (12 < (a1.size : Int)) = True := eq_true (of_decide_eq_true (by first | (with_reducible assumption) | assumption)); replace q42 := eq_true q42; have hcz67_0 : wc.cell? ⟨gb471, 0, none⟩ = some (.int .i64 0) := (blk_cell BK471.out 0).trans rfl; have hcz67_1 : wc.cell? ⟨gb471, 1, none⟩ = some (.int .i64 0) := (blk_cell BK471.out 1).trans rfl; have hcz67_2 : wc.cell? ⟨gb471, 2, none⟩ = some (.int .i64 0) := (blk_cell BK471.out 2).trans rfl; have hcz67_3 : wc.cell? ⟨gb471, 3, none⟩ = some (.int .i64 0) := (blk_cell BK471.out 3).trans rfl; have hcz67_4 : wc.cell? ⟨gb471, 4, none⟩ = some (.int .i64 0) := (blk_cell BK471.out 4).trans rfl; have hcz67_5 : wc.cell? ⟨gb471, 5, none⟩ = some (.int .i64 0) := (blk_cell BK471.out 5).trans rfl; have hcz67_6 : wc.cell? ⟨gb471, 6, none⟩ = some (.string (⟨#[]⟩ : ByteArray)) := (blk_cell BK471.out 6).trans rfl; have hfz67_0 := blk_frozen BK471.out 0; have hfz67_1 := blk_frozen BK471.out 1; have hfz67_2 := blk_frozen BK471.out 2; have hfz67_3 := blk_frozen BK471.out 3; have hfz67_4 := blk_frozen BK471.out 4; have hfz67_5 := blk_frozen BK471.out 5; have hfz67_6 := blk_frozen BK471.out 6))
                                      refine bodyPost_ret (results_ct rfl _ _ gb471 44 #[.int .i64 0, .int .i64 0, .int .i64 0, .int .i64 0, .int .i64 0, .int .i64 0, .string (⟨#[]⟩ : ByteArray)] (0, 0) _ rfl (by (with_reducible repeat (first | refine blk_drewN ?_ _ | refine blk_drew ?_ | refine blk_alloc ?_ _)); refine blk_put (cs := #[.int .i64 0, .int .i64 0, .int .i64 0, .int .i64 0, .int .i64 0, .int .i64 0, .string (⟨#[]⟩ : ByteArray)]) ?_ 6 _ (by first | rfl | (simp [*]; done)); (with_reducible repeat (first | refine blk_drewN ?_ _ | refine blk_drew ?_ | refine blk_alloc ?_ _)); refine blk_put (cs := #[.int .i64 0, .int .i64 0, .int .i64 0, .int .i64 0, .int .i64 0, .int .i64 0, .string (⟨#[]⟩ : ByteArray)]) ?_ 5 _ (by first | rfl | (simp [*]; done)); (with_reducible repeat (first | refine blk_drewN ?_ _ | refine blk_drew ?_ | refine blk_alloc ?_ _)); refine blk_put (cs := #[.int .i64 0, .int .i64 0, .int .i64 0, .int .i64 0, .int .i64 0, .int .i64 0, .string (⟨#[]⟩ : ByteArray)]) ?_ 4 _ (by first | rfl | (simp [*]; done)); (with_reducible repeat (first | refine blk_drewN ?_ _ | refine blk_drew ?_ | refine blk_alloc ?_ _)); refine blk_put (cs := #[.int .i64 0, .int .i64 0, .int .i64 0, .int .i64 0, .int .i64 0, .int .i64 0, .string (⟨#[]⟩ : ByteArray)]) ?_ 3 _ (by first | rfl | (simp [*]; done)); (with_reducible repeat (first | refine blk_drewN ?_ _ | refine blk_drew ?_ | refine blk_alloc ?_ _)); refine blk_put (cs := #[.int .i64 0, .int .i64 0, .int .i64 0, .int .i64 0, .int .i64 0, .int .i64 0, .string (⟨#[]⟩ : ByteArray)]) ?_ 2 _ (by first | rfl | (simp [*]; done)); (with_reducible repeat (first | refine blk_drewN ?_ _ | refine blk_drew ?_ | refine blk_alloc ?_ _)); refine blk_put (cs := #[.int .i64 0, .int .i64 0, .int .i64 0, .int .i64 0, .int .i64 0, .int .i64 0, .string (⟨#[]⟩ : ByteArray)]) ?_ 1 _ (by first | rfl | (simp [*]; done)); (with_reducible repeat (first | refine blk_drewN ?_ _ | refine blk_drew ?_ | refine blk_alloc ?_ _)); refine blk_put (cs := #[.int .i64 0, .int .i64 0, .int .i64 0, .int .i64 0, .int .i64 0, .int .i64 0, .string (⟨#[]⟩ : ByteArray)]) ?_ 0 _ (by first | rfl | (simp [*]; done)); (with_reducible repeat (first | refine blk_drewN ?_ _ | refine blk_drew ?_ | refine blk_alloc ?_ _)); refine blk_far ?_ NB471_476.out _; (with_reducible repeat (first | refine blk_drewN ?_ _ | refine blk_drew ?_ | refine blk_alloc ?_ _)); refine blk_far ?_ NB471_476.out _; (with_reducible repeat (first | refine blk_drewN ?_ _ | refine blk_drew ?_ | refine blk_alloc ?_ _)); refine blk_far ?_ NB471_476.out _; (with_reducible repeat (first | refine blk_drewN ?_ _ | refine blk_drew ?_ | refine blk_alloc ?_ _)); refine blk_far ?_ NB471_476.out _; (with_reducible repeat (first | refine blk_drewN ?_ _ | refine blk_drew ?_ | refine blk_alloc ?_ _)); exact BK471.out) Try.underlying44 rfl (by kernel_rfl)) rfl ?_
                                      exact ⟨by first | rfl | (simp [errW_none, errW_some] <;> rfl) | (simp [*, errW_none, errW_some] <;> rfl), by repeat (first | (with_reducible first | exact HB.out | apply below_alloc | apply pw_below_drewN | apply below_drew1 | refine below_set ?_ GE471.out | refine below_set ?_ GE476.out) | exact HB.out)⟩
                                  · rw [if_neg c41] at H
                                    exact absurd H (by simp)
                                · rw [if_neg c40] at H
                                  exact absurd H (by simp)
                              · rw [if_neg c38] at H
                                exact absurd H (by simp)
                            · rw [if_neg c36] at H
                              exact absurd H (by simp)
                          · rw [if_neg c35] at H
                            exact absurd H (by simp)
                        · rw [if_neg c33] at H
                          exact absurd H (by simp)
                      · rw [if_neg c32] at H
                        exact absurd H (by simp)
                    · replace c31 := Bool.eq_false_iff.mpr c31
                      subst c31
                      have H1 : (if a0 = 17 then (if 8 ≤ (a1.size : Int) then (if 4 ≤ 6 then (if 6 ≤ (a1.size : Int) then ((wharfageref1_Of.f kj18 (a1.extract 4 6)).bind fun t481 => (if t481 = (a1.size : Int) then (if 6 ≤ 8 then ((wharfageref1_Of.f kj18 (a1.extract 6 8)).bind fun t482 => (if t482 = 0 then ((wharfageref1_SegMay.f kj18 a0 t474 t475 0 0 0 (a1.extract 8 a1.size)).bind fun t483 => (if t483 = true then (some (a0, t474, t475, 0, 0, 0, a1.extract 8 a1.size, 0)) else (some (0, 0, 0, 0, 0, 0, (⟨#[]⟩ : ByteArray), 300)))) else ((wharfageref1_pseudo.f kj18 a0 a1 a2 a3).bind fun t484 => (if t484 = 65535 then ((wharfageref1_SegMay.f kj18 a0 t474 t475 0 0 0 (a1.extract 8 a1.size)).bind fun t485 => (if t485 = true then (some (a0, t474, t475, 0, 0, 0, a1.extract 8 a1.size, 0)) else (some (0, 0, 0, 0, 0, 0, (⟨#[]⟩ : ByteArray), 300)))) else (some (0, 0, 0, 0, 0, 0, (⟨#[]⟩ : ByteArray), 300)))))) else (none)) else (some (0, 0, 0, 0, 0, 0, (⟨#[]⟩ : ByteArray), 300)))) else (none)) else (none)) else (none)) else (if false = true then ((wharfageref1_SegMay.f kj18 a0 t474 t475 0 0 0 (⟨#[]⟩ : ByteArray)).bind fun t486 => (if t486 = true then (some (a0, t474, t475, 0, 0, 0, (⟨#[]⟩ : ByteArray), 0)) else (some (0, 0, 0, 0, 0, 0, (⟨#[]⟩ : ByteArray), 300)))) else (some (0, 0, 0, 0, 0, 0, (⟨#[]⟩ : ByteArray), 300)))) = some (r1, r2, r3, r4, r5, r6, r7, r8) := by rw [if_neg (show ¬ (false = true) by decide)] at H; exact H
                      clear H
                      have H := H1
                      clear H1
                      by_cases c68 : a0 = 17
                      · rw [if_pos c68] at H
                        have c68b0 : (a0 == 17) = true := beq_iff_eq.mpr c68
                        have c68b1 : (a0 != 17) = false := bne_eq_false_iff_eq.mpr c68
                        clear c68
                        by_cases c69 : 8 ≤ (a1.size : Int)
                        · rw [if_pos c69] at H
                          have c69b0 := eq_true c69
                          have c69b1 : decide (8 ≤ (a1.size : Int)) = true := decide_eq_true c69
                          clear c69
                          by_cases c70 : 4 ≤ 6
                          · rw [if_pos c70] at H
                            have c70b0 := eq_true c70
                            have c70b1 : decide (4 ≤ 6) = true := decide_eq_true c70
                            clear c70
                            by_cases c71 : 6 ≤ (a1.size : Int)
                            · rw [if_pos c71] at H
                              have c71b0 := eq_true c71
                              have c71b1 : decide (6 ≤ (a1.size : Int)) = true := decide_eq_true c71
                              clear c71
                              replace H := Option.bind_eq_some_iff.mp H
                              obtain ⟨t481, A720, H⟩ := H
                              replace H : (if t481 = (a1.size : Int) then (if 6 ≤ 8 then ((wharfageref1_Of.f kj18 (a1.extract 6 8)).bind fun t482 => (if t482 = 0 then ((wharfageref1_SegMay.f kj18 a0 t474 t475 0 0 0 (a1.extract 8 a1.size)).bind fun t483 => (if t483 = true then (some (a0, t474, t475, 0, 0, 0, a1.extract 8 a1.size, 0)) else (some (0, 0, 0, 0, 0, 0, (⟨#[]⟩ : ByteArray), 300)))) else ((wharfageref1_pseudo.f kj18 a0 a1 a2 a3).bind fun t484 => (if t484 = 65535 then ((wharfageref1_SegMay.f kj18 a0 t474 t475 0 0 0 (a1.extract 8 a1.size)).bind fun t485 => (if t485 = true then (some (a0, t474, t475, 0, 0, 0, a1.extract 8 a1.size, 0)) else (some (0, 0, 0, 0, 0, 0, (⟨#[]⟩ : ByteArray), 300)))) else (some (0, 0, 0, 0, 0, 0, (⟨#[]⟩ : ByteArray), 300)))))) else (none)) else (some (0, 0, 0, 0, 0, 0, (⟨#[]⟩ : ByteArray), 300))) = some (r1, r2, r3, r4, r5, r6, r7, r8) := H
                              have A72 := Aside0.mk A720
                              clear A720
                              by_cases c73 : t481 = (a1.size : Int)
                              · rw [if_pos c73] at H
                                have c73b0 : (t481 == (a1.size : Int)) = true := beq_iff_eq.mpr c73
                                have c73b1 : (t481 != (a1.size : Int)) = false := bne_eq_false_iff_eq.mpr c73
                                clear c73
                                by_cases c74 : 6 ≤ 8
                                · rw [if_pos c74] at H
                                  have c74b0 := eq_true c74
                                  have c74b1 : decide (6 ≤ 8) = true := decide_eq_true c74
                                  clear c74
                                  have c75b0 := eq_true (of_decide_eq_true (by first | (with_reducible assumption) | assumption) : 8 ≤ (a1.size : Int))
                                  replace H := Option.bind_eq_some_iff.mp H
                                  obtain ⟨t482, A760, H⟩ := H
                                  replace H : (if t482 = 0 then ((wharfageref1_SegMay.f kj18 a0 t474 t475 0 0 0 (a1.extract 8 a1.size)).bind fun t483 => (if t483 = true then (some (a0, t474, t475, 0, 0, 0, a1.extract 8 a1.size, 0)) else (some (0, 0, 0, 0, 0, 0, (⟨#[]⟩ : ByteArray), 300)))) else ((wharfageref1_pseudo.f kj18 a0 a1 a2 a3).bind fun t484 => (if t484 = 65535 then ((wharfageref1_SegMay.f kj18 a0 t474 t475 0 0 0 (a1.extract 8 a1.size)).bind fun t485 => (if t485 = true then (some (a0, t474, t475, 0, 0, 0, a1.extract 8 a1.size, 0)) else (some (0, 0, 0, 0, 0, 0, (⟨#[]⟩ : ByteArray), 300)))) else (some (0, 0, 0, 0, 0, 0, (⟨#[]⟩ : ByteArray), 300))))) = some (r1, r2, r3, r4, r5, r6, r7, r8) := H
                                  have A76 := Aside0.mk A760
                                  clear A760
                                  by_cases c77 : t482 = 0
                                  · rw [if_pos c77] at H
                                    have c77b0 : (t482 == 0) = true := beq_iff_eq.mpr c77
                                    have c77b1 : (t482 != 0) = false := bne_eq_false_iff_eq.mpr c77
                                    clear c77
                                    replace H := Option.bind_eq_some_iff.mp H
                                    obtain ⟨t483, A780, H⟩ := H
                                    replace H : (if t483 = true then (some (a0, t474, t475, 0, 0, 0, a1.extract 8 a1.size, 0)) else (some (0, 0, 0, 0, 0, 0, (⟨#[]⟩ : ByteArray), 300))) = some (r1, r2, r3, r4, r5, r6, r7, r8) := H
                                    have A78 := Aside0.mk A780
                                    clear A780
                                    by_cases c79 : t483 = true
                                    · subst c79
                                      have H1 : (some (a0, t474, t475, 0, 0, 0, a1.extract 8 a1.size, 0)) = some (r1, r2, r3, r4, r5, r6, r7, r8) := by rw [if_pos rfl] at H; exact H
                                      clear H
                                      have H := H1
                                      clear H1
                                      simp only [Option.some.injEq, Prod.mk.injEq] at H
                                      obtain ⟨rfl, rfl, rfl, rfl, rfl, rfl, rfl, rfl⟩ := H
                                      have hnb80 := NB476_471.out
                                      have hnc80 := NB471_476.out
                                      have hcz81_0 : wc.cell? ⟨gb476, 0, none⟩ = some (.int .i64 a0) := (blk_cell BK476.out 0).trans rfl
                                      have hcz81_1 : wc.cell? ⟨gb476, 1, none⟩ = some (.int .i64 t474) := (blk_cell BK476.out 1).trans rfl
                                      have hcz81_2 : wc.cell? ⟨gb476, 2, none⟩ = some (.int .i64 t475) := (blk_cell BK476.out 2).trans rfl
                                      have hcz81_3 : wc.cell? ⟨gb476, 3, none⟩ = some (.int .i64 0) := (blk_cell BK476.out 3).trans rfl
                                      have hcz81_4 : wc.cell? ⟨gb476, 4, none⟩ = some (.int .i64 0) := (blk_cell BK476.out 4).trans rfl
                                      have hcz81_5 : wc.cell? ⟨gb476, 5, none⟩ = some (.int .i64 0) := (blk_cell BK476.out 5).trans rfl
                                      have hcz81_6 : wc.cell? ⟨gb476, 6, none⟩ = some (.string (⟨#[]⟩ : ByteArray)) := (blk_cell BK476.out 6).trans rfl
                                      have hfz81_0 := blk_frozen BK476.out 0
                                      have hfz81_1 := blk_frozen BK476.out 1
                                      have hfz81_2 := blk_frozen BK476.out 2
                                      have hfz81_3 := blk_frozen BK476.out 3
                                      have hfz81_4 := blk_frozen BK476.out 4
                                      have hfz81_5 := blk_frozen BK476.out 5
                                      have hfz81_6 := blk_frozen BK476.out 6
                                      go_wp2_with (first | ((with_reducible refine gate_callee (f := 65) rfl ?_); refine goesL_ (some 76) rfl rfl Try.func65 (by kernel_rfl) rfl #[.string (a1.extract 4 6)] rfl (by (try simp only [List.map_toArray, List.map_cons, List.map_nil]); first | done | rfl | (simp only [List.length_drop, List.length_take]; rfl)) ?_; (with_reducible refine (wharfageref1_Of.calls kj18 (a1.extract 4 6) t481 _ A72.out).mono ?_); rintro e w' ⟨rfl, ⟨nd, rfl⟩⟩; refine ⟨_, rfl, ?_⟩) | (go_at_call 65; (with_reducible refine (wharfageref1_Of.calls kj18 (a1.extract 6 8) t482 _ A76.out).mono ?_); rintro e w' ⟨rfl, ⟨nd, rfl⟩⟩) | (go_at_call 34; (with_reducible refine (wharfageref1_SegMay.calls kj18 a0 t474 t475 0 0 0 (a1.extract 8 a1.size) true _ A78.out).mono ?_); rintro e w82 ⟨rfl, hb⟩; have n0_ := Aside0.mk (blk_below (g := gb471) (o := .cells #[.int .i64 0, .int .i64 0, .int .i64 0, .int .i64 0, .int .i64 0, .int .i64 0, .string (⟨#[]⟩ : ByteArray)] 44 (0, 0)) (by (with_reducible repeat (first | refine blk_drewN ?_ _ | refine blk_drew ?_ | refine blk_alloc ?_ _)); refine blk_far ?_ NB471_476.out _; (with_reducible repeat (first | refine blk_drewN ?_ _ | refine blk_drew ?_ | refine blk_alloc ?_ _)); exact BK471.out) hb); have n1_ := Aside0.mk (blk_below (g := gb476) (o := .cells #[.int .i64 a0, .int .i64 t474, .int .i64 t475, .int .i64 0, .int .i64 0, .int .i64 0, .string (a1.extract 8 a1.size)] 44 (0, 0)) (by (with_reducible repeat (first | refine blk_drewN ?_ _ | refine blk_drew ?_ | refine blk_alloc ?_ _)); refine blk_put (cs := #[.int .i64 a0, .int .i64 t474, .int .i64 t475, .int .i64 0, .int .i64 0, .int .i64 0, .string (⟨#[]⟩ : ByteArray)]) ?_ 6 _ (by first | rfl | (simp [*]; done)); (with_reducible repeat (first | refine blk_drewN ?_ _ | refine blk_drew ?_ | refine blk_alloc ?_ _)); exact BK476.out) hb); have n2_ := Aside0.mk (below_step (by repeat (first | (with_reducible first | exact HB.out | apply below_alloc | apply pw_below_drewN | apply below_drew1 | refine below_set ?_ GE471.out | refine below_set ?_ GE476.out) | exact HB.out)) hb); clear BK471; clear BK476; clear HB; have BK471 := n0_; have BK476 := n1_; have HB := n2_; clear n0_ n1_ n2_; (try clear hb); (try clear hb2); (try clear hk); (try clear hi); have hcz83_0 : w82.cell? ⟨gb476, 0, none⟩ = some (.int .i64 a0) := (blk_cell BK476.out 0).trans rfl; have hcz83_1 : w82.cell? ⟨gb476, 1, none⟩ = some (.int .i64 t474) := (blk_cell BK476.out 1).trans rfl; have hcz83_2 : w82.cell? ⟨gb476, 2, none⟩ = some (.int .i64 t475) := (blk_cell BK476.out 2).trans rfl; have hcz83_3 : w82.cell? ⟨gb476, 3, none⟩ = some (.int .i64 0) := (blk_cell BK476.out 3).trans rfl; have hcz83_4 : w82.cell? ⟨gb476, 4, none⟩ = some (.int .i64 0) := (blk_cell BK476.out 4).trans rfl; have hcz83_5 : w82.cell? ⟨gb476, 5, none⟩ = some (.int .i64 0) := (blk_cell BK476.out 5).trans rfl; have hcz83_6 : w82.cell? ⟨gb476, 6, none⟩ = some (.string (a1.extract 8 a1.size)) := (blk_cell BK476.out 6).trans rfl; have hfz83_0 := blk_frozen BK476.out 0; have hfz83_1 := blk_frozen BK476.out 1; have hfz83_2 := blk_frozen BK476.out 2; have hfz83_3 := blk_frozen BK476.out 3; have hfz83_4 := blk_frozen BK476.out 4; have hfz83_5 := blk_frozen BK476.out 5; have hfz83_6 := blk_frozen BK476.out 6; have hcz84_0 : w82.cell? ⟨gb471, 0, none⟩ = some (.int .i64 0) := (blk_cell BK471.out 0).trans rfl; have hcz84_1 : w82.cell? ⟨gb471, 1, none⟩ = some (.int .i64 0) := (blk_cell BK471.out 1).trans rfl; have hcz84_2 : w82.cell? ⟨gb471, 2, none⟩ = some (.int .i64 0) := (blk_cell BK471.out 2).trans rfl; have hcz84_3 : w82.cell? ⟨gb471, 3, none⟩ = some (.int .i64 0) := (blk_cell BK471.out 3).trans rfl; have hcz84_4 : w82.cell? ⟨gb471, 4, none⟩ = some (.int .i64 0) := (blk_cell BK471.out 4).trans rfl; have hcz84_5 : w82.cell? ⟨gb471, 5, none⟩ = some (.int .i64 0) := (blk_cell BK471.out 5).trans rfl; have hcz84_6 : w82.cell? ⟨gb471, 6, none⟩ = some (.string (⟨#[]⟩ : ByteArray)) := (blk_cell BK471.out 6).trans rfl; have hfz84_0 := blk_frozen BK471.out 0; have hfz84_1 := blk_frozen BK471.out 1; have hfz84_2 := blk_frozen BK471.out 2; have hfz84_3 := blk_frozen BK471.out 3; have hfz84_4 := blk_frozen BK471.out 4; have hfz84_5 := blk_frozen BK471.out 5; have hfz84_6 := blk_frozen BK471.out 6))
                                      refine bodyPost_ret (results_ct rfl _ _ gb471 44 #[.int .i64 a0, .int .i64 t474, .int .i64 t475, .int .i64 0, .int .i64 0, .int .i64 0, .string (a1.extract 8 a1.size)] (0, 0) _ rfl (by (with_reducible repeat (first | refine blk_drewN ?_ _ | refine blk_drew ?_ | refine blk_alloc ?_ _)); refine blk_put (cs := #[.int .i64 a0, .int .i64 t474, .int .i64 t475, .int .i64 0, .int .i64 0, .int .i64 0, .string (⟨#[]⟩ : ByteArray)]) ?_ 6 _ (by first | rfl | (simp [*]; done)); (with_reducible repeat (first | refine blk_drewN ?_ _ | refine blk_drew ?_ | refine blk_alloc ?_ _)); refine blk_put (cs := #[.int .i64 a0, .int .i64 t474, .int .i64 t475, .int .i64 0, .int .i64 0, .int .i64 0, .string (⟨#[]⟩ : ByteArray)]) ?_ 5 _ (by first | rfl | (simp [*]; done)); (with_reducible repeat (first | refine blk_drewN ?_ _ | refine blk_drew ?_ | refine blk_alloc ?_ _)); refine blk_put (cs := #[.int .i64 a0, .int .i64 t474, .int .i64 t475, .int .i64 0, .int .i64 0, .int .i64 0, .string (⟨#[]⟩ : ByteArray)]) ?_ 4 _ (by first | rfl | (simp [*]; done)); (with_reducible repeat (first | refine blk_drewN ?_ _ | refine blk_drew ?_ | refine blk_alloc ?_ _)); refine blk_put (cs := #[.int .i64 a0, .int .i64 t474, .int .i64 t475, .int .i64 0, .int .i64 0, .int .i64 0, .string (⟨#[]⟩ : ByteArray)]) ?_ 3 _ (by first | rfl | (simp [*]; done)); (with_reducible repeat (first | refine blk_drewN ?_ _ | refine blk_drew ?_ | refine blk_alloc ?_ _)); refine blk_put (cs := #[.int .i64 a0, .int .i64 t474, .int .i64 0, .int .i64 0, .int .i64 0, .int .i64 0, .string (⟨#[]⟩ : ByteArray)]) ?_ 2 _ (by first | rfl | (simp [*]; done)); (with_reducible repeat (first | refine blk_drewN ?_ _ | refine blk_drew ?_ | refine blk_alloc ?_ _)); refine blk_put (cs := #[.int .i64 a0, .int .i64 0, .int .i64 0, .int .i64 0, .int .i64 0, .int .i64 0, .string (⟨#[]⟩ : ByteArray)]) ?_ 1 _ (by first | rfl | (simp [*]; done)); (with_reducible repeat (first | refine blk_drewN ?_ _ | refine blk_drew ?_ | refine blk_alloc ?_ _)); refine blk_put (cs := #[.int .i64 0, .int .i64 0, .int .i64 0, .int .i64 0, .int .i64 0, .int .i64 0, .string (⟨#[]⟩ : ByteArray)]) ?_ 0 _ (by first | rfl | (simp [*]; done)); (with_reducible repeat (first | refine blk_drewN ?_ _ | refine blk_drew ?_ | refine blk_alloc ?_ _)); exact BK471.out) Try.underlying44 rfl (by kernel_rfl)) rfl ?_
                                      exact ⟨by first | rfl | (simp [errW_none, errW_some] <;> rfl) | (simp [*, errW_none, errW_some] <;> rfl), by repeat (first | (with_reducible first | exact HB.out | apply below_alloc | apply pw_below_drewN | apply below_drew1 | refine below_set ?_ GE471.out | refine below_set ?_ GE476.out) | exact HB.out)⟩
                                    · replace c79 := Bool.eq_false_iff.mpr c79
                                      subst c79
                                      have H1 : (some (0, 0, 0, 0, 0, 0, (⟨#[]⟩ : ByteArray), 300)) = some (r1, r2, r3, r4, r5, r6, r7, r8) := by rw [if_neg (show ¬ (false = true) by decide)] at H; exact H
                                      clear H
                                      have H := H1
                                      clear H1
                                      simp only [Option.some.injEq, Prod.mk.injEq] at H
                                      obtain ⟨rfl, rfl, rfl, rfl, rfl, rfl, rfl, rfl⟩ := H
                                      have hnb85 := NB476_471.out
                                      have hnc85 := NB471_476.out
                                      have hcz86_0 : wc.cell? ⟨gb476, 0, none⟩ = some (.int .i64 a0) := (blk_cell BK476.out 0).trans rfl
                                      have hcz86_1 : wc.cell? ⟨gb476, 1, none⟩ = some (.int .i64 t474) := (blk_cell BK476.out 1).trans rfl
                                      have hcz86_2 : wc.cell? ⟨gb476, 2, none⟩ = some (.int .i64 t475) := (blk_cell BK476.out 2).trans rfl
                                      have hcz86_3 : wc.cell? ⟨gb476, 3, none⟩ = some (.int .i64 0) := (blk_cell BK476.out 3).trans rfl
                                      have hcz86_4 : wc.cell? ⟨gb476, 4, none⟩ = some (.int .i64 0) := (blk_cell BK476.out 4).trans rfl
                                      have hcz86_5 : wc.cell? ⟨gb476, 5, none⟩ = some (.int .i64 0) := (blk_cell BK476.out 5).trans rfl
                                      have hcz86_6 : wc.cell? ⟨gb476, 6, none⟩ = some (.string (⟨#[]⟩ : ByteArray)) := (blk_cell BK476.out 6).trans rfl
                                      have hfz86_0 := blk_frozen BK476.out 0
                                      have hfz86_1 := blk_frozen BK476.out 1
                                      have hfz86_2 := blk_frozen BK476.out 2
                                      have hfz86_3 := blk_frozen BK476.out 3
                                      have hfz86_4 := blk_frozen BK476.out 4
                                      have hfz86_5 := blk_frozen BK476.out 5
                                      have hfz86_6 := blk_frozen BK476.out 6
                                      go_wp2_with (first | ((with_reducible refine gate_callee (f := 65) rfl ?_); refine goesL_ (some 76) rfl rfl Try.func65 (by kernel_rfl) rfl #[.string (a1.extract 4 6)] rfl (by (try simp only [List.map_toArray, List.map_cons, List.map_nil]); first | done | rfl | (simp only [List.length_drop, List.length_take]; rfl)) ?_; (with_reducible refine (wharfageref1_Of.calls kj18 (a1.extract 4 6) t481 _ A72.out).mono ?_); rintro e w' ⟨rfl, ⟨nd, rfl⟩⟩; refine ⟨_, rfl, ?_⟩) | (go_at_call 65; (with_reducible refine (wharfageref1_Of.calls kj18 (a1.extract 6 8) t482 _ A76.out).mono ?_); rintro e w' ⟨rfl, ⟨nd, rfl⟩⟩) | (go_at_call 34; (with_reducible refine (wharfageref1_SegMay.calls kj18 a0 t474 t475 0 0 0 (a1.extract 8 a1.size) false _ A78.out).mono ?_); rintro e w87 ⟨rfl, hb⟩; have n0_ := Aside0.mk (blk_below (g := gb471) (o := .cells #[.int .i64 0, .int .i64 0, .int .i64 0, .int .i64 0, .int .i64 0, .int .i64 0, .string (⟨#[]⟩ : ByteArray)] 44 (0, 0)) (by (with_reducible repeat (first | refine blk_drewN ?_ _ | refine blk_drew ?_ | refine blk_alloc ?_ _)); refine blk_far ?_ NB471_476.out _; (with_reducible repeat (first | refine blk_drewN ?_ _ | refine blk_drew ?_ | refine blk_alloc ?_ _)); exact BK471.out) hb); have n1_ := Aside0.mk (blk_below (g := gb476) (o := .cells #[.int .i64 a0, .int .i64 t474, .int .i64 t475, .int .i64 0, .int .i64 0, .int .i64 0, .string (a1.extract 8 a1.size)] 44 (0, 0)) (by (with_reducible repeat (first | refine blk_drewN ?_ _ | refine blk_drew ?_ | refine blk_alloc ?_ _)); refine blk_put (cs := #[.int .i64 a0, .int .i64 t474, .int .i64 t475, .int .i64 0, .int .i64 0, .int .i64 0, .string (⟨#[]⟩ : ByteArray)]) ?_ 6 _ (by first | rfl | (simp [*]; done)); (with_reducible repeat (first | refine blk_drewN ?_ _ | refine blk_drew ?_ | refine blk_alloc ?_ _)); exact BK476.out) hb); have n2_ := Aside0.mk (below_step (by repeat (first | (with_reducible first | exact HB.out | apply below_alloc | apply pw_below_drewN | apply below_drew1 | refine below_set ?_ GE471.out | refine below_set ?_ GE476.out) | exact HB.out)) hb); clear BK471; clear BK476; clear HB; have BK471 := n0_; have BK476 := n1_; have HB := n2_; clear n0_ n1_ n2_; (try clear hb); (try clear hb2); (try clear hk); (try clear hi); have hcz88_0 : w87.cell? ⟨gb471, 0, none⟩ = some (.int .i64 0) := (blk_cell BK471.out 0).trans rfl; have hcz88_1 : w87.cell? ⟨gb471, 1, none⟩ = some (.int .i64 0) := (blk_cell BK471.out 1).trans rfl; have hcz88_2 : w87.cell? ⟨gb471, 2, none⟩ = some (.int .i64 0) := (blk_cell BK471.out 2).trans rfl; have hcz88_3 : w87.cell? ⟨gb471, 3, none⟩ = some (.int .i64 0) := (blk_cell BK471.out 3).trans rfl; have hcz88_4 : w87.cell? ⟨gb471, 4, none⟩ = some (.int .i64 0) := (blk_cell BK471.out 4).trans rfl; have hcz88_5 : w87.cell? ⟨gb471, 5, none⟩ = some (.int .i64 0) := (blk_cell BK471.out 5).trans rfl; have hcz88_6 : w87.cell? ⟨gb471, 6, none⟩ = some (.string (⟨#[]⟩ : ByteArray)) := (blk_cell BK471.out 6).trans rfl; have hfz88_0 := blk_frozen BK471.out 0; have hfz88_1 := blk_frozen BK471.out 1; have hfz88_2 := blk_frozen BK471.out 2; have hfz88_3 := blk_frozen BK471.out 3; have hfz88_4 := blk_frozen BK471.out 4; have hfz88_5 := blk_frozen BK471.out 5; have hfz88_6 := blk_frozen BK471.out 6))
                                      refine bodyPost_ret (results_ct rfl _ _ gb471 44 #[.int .i64 0, .int .i64 0, .int .i64 0, .int .i64 0, .int .i64 0, .int .i64 0, .string (⟨#[]⟩ : ByteArray)] (0, 0) _ rfl (by (with_reducible repeat (first | refine blk_drewN ?_ _ | refine blk_drew ?_ | refine blk_alloc ?_ _)); refine blk_put (cs := #[.int .i64 0, .int .i64 0, .int .i64 0, .int .i64 0, .int .i64 0, .int .i64 0, .string (⟨#[]⟩ : ByteArray)]) ?_ 6 _ (by first | rfl | (simp [*]; done)); (with_reducible repeat (first | refine blk_drewN ?_ _ | refine blk_drew ?_ | refine blk_alloc ?_ _)); refine blk_put (cs := #[.int .i64 0, .int .i64 0, .int .i64 0, .int .i64 0, .int .i64 0, .int .i64 0, .string (⟨#[]⟩ : ByteArray)]) ?_ 5 _ (by first | rfl | (simp [*]; done)); (with_reducible repeat (first | refine blk_drewN ?_ _ | refine blk_drew ?_ | refine blk_alloc ?_ _)); refine blk_put (cs := #[.int .i64 0, .int .i64 0, .int .i64 0, .int .i64 0, .int .i64 0, .int .i64 0, .string (⟨#[]⟩ : ByteArray)]) ?_ 4 _ (by first | rfl | (simp [*]; done)); (with_reducible repeat (first | refine blk_drewN ?_ _ | refine blk_drew ?_ | refine blk_alloc ?_ _)); refine blk_put (cs := #[.int .i64 0, .int .i64 0, .int .i64 0, .int .i64 0, .int .i64 0, .int .i64 0, .string (⟨#[]⟩ : ByteArray)]) ?_ 3 _ (by first | rfl | (simp [*]; done)); (with_reducible repeat (first | refine blk_drewN ?_ _ | refine blk_drew ?_ | refine blk_alloc ?_ _)); refine blk_put (cs := #[.int .i64 0, .int .i64 0, .int .i64 0, .int .i64 0, .int .i64 0, .int .i64 0, .string (⟨#[]⟩ : ByteArray)]) ?_ 2 _ (by first | rfl | (simp [*]; done)); (with_reducible repeat (first | refine blk_drewN ?_ _ | refine blk_drew ?_ | refine blk_alloc ?_ _)); refine blk_put (cs := #[.int .i64 0, .int .i64 0, .int .i64 0, .int .i64 0, .int .i64 0, .int .i64 0, .string (⟨#[]⟩ : ByteArray)]) ?_ 1 _ (by first | rfl | (simp [*]; done)); (with_reducible repeat (first | refine blk_drewN ?_ _ | refine blk_drew ?_ | refine blk_alloc ?_ _)); refine blk_put (cs := #[.int .i64 0, .int .i64 0, .int .i64 0, .int .i64 0, .int .i64 0, .int .i64 0, .string (⟨#[]⟩ : ByteArray)]) ?_ 0 _ (by first | rfl | (simp [*]; done)); (with_reducible repeat (first | refine blk_drewN ?_ _ | refine blk_drew ?_ | refine blk_alloc ?_ _)); exact BK471.out) Try.underlying44 rfl (by kernel_rfl)) rfl ?_
                                      exact ⟨by first | rfl | (simp [errW_none, errW_some] <;> rfl) | (simp [*, errW_none, errW_some] <;> rfl), by repeat (first | (with_reducible first | exact HB.out | apply below_alloc | apply pw_below_drewN | apply below_drew1 | refine below_set ?_ GE471.out | refine below_set ?_ GE476.out) | exact HB.out)⟩
                                  · rw [if_neg c77] at H
                                    have c77b0 : (t482 == 0) = false := beq_eq_false_iff_ne.mpr c77
                                    have c77b1 : (t482 != 0) = true := bne_iff_ne.mpr c77
                                    replace H := Option.bind_eq_some_iff.mp H
                                    obtain ⟨t484, A890, H⟩ := H
                                    replace H : (if t484 = 65535 then ((wharfageref1_SegMay.f kj18 a0 t474 t475 0 0 0 (a1.extract 8 a1.size)).bind fun t485 => (if t485 = true then (some (a0, t474, t475, 0, 0, 0, a1.extract 8 a1.size, 0)) else (some (0, 0, 0, 0, 0, 0, (⟨#[]⟩ : ByteArray), 300)))) else (some (0, 0, 0, 0, 0, 0, (⟨#[]⟩ : ByteArray), 300))) = some (r1, r2, r3, r4, r5, r6, r7, r8) := H
                                    have A89 := Aside0.mk A890
                                    clear A890
                                    by_cases c90 : t484 = 65535
                                    · rw [if_pos c90] at H
                                      have c90b0 : (t484 == 65535) = true := beq_iff_eq.mpr c90
                                      have c90b1 : (t484 != 65535) = false := bne_eq_false_iff_eq.mpr c90
                                      clear c90
                                      replace H := Option.bind_eq_some_iff.mp H
                                      obtain ⟨t485, A910, H⟩ := H
                                      replace H : (if t485 = true then (some (a0, t474, t475, 0, 0, 0, a1.extract 8 a1.size, 0)) else (some (0, 0, 0, 0, 0, 0, (⟨#[]⟩ : ByteArray), 300))) = some (r1, r2, r3, r4, r5, r6, r7, r8) := H
                                      have A91 := Aside0.mk A910
                                      clear A910
                                      by_cases c92 : t485 = true
                                      · subst c92
                                        have H1 : (some (a0, t474, t475, 0, 0, 0, a1.extract 8 a1.size, 0)) = some (r1, r2, r3, r4, r5, r6, r7, r8) := by rw [if_pos rfl] at H; exact H
                                        clear H
                                        have H := H1
                                        clear H1
                                        simp only [Option.some.injEq, Prod.mk.injEq] at H
                                        obtain ⟨rfl, rfl, rfl, rfl, rfl, rfl, rfl, rfl⟩ := H
                                        have hnb93 := NB476_471.out
                                        have hnc93 := NB471_476.out
                                        have hcz94_0 : wc.cell? ⟨gb476, 0, none⟩ = some (.int .i64 a0) := (blk_cell BK476.out 0).trans rfl
                                        have hcz94_1 : wc.cell? ⟨gb476, 1, none⟩ = some (.int .i64 t474) := (blk_cell BK476.out 1).trans rfl
                                        have hcz94_2 : wc.cell? ⟨gb476, 2, none⟩ = some (.int .i64 t475) := (blk_cell BK476.out 2).trans rfl
                                        have hcz94_3 : wc.cell? ⟨gb476, 3, none⟩ = some (.int .i64 0) := (blk_cell BK476.out 3).trans rfl
                                        have hcz94_4 : wc.cell? ⟨gb476, 4, none⟩ = some (.int .i64 0) := (blk_cell BK476.out 4).trans rfl
                                        have hcz94_5 : wc.cell? ⟨gb476, 5, none⟩ = some (.int .i64 0) := (blk_cell BK476.out 5).trans rfl
                                        have hcz94_6 : wc.cell? ⟨gb476, 6, none⟩ = some (.string (⟨#[]⟩ : ByteArray)) := (blk_cell BK476.out 6).trans rfl
                                        have hfz94_0 := blk_frozen BK476.out 0
                                        have hfz94_1 := blk_frozen BK476.out 1
                                        have hfz94_2 := blk_frozen BK476.out 2
                                        have hfz94_3 := blk_frozen BK476.out 3
                                        have hfz94_4 := blk_frozen BK476.out 4
                                        have hfz94_5 := blk_frozen BK476.out 5
                                        have hfz94_6 := blk_frozen BK476.out 6
                                        go_wp2_with (first | ((with_reducible refine gate_callee (f := 65) rfl ?_); refine goesL_ (some 76) rfl rfl Try.func65 (by kernel_rfl) rfl #[.string (a1.extract 4 6)] rfl (by (try simp only [List.map_toArray, List.map_cons, List.map_nil]); first | done | rfl | (simp only [List.length_drop, List.length_take]; rfl)) ?_; (with_reducible refine (wharfageref1_Of.calls kj18 (a1.extract 4 6) t481 _ A72.out).mono ?_); rintro e w' ⟨rfl, ⟨nd, rfl⟩⟩; refine ⟨_, rfl, ?_⟩) | (go_at_call 65; (with_reducible refine (wharfageref1_Of.calls kj18 (a1.extract 6 8) t482 _ A76.out).mono ?_); rintro e w' ⟨rfl, ⟨nd, rfl⟩⟩) | (go_at_call 62; (with_reducible refine (wharfageref1_pseudo.calls kj18 a0 a1 a2 a3 t484 _ A89.out).mono ?_); rintro e w95 ⟨rfl, hb⟩; have n0_ := Aside0.mk (blk_below (g := gb471) (o := .cells #[.int .i64 0, .int .i64 0, .int .i64 0, .int .i64 0, .int .i64 0, .int .i64 0, .string (⟨#[]⟩ : ByteArray)] 44 (0, 0)) (by (with_reducible repeat (first | refine blk_drewN ?_ _ | refine blk_drew ?_ | refine blk_alloc ?_ _)); refine blk_far ?_ NB471_476.out _; (with_reducible repeat (first | refine blk_drewN ?_ _ | refine blk_drew ?_ | refine blk_alloc ?_ _)); exact BK471.out) hb); have n1_ := Aside0.mk (blk_below (g := gb476) (o := .cells #[.int .i64 a0, .int .i64 t474, .int .i64 t475, .int .i64 0, .int .i64 0, .int .i64 0, .string (a1.extract 8 a1.size)] 44 (0, 0)) (by (with_reducible repeat (first | refine blk_drewN ?_ _ | refine blk_drew ?_ | refine blk_alloc ?_ _)); refine blk_put (cs := #[.int .i64 a0, .int .i64 t474, .int .i64 t475, .int .i64 0, .int .i64 0, .int .i64 0, .string (⟨#[]⟩ : ByteArray)]) ?_ 6 _ (by first | rfl | (simp [*]; done)); (with_reducible repeat (first | refine blk_drewN ?_ _ | refine blk_drew ?_ | refine blk_alloc ?_ _)); exact BK476.out) hb); have n2_ := Aside0.mk (below_step (by repeat (first | (with_reducible first | exact HB.out | apply below_alloc | apply pw_below_drewN | apply below_drew1 | refine below_set ?_ GE471.out | refine below_set ?_ GE476.out) | exact HB.out)) hb); clear BK471; clear BK476; clear HB; have BK471 := n0_; have BK476 := n1_; have HB := n2_; clear n0_ n1_ n2_; (try clear hb); (try clear hb2); (try clear hk); (try clear hi); have hcz96_0 : w95.cell? ⟨gb476, 0, none⟩ = some (.int .i64 a0) := (blk_cell BK476.out 0).trans rfl; have hcz96_1 : w95.cell? ⟨gb476, 1, none⟩ = some (.int .i64 t474) := (blk_cell BK476.out 1).trans rfl; have hcz96_2 : w95.cell? ⟨gb476, 2, none⟩ = some (.int .i64 t475) := (blk_cell BK476.out 2).trans rfl; have hcz96_3 : w95.cell? ⟨gb476, 3, none⟩ = some (.int .i64 0) := (blk_cell BK476.out 3).trans rfl; have hcz96_4 : w95.cell? ⟨gb476, 4, none⟩ = some (.int .i64 0) := (blk_cell BK476.out 4).trans rfl; have hcz96_5 : w95.cell? ⟨gb476, 5, none⟩ = some (.int .i64 0) := (blk_cell BK476.out 5).trans rfl; have hcz96_6 : w95.cell? ⟨gb476, 6, none⟩ = some (.string (a1.extract 8 a1.size)) := (blk_cell BK476.out 6).trans rfl; have hfz96_0 := blk_frozen BK476.out 0; have hfz96_1 := blk_frozen BK476.out 1; have hfz96_2 := blk_frozen BK476.out 2; have hfz96_3 := blk_frozen BK476.out 3; have hfz96_4 := blk_frozen BK476.out 4; have hfz96_5 := blk_frozen BK476.out 5; have hfz96_6 := blk_frozen BK476.out 6) | (go_at_call 34; (with_reducible refine (wharfageref1_SegMay.calls kj18 a0 t474 t475 0 0 0 (a1.extract 8 a1.size) true _ A91.out).mono ?_); rintro e w97 ⟨rfl, hb⟩; have n0_ := Aside0.mk (blk_below (g := gb471) (o := .cells #[.int .i64 0, .int .i64 0, .int .i64 0, .int .i64 0, .int .i64 0, .int .i64 0, .string (⟨#[]⟩ : ByteArray)] 44 (0, 0)) (by (with_reducible repeat (first | refine blk_drewN ?_ _ | refine blk_drew ?_ | refine blk_alloc ?_ _)); exact BK471.out) hb); have n1_ := Aside0.mk (blk_below (g := gb476) (o := .cells #[.int .i64 a0, .int .i64 t474, .int .i64 t475, .int .i64 0, .int .i64 0, .int .i64 0, .string (a1.extract 8 a1.size)] 44 (0, 0)) (by (with_reducible repeat (first | refine blk_drewN ?_ _ | refine blk_drew ?_ | refine blk_alloc ?_ _)); exact BK476.out) hb); have n2_ := Aside0.mk (below_step (by repeat (first | (with_reducible first | exact HB.out | apply below_alloc | apply pw_below_drewN | apply below_drew1 | refine below_set ?_ GE471.out | refine below_set ?_ GE476.out) | exact HB.out)) hb); clear BK471; clear BK476; clear HB; have BK471 := n0_; have BK476 := n1_; have HB := n2_; clear n0_ n1_ n2_; (try clear hb); (try clear hb2); (try clear hk); (try clear hi); have hcz98_0 : w97.cell? ⟨gb476, 0, none⟩ = some (.int .i64 a0) := (blk_cell BK476.out 0).trans rfl; have hcz98_1 : w97.cell? ⟨gb476, 1, none⟩ = some (.int .i64 t474) := (blk_cell BK476.out 1).trans rfl; have hcz98_2 : w97.cell? ⟨gb476, 2, none⟩ = some (.int .i64 t475) := (blk_cell BK476.out 2).trans rfl; have hcz98_3 : w97.cell? ⟨gb476, 3, none⟩ = some (.int .i64 0) := (blk_cell BK476.out 3).trans rfl; have hcz98_4 : w97.cell? ⟨gb476, 4, none⟩ = some (.int .i64 0) := (blk_cell BK476.out 4).trans rfl; have hcz98_5 : w97.cell? ⟨gb476, 5, none⟩ = some (.int .i64 0) := (blk_cell BK476.out 5).trans rfl; have hcz98_6 : w97.cell? ⟨gb476, 6, none⟩ = some (.string (a1.extract 8 a1.size)) := (blk_cell BK476.out 6).trans rfl; have hfz98_0 := blk_frozen BK476.out 0; have hfz98_1 := blk_frozen BK476.out 1; have hfz98_2 := blk_frozen BK476.out 2; have hfz98_3 := blk_frozen BK476.out 3; have hfz98_4 := blk_frozen BK476.out 4; have hfz98_5 := blk_frozen BK476.out 5; have hfz98_6 := blk_frozen BK476.out 6; have hcz99_0 : w97.cell? ⟨gb471, 0, none⟩ = some (.int .i64 0) := (blk_cell BK471.out 0).trans rfl; have hcz99_1 : w97.cell? ⟨gb471, 1, none⟩ = some (.int .i64 0) := (blk_cell BK471.out 1).trans rfl; have hcz99_2 : w97.cell? ⟨gb471, 2, none⟩ = some (.int .i64 0) := (blk_cell BK471.out 2).trans rfl; have hcz99_3 : w97.cell? ⟨gb471, 3, none⟩ = some (.int .i64 0) := (blk_cell BK471.out 3).trans rfl; have hcz99_4 : w97.cell? ⟨gb471, 4, none⟩ = some (.int .i64 0) := (blk_cell BK471.out 4).trans rfl; have hcz99_5 : w97.cell? ⟨gb471, 5, none⟩ = some (.int .i64 0) := (blk_cell BK471.out 5).trans rfl; have hcz99_6 : w97.cell? ⟨gb471, 6, none⟩ = some (.string (⟨#[]⟩ : ByteArray)) := (blk_cell BK471.out 6).trans rfl; have hfz99_0 := blk_frozen BK471.out 0; have hfz99_1 := blk_frozen BK471.out 1; have hfz99_2 := blk_frozen BK471.out 2; have hfz99_3 := blk_frozen BK471.out 3; have hfz99_4 := blk_frozen BK471.out 4; have hfz99_5 := blk_frozen BK471.out 5; have hfz99_6 := blk_frozen BK471.out 6))
                                        refine bodyPost_ret (results_ct rfl _ _ gb471 44 #[.int .i64 a0, .int .i64 t474, .int .i64 t475, .int .i64 0, .int .i64 0, .int .i64 0, .string (a1.extract 8 a1.size)] (0, 0) _ rfl (by (with_reducible repeat (first | refine blk_drewN ?_ _ | refine blk_drew ?_ | refine blk_alloc ?_ _)); refine blk_put (cs := #[.int .i64 a0, .int .i64 t474, .int .i64 t475, .int .i64 0, .int .i64 0, .int .i64 0, .string (⟨#[]⟩ : ByteArray)]) ?_ 6 _ (by first | rfl | (simp [*]; done)); (with_reducible repeat (first | refine blk_drewN ?_ _ | refine blk_drew ?_ | refine blk_alloc ?_ _)); refine blk_put (cs := #[.int .i64 a0, .int .i64 t474, .int .i64 t475, .int .i64 0, .int .i64 0, .int .i64 0, .string (⟨#[]⟩ : ByteArray)]) ?_ 5 _ (by first | rfl | (simp [*]; done)); (with_reducible repeat (first | refine blk_drewN ?_ _ | refine blk_drew ?_ | refine blk_alloc ?_ _)); refine blk_put (cs := #[.int .i64 a0, .int .i64 t474, .int .i64 t475, .int .i64 0, .int .i64 0, .int .i64 0, .string (⟨#[]⟩ : ByteArray)]) ?_ 4 _ (by first | rfl | (simp [*]; done)); (with_reducible repeat (first | refine blk_drewN ?_ _ | refine blk_drew ?_ | refine blk_alloc ?_ _)); refine blk_put (cs := #[.int .i64 a0, .int .i64 t474, .int .i64 t475, .int .i64 0, .int .i64 0, .int .i64 0, .string (⟨#[]⟩ : ByteArray)]) ?_ 3 _ (by first | rfl | (simp [*]; done)); (with_reducible repeat (first | refine blk_drewN ?_ _ | refine blk_drew ?_ | refine blk_alloc ?_ _)); refine blk_put (cs := #[.int .i64 a0, .int .i64 t474, .int .i64 0, .int .i64 0, .int .i64 0, .int .i64 0, .string (⟨#[]⟩ : ByteArray)]) ?_ 2 _ (by first | rfl | (simp [*]; done)); (with_reducible repeat (first | refine blk_drewN ?_ _ | refine blk_drew ?_ | refine blk_alloc ?_ _)); refine blk_put (cs := #[.int .i64 a0, .int .i64 0, .int .i64 0, .int .i64 0, .int .i64 0, .int .i64 0, .string (⟨#[]⟩ : ByteArray)]) ?_ 1 _ (by first | rfl | (simp [*]; done)); (with_reducible repeat (first | refine blk_drewN ?_ _ | refine blk_drew ?_ | refine blk_alloc ?_ _)); refine blk_put (cs := #[.int .i64 0, .int .i64 0, .int .i64 0, .int .i64 0, .int .i64 0, .int .i64 0, .string (⟨#[]⟩ : ByteArray)]) ?_ 0 _ (by first | rfl | (simp [*]; done)); (with_reducible repeat (first | refine blk_drewN ?_ _ | refine blk_drew ?_ | refine blk_alloc ?_ _)); exact BK471.out) Try.underlying44 rfl (by kernel_rfl)) rfl ?_
                                        exact ⟨by first | rfl | (simp [errW_none, errW_some] <;> rfl) | (simp [*, errW_none, errW_some] <;> rfl), by repeat (first | (with_reducible first | exact HB.out | apply below_alloc | apply pw_below_drewN | apply below_drew1 | refine below_set ?_ GE471.out | refine below_set ?_ GE476.out) | exact HB.out)⟩
                                      · replace c92 := Bool.eq_false_iff.mpr c92
                                        subst c92
                                        have H1 : (some (0, 0, 0, 0, 0, 0, (⟨#[]⟩ : ByteArray), 300)) = some (r1, r2, r3, r4, r5, r6, r7, r8) := by rw [if_neg (show ¬ (false = true) by decide)] at H; exact H
                                        clear H
                                        have H := H1
                                        clear H1
                                        simp only [Option.some.injEq, Prod.mk.injEq] at H
                                        obtain ⟨rfl, rfl, rfl, rfl, rfl, rfl, rfl, rfl⟩ := H
                                        have hnb100 := NB476_471.out
                                        have hnc100 := NB471_476.out
                                        have hcz101_0 : wc.cell? ⟨gb476, 0, none⟩ = some (.int .i64 a0) := (blk_cell BK476.out 0).trans rfl
                                        have hcz101_1 : wc.cell? ⟨gb476, 1, none⟩ = some (.int .i64 t474) := (blk_cell BK476.out 1).trans rfl
                                        have hcz101_2 : wc.cell? ⟨gb476, 2, none⟩ = some (.int .i64 t475) := (blk_cell BK476.out 2).trans rfl
                                        have hcz101_3 : wc.cell? ⟨gb476, 3, none⟩ = some (.int .i64 0) := (blk_cell BK476.out 3).trans rfl
                                        have hcz101_4 : wc.cell? ⟨gb476, 4, none⟩ = some (.int .i64 0) := (blk_cell BK476.out 4).trans rfl
                                        have hcz101_5 : wc.cell? ⟨gb476, 5, none⟩ = some (.int .i64 0) := (blk_cell BK476.out 5).trans rfl
                                        have hcz101_6 : wc.cell? ⟨gb476, 6, none⟩ = some (.string (⟨#[]⟩ : ByteArray)) := (blk_cell BK476.out 6).trans rfl
                                        have hfz101_0 := blk_frozen BK476.out 0
                                        have hfz101_1 := blk_frozen BK476.out 1
                                        have hfz101_2 := blk_frozen BK476.out 2
                                        have hfz101_3 := blk_frozen BK476.out 3
                                        have hfz101_4 := blk_frozen BK476.out 4
                                        have hfz101_5 := blk_frozen BK476.out 5
                                        have hfz101_6 := blk_frozen BK476.out 6
                                        go_wp2_with (first | ((with_reducible refine gate_callee (f := 65) rfl ?_); refine goesL_ (some 76) rfl rfl Try.func65 (by kernel_rfl) rfl #[.string (a1.extract 4 6)] rfl (by (try simp only [List.map_toArray, List.map_cons, List.map_nil]); first | done | rfl | (simp only [List.length_drop, List.length_take]; rfl)) ?_; (with_reducible refine (wharfageref1_Of.calls kj18 (a1.extract 4 6) t481 _ A72.out).mono ?_); rintro e w' ⟨rfl, ⟨nd, rfl⟩⟩; refine ⟨_, rfl, ?_⟩) | (go_at_call 65; (with_reducible refine (wharfageref1_Of.calls kj18 (a1.extract 6 8) t482 _ A76.out).mono ?_); rintro e w' ⟨rfl, ⟨nd, rfl⟩⟩) | (go_at_call 62; (with_reducible refine (wharfageref1_pseudo.calls kj18 a0 a1 a2 a3 t484 _ A89.out).mono ?_); rintro e w102 ⟨rfl, hb⟩; have n0_ := Aside0.mk (blk_below (g := gb471) (o := .cells #[.int .i64 0, .int .i64 0, .int .i64 0, .int .i64 0, .int .i64 0, .int .i64 0, .string (⟨#[]⟩ : ByteArray)] 44 (0, 0)) (by (with_reducible repeat (first | refine blk_drewN ?_ _ | refine blk_drew ?_ | refine blk_alloc ?_ _)); refine blk_far ?_ NB471_476.out _; (with_reducible repeat (first | refine blk_drewN ?_ _ | refine blk_drew ?_ | refine blk_alloc ?_ _)); exact BK471.out) hb); have n1_ := Aside0.mk (blk_below (g := gb476) (o := .cells #[.int .i64 a0, .int .i64 t474, .int .i64 t475, .int .i64 0, .int .i64 0, .int .i64 0, .string (a1.extract 8 a1.size)] 44 (0, 0)) (by (with_reducible repeat (first | refine blk_drewN ?_ _ | refine blk_drew ?_ | refine blk_alloc ?_ _)); refine blk_put (cs := #[.int .i64 a0, .int .i64 t474, .int .i64 t475, .int .i64 0, .int .i64 0, .int .i64 0, .string (⟨#[]⟩ : ByteArray)]) ?_ 6 _ (by first | rfl | (simp [*]; done)); (with_reducible repeat (first | refine blk_drewN ?_ _ | refine blk_drew ?_ | refine blk_alloc ?_ _)); exact BK476.out) hb); have n2_ := Aside0.mk (below_step (by repeat (first | (with_reducible first | exact HB.out | apply below_alloc | apply pw_below_drewN | apply below_drew1 | refine below_set ?_ GE471.out | refine below_set ?_ GE476.out) | exact HB.out)) hb); clear BK471; clear BK476; clear HB; have BK471 := n0_; have BK476 := n1_; have HB := n2_; clear n0_ n1_ n2_; (try clear hb); (try clear hb2); (try clear hk); (try clear hi); have hcz103_0 : w102.cell? ⟨gb476, 0, none⟩ = some (.int .i64 a0) := (blk_cell BK476.out 0).trans rfl; have hcz103_1 : w102.cell? ⟨gb476, 1, none⟩ = some (.int .i64 t474) := (blk_cell BK476.out 1).trans rfl; have hcz103_2 : w102.cell? ⟨gb476, 2, none⟩ = some (.int .i64 t475) := (blk_cell BK476.out 2).trans rfl; have hcz103_3 : w102.cell? ⟨gb476, 3, none⟩ = some (.int .i64 0) := (blk_cell BK476.out 3).trans rfl; have hcz103_4 : w102.cell? ⟨gb476, 4, none⟩ = some (.int .i64 0) := (blk_cell BK476.out 4).trans rfl; have hcz103_5 : w102.cell? ⟨gb476, 5, none⟩ = some (.int .i64 0) := (blk_cell BK476.out 5).trans rfl; have hcz103_6 : w102.cell? ⟨gb476, 6, none⟩ = some (.string (a1.extract 8 a1.size)) := (blk_cell BK476.out 6).trans rfl; have hfz103_0 := blk_frozen BK476.out 0; have hfz103_1 := blk_frozen BK476.out 1; have hfz103_2 := blk_frozen BK476.out 2; have hfz103_3 := blk_frozen BK476.out 3; have hfz103_4 := blk_frozen BK476.out 4; have hfz103_5 := blk_frozen BK476.out 5; have hfz103_6 := blk_frozen BK476.out 6) | (go_at_call 34; (with_reducible refine (wharfageref1_SegMay.calls kj18 a0 t474 t475 0 0 0 (a1.extract 8 a1.size) false _ A91.out).mono ?_); rintro e w104 ⟨rfl, hb⟩; have n0_ := Aside0.mk (blk_below (g := gb471) (o := .cells #[.int .i64 0, .int .i64 0, .int .i64 0, .int .i64 0, .int .i64 0, .int .i64 0, .string (⟨#[]⟩ : ByteArray)] 44 (0, 0)) (by (with_reducible repeat (first | refine blk_drewN ?_ _ | refine blk_drew ?_ | refine blk_alloc ?_ _)); exact BK471.out) hb); have n1_ := Aside0.mk (blk_below (g := gb476) (o := .cells #[.int .i64 a0, .int .i64 t474, .int .i64 t475, .int .i64 0, .int .i64 0, .int .i64 0, .string (a1.extract 8 a1.size)] 44 (0, 0)) (by (with_reducible repeat (first | refine blk_drewN ?_ _ | refine blk_drew ?_ | refine blk_alloc ?_ _)); exact BK476.out) hb); have n2_ := Aside0.mk (below_step (by repeat (first | (with_reducible first | exact HB.out | apply below_alloc | apply pw_below_drewN | apply below_drew1 | refine below_set ?_ GE471.out | refine below_set ?_ GE476.out) | exact HB.out)) hb); clear BK471; clear BK476; clear HB; have BK471 := n0_; have BK476 := n1_; have HB := n2_; clear n0_ n1_ n2_; (try clear hb); (try clear hb2); (try clear hk); (try clear hi); have hcz105_0 : w104.cell? ⟨gb471, 0, none⟩ = some (.int .i64 0) := (blk_cell BK471.out 0).trans rfl; have hcz105_1 : w104.cell? ⟨gb471, 1, none⟩ = some (.int .i64 0) := (blk_cell BK471.out 1).trans rfl; have hcz105_2 : w104.cell? ⟨gb471, 2, none⟩ = some (.int .i64 0) := (blk_cell BK471.out 2).trans rfl; have hcz105_3 : w104.cell? ⟨gb471, 3, none⟩ = some (.int .i64 0) := (blk_cell BK471.out 3).trans rfl; have hcz105_4 : w104.cell? ⟨gb471, 4, none⟩ = some (.int .i64 0) := (blk_cell BK471.out 4).trans rfl; have hcz105_5 : w104.cell? ⟨gb471, 5, none⟩ = some (.int .i64 0) := (blk_cell BK471.out 5).trans rfl; have hcz105_6 : w104.cell? ⟨gb471, 6, none⟩ = some (.string (⟨#[]⟩ : ByteArray)) := (blk_cell BK471.out 6).trans rfl; have hfz105_0 := blk_frozen BK471.out 0; have hfz105_1 := blk_frozen BK471.out 1; have hfz105_2 := blk_frozen BK471.out 2; have hfz105_3 := blk_frozen BK471.out 3; have hfz105_4 := blk_frozen BK471.out 4; have hfz105_5 := blk_frozen BK471.out 5; have hfz105_6 := blk_frozen BK471.out 6))
                                        refine bodyPost_ret (results_ct rfl _ _ gb471 44 #[.int .i64 0, .int .i64 0, .int .i64 0, .int .i64 0, .int .i64 0, .int .i64 0, .string (⟨#[]⟩ : ByteArray)] (0, 0) _ rfl (by (with_reducible repeat (first | refine blk_drewN ?_ _ | refine blk_drew ?_ | refine blk_alloc ?_ _)); refine blk_put (cs := #[.int .i64 0, .int .i64 0, .int .i64 0, .int .i64 0, .int .i64 0, .int .i64 0, .string (⟨#[]⟩ : ByteArray)]) ?_ 6 _ (by first | rfl | (simp [*]; done)); (with_reducible repeat (first | refine blk_drewN ?_ _ | refine blk_drew ?_ | refine blk_alloc ?_ _)); refine blk_put (cs := #[.int .i64 0, .int .i64 0, .int .i64 0, .int .i64 0, .int .i64 0, .int .i64 0, .string (⟨#[]⟩ : ByteArray)]) ?_ 5 _ (by first | rfl | (simp [*]; done)); (with_reducible repeat (first | refine blk_drewN ?_ _ | refine blk_drew ?_ | refine blk_alloc ?_ _)); refine blk_put (cs := #[.int .i64 0, .int .i64 0, .int .i64 0, .int .i64 0, .int .i64 0, .int .i64 0, .string (⟨#[]⟩ : ByteArray)]) ?_ 4 _ (by first | rfl | (simp [*]; done)); (with_reducible repeat (first | refine blk_drewN ?_ _ | refine blk_drew ?_ | refine blk_alloc ?_ _)); refine blk_put (cs := #[.int .i64 0, .int .i64 0, .int .i64 0, .int .i64 0, .int .i64 0, .int .i64 0, .string (⟨#[]⟩ : ByteArray)]) ?_ 3 _ (by first | rfl | (simp [*]; done)); (with_reducible repeat (first | refine blk_drewN ?_ _ | refine blk_drew ?_ | refine blk_alloc ?_ _)); refine blk_put (cs := #[.int .i64 0, .int .i64 0, .int .i64 0, .int .i64 0, .int .i64 0, .int .i64 0, .string (⟨#[]⟩ : ByteArray)]) ?_ 2 _ (by first | rfl | (simp [*]; done)); (with_reducible repeat (first | refine blk_drewN ?_ _ | refine blk_drew ?_ | refine blk_alloc ?_ _)); refine blk_put (cs := #[.int .i64 0, .int .i64 0, .int .i64 0, .int .i64 0, .int .i64 0, .int .i64 0, .string (⟨#[]⟩ : ByteArray)]) ?_ 1 _ (by first | rfl | (simp [*]; done)); (with_reducible repeat (first | refine blk_drewN ?_ _ | refine blk_drew ?_ | refine blk_alloc ?_ _)); refine blk_put (cs := #[.int .i64 0, .int .i64 0, .int .i64 0, .int .i64 0, .int .i64 0, .int .i64 0, .string (⟨#[]⟩ : ByteArray)]) ?_ 0 _ (by first | rfl | (simp [*]; done)); (with_reducible repeat (first | refine blk_drewN ?_ _ | refine blk_drew ?_ | refine blk_alloc ?_ _)); exact BK471.out) Try.underlying44 rfl (by kernel_rfl)) rfl ?_
                                        exact ⟨by first | rfl | (simp [errW_none, errW_some] <;> rfl) | (simp [*, errW_none, errW_some] <;> rfl), by repeat (first | (with_reducible first | exact HB.out | apply below_alloc | apply pw_below_drewN | apply below_drew1 | refine below_set ?_ GE471.out | refine below_set ?_ GE476.out) | exact HB.out)⟩
                                    · rw [if_neg c90] at H
                                      have c90b0 : (t484 == 65535) = false := beq_eq_false_iff_ne.mpr c90
                                      have c90b1 : (t484 != 65535) = true := bne_iff_ne.mpr c90
                                      simp only [Option.some.injEq, Prod.mk.injEq] at H
                                      obtain ⟨rfl, rfl, rfl, rfl, rfl, rfl, rfl, rfl⟩ := H
                                      have hnb106 := NB476_471.out
                                      have hnc106 := NB471_476.out
                                      have hcz107_0 : wc.cell? ⟨gb476, 0, none⟩ = some (.int .i64 a0) := (blk_cell BK476.out 0).trans rfl
                                      have hcz107_1 : wc.cell? ⟨gb476, 1, none⟩ = some (.int .i64 t474) := (blk_cell BK476.out 1).trans rfl
                                      have hcz107_2 : wc.cell? ⟨gb476, 2, none⟩ = some (.int .i64 t475) := (blk_cell BK476.out 2).trans rfl
                                      have hcz107_3 : wc.cell? ⟨gb476, 3, none⟩ = some (.int .i64 0) := (blk_cell BK476.out 3).trans rfl
                                      have hcz107_4 : wc.cell? ⟨gb476, 4, none⟩ = some (.int .i64 0) := (blk_cell BK476.out 4).trans rfl
                                      have hcz107_5 : wc.cell? ⟨gb476, 5, none⟩ = some (.int .i64 0) := (blk_cell BK476.out 5).trans rfl
                                      have hcz107_6 : wc.cell? ⟨gb476, 6, none⟩ = some (.string (⟨#[]⟩ : ByteArray)) := (blk_cell BK476.out 6).trans rfl
                                      have hfz107_0 := blk_frozen BK476.out 0
                                      have hfz107_1 := blk_frozen BK476.out 1
                                      have hfz107_2 := blk_frozen BK476.out 2
                                      have hfz107_3 := blk_frozen BK476.out 3
                                      have hfz107_4 := blk_frozen BK476.out 4
                                      have hfz107_5 := blk_frozen BK476.out 5
                                      have hfz107_6 := blk_frozen BK476.out 6
                                      go_wp2_with (first | ((with_reducible refine gate_callee (f := 65) rfl ?_); refine goesL_ (some 76) rfl rfl Try.func65 (by kernel_rfl) rfl #[.string (a1.extract 4 6)] rfl (by (try simp only [List.map_toArray, List.map_cons, List.map_nil]); first | done | rfl | (simp only [List.length_drop, List.length_take]; rfl)) ?_; (with_reducible refine (wharfageref1_Of.calls kj18 (a1.extract 4 6) t481 _ A72.out).mono ?_); rintro e w' ⟨rfl, ⟨nd, rfl⟩⟩; refine ⟨_, rfl, ?_⟩) | (go_at_call 65; (with_reducible refine (wharfageref1_Of.calls kj18 (a1.extract 6 8) t482 _ A76.out).mono ?_); rintro e w' ⟨rfl, ⟨nd, rfl⟩⟩) | (go_at_call 62; (with_reducible refine (wharfageref1_pseudo.calls kj18 a0 a1 a2 a3 t484 _ A89.out).mono ?_); rintro e w108 ⟨rfl, hb⟩; have n0_ := Aside0.mk (blk_below (g := gb471) (o := .cells #[.int .i64 0, .int .i64 0, .int .i64 0, .int .i64 0, .int .i64 0, .int .i64 0, .string (⟨#[]⟩ : ByteArray)] 44 (0, 0)) (by (with_reducible repeat (first | refine blk_drewN ?_ _ | refine blk_drew ?_ | refine blk_alloc ?_ _)); refine blk_far ?_ NB471_476.out _; (with_reducible repeat (first | refine blk_drewN ?_ _ | refine blk_drew ?_ | refine blk_alloc ?_ _)); exact BK471.out) hb); have n1_ := Aside0.mk (blk_below (g := gb476) (o := .cells #[.int .i64 a0, .int .i64 t474, .int .i64 t475, .int .i64 0, .int .i64 0, .int .i64 0, .string (a1.extract 8 a1.size)] 44 (0, 0)) (by (with_reducible repeat (first | refine blk_drewN ?_ _ | refine blk_drew ?_ | refine blk_alloc ?_ _)); refine blk_put (cs := #[.int .i64 a0, .int .i64 t474, .int .i64 t475, .int .i64 0, .int .i64 0, .int .i64 0, .string (⟨#[]⟩ : ByteArray)]) ?_ 6 _ (by first | rfl | (simp [*]; done)); (with_reducible repeat (first | refine blk_drewN ?_ _ | refine blk_drew ?_ | refine blk_alloc ?_ _)); exact BK476.out) hb); have n2_ := Aside0.mk (below_step (by repeat (first | (with_reducible first | exact HB.out | apply below_alloc | apply pw_below_drewN | apply below_drew1 | refine below_set ?_ GE471.out | refine below_set ?_ GE476.out) | exact HB.out)) hb); clear BK471; clear BK476; clear HB; have BK471 := n0_; have BK476 := n1_; have HB := n2_; clear n0_ n1_ n2_; (try clear hb); (try clear hb2); (try clear hk); (try clear hi); have hcz109_0 : w108.cell? ⟨gb471, 0, none⟩ = some (.int .i64 0) := (blk_cell BK471.out 0).trans rfl; have hcz109_1 : w108.cell? ⟨gb471, 1, none⟩ = some (.int .i64 0) := (blk_cell BK471.out 1).trans rfl; have hcz109_2 : w108.cell? ⟨gb471, 2, none⟩ = some (.int .i64 0) := (blk_cell BK471.out 2).trans rfl; have hcz109_3 : w108.cell? ⟨gb471, 3, none⟩ = some (.int .i64 0) := (blk_cell BK471.out 3).trans rfl; have hcz109_4 : w108.cell? ⟨gb471, 4, none⟩ = some (.int .i64 0) := (blk_cell BK471.out 4).trans rfl; have hcz109_5 : w108.cell? ⟨gb471, 5, none⟩ = some (.int .i64 0) := (blk_cell BK471.out 5).trans rfl; have hcz109_6 : w108.cell? ⟨gb471, 6, none⟩ = some (.string (⟨#[]⟩ : ByteArray)) := (blk_cell BK471.out 6).trans rfl; have hfz109_0 := blk_frozen BK471.out 0; have hfz109_1 := blk_frozen BK471.out 1; have hfz109_2 := blk_frozen BK471.out 2; have hfz109_3 := blk_frozen BK471.out 3; have hfz109_4 := blk_frozen BK471.out 4; have hfz109_5 := blk_frozen BK471.out 5; have hfz109_6 := blk_frozen BK471.out 6))
                                      refine bodyPost_ret (results_ct rfl _ _ gb471 44 #[.int .i64 0, .int .i64 0, .int .i64 0, .int .i64 0, .int .i64 0, .int .i64 0, .string (⟨#[]⟩ : ByteArray)] (0, 0) _ rfl (by (with_reducible repeat (first | refine blk_drewN ?_ _ | refine blk_drew ?_ | refine blk_alloc ?_ _)); refine blk_put (cs := #[.int .i64 0, .int .i64 0, .int .i64 0, .int .i64 0, .int .i64 0, .int .i64 0, .string (⟨#[]⟩ : ByteArray)]) ?_ 6 _ (by first | rfl | (simp [*]; done)); (with_reducible repeat (first | refine blk_drewN ?_ _ | refine blk_drew ?_ | refine blk_alloc ?_ _)); refine blk_put (cs := #[.int .i64 0, .int .i64 0, .int .i64 0, .int .i64 0, .int .i64 0, .int .i64 0, .string (⟨#[]⟩ : ByteArray)]) ?_ 5 _ (by first | rfl | (simp [*]; done)); (with_reducible repeat (first | refine blk_drewN ?_ _ | refine blk_drew ?_ | refine blk_alloc ?_ _)); refine blk_put (cs := #[.int .i64 0, .int .i64 0, .int .i64 0, .int .i64 0, .int .i64 0, .int .i64 0, .string (⟨#[]⟩ : ByteArray)]) ?_ 4 _ (by first | rfl | (simp [*]; done)); (with_reducible repeat (first | refine blk_drewN ?_ _ | refine blk_drew ?_ | refine blk_alloc ?_ _)); refine blk_put (cs := #[.int .i64 0, .int .i64 0, .int .i64 0, .int .i64 0, .int .i64 0, .int .i64 0, .string (⟨#[]⟩ : ByteArray)]) ?_ 3 _ (by first | rfl | (simp [*]; done)); (with_reducible repeat (first | refine blk_drewN ?_ _ | refine blk_drew ?_ | refine blk_alloc ?_ _)); refine blk_put (cs := #[.int .i64 0, .int .i64 0, .int .i64 0, .int .i64 0, .int .i64 0, .int .i64 0, .string (⟨#[]⟩ : ByteArray)]) ?_ 2 _ (by first | rfl | (simp [*]; done)); (with_reducible repeat (first | refine blk_drewN ?_ _ | refine blk_drew ?_ | refine blk_alloc ?_ _)); refine blk_put (cs := #[.int .i64 0, .int .i64 0, .int .i64 0, .int .i64 0, .int .i64 0, .int .i64 0, .string (⟨#[]⟩ : ByteArray)]) ?_ 1 _ (by first | rfl | (simp [*]; done)); (with_reducible repeat (first | refine blk_drewN ?_ _ | refine blk_drew ?_ | refine blk_alloc ?_ _)); refine blk_put (cs := #[.int .i64 0, .int .i64 0, .int .i64 0, .int .i64 0, .int .i64 0, .int .i64 0, .string (⟨#[]⟩ : ByteArray)]) ?_ 0 _ (by first | rfl | (simp [*]; done)); (with_reducible repeat (first | refine blk_drewN ?_ _ | refine blk_drew ?_ | refine blk_alloc ?_ _)); exact BK471.out) Try.underlying44 rfl (by kernel_rfl)) rfl ?_
                                      exact ⟨by first | rfl | (simp [errW_none, errW_some] <;> rfl) | (simp [*, errW_none, errW_some] <;> rfl), by repeat (first | (with_reducible first | exact HB.out | apply below_alloc | apply pw_below_drewN | apply below_drew1 | refine below_set ?_ GE471.out | refine below_set ?_ GE476.out) | exact HB.out)⟩
                                · rw [if_neg c74] at H
                                  exact absurd H (by simp)
                              · rw [if_neg c73] at H
                                have c73b0 : (t481 == (a1.size : Int)) = false := beq_eq_false_iff_ne.mpr c73
                                have c73b1 : (t481 != (a1.size : Int)) = true := bne_iff_ne.mpr c73
                                simp only [Option.some.injEq, Prod.mk.injEq] at H
                                obtain ⟨rfl, rfl, rfl, rfl, rfl, rfl, rfl, rfl⟩ := H
                                have hnb110 := NB476_471.out
                                have hnc110 := NB471_476.out
                                have hcz111_0 : wc.cell? ⟨gb476, 0, none⟩ = some (.int .i64 a0) := (blk_cell BK476.out 0).trans rfl
                                have hcz111_1 : wc.cell? ⟨gb476, 1, none⟩ = some (.int .i64 t474) := (blk_cell BK476.out 1).trans rfl
                                have hcz111_2 : wc.cell? ⟨gb476, 2, none⟩ = some (.int .i64 t475) := (blk_cell BK476.out 2).trans rfl
                                have hcz111_3 : wc.cell? ⟨gb476, 3, none⟩ = some (.int .i64 0) := (blk_cell BK476.out 3).trans rfl
                                have hcz111_4 : wc.cell? ⟨gb476, 4, none⟩ = some (.int .i64 0) := (blk_cell BK476.out 4).trans rfl
                                have hcz111_5 : wc.cell? ⟨gb476, 5, none⟩ = some (.int .i64 0) := (blk_cell BK476.out 5).trans rfl
                                have hcz111_6 : wc.cell? ⟨gb476, 6, none⟩ = some (.string (⟨#[]⟩ : ByteArray)) := (blk_cell BK476.out 6).trans rfl
                                have hfz111_0 := blk_frozen BK476.out 0
                                have hfz111_1 := blk_frozen BK476.out 1
                                have hfz111_2 := blk_frozen BK476.out 2
                                have hfz111_3 := blk_frozen BK476.out 3
                                have hfz111_4 := blk_frozen BK476.out 4
                                have hfz111_5 := blk_frozen BK476.out 5
                                have hfz111_6 := blk_frozen BK476.out 6
                                go_wp2_with (first | ((with_reducible refine gate_callee (f := 65) rfl ?_); refine goesL_ (some 76) rfl rfl Try.func65 (by kernel_rfl) rfl #[.string (a1.extract 4 6)] rfl (by (try simp only [List.map_toArray, List.map_cons, List.map_nil]); first | done | rfl | (simp only [List.length_drop, List.length_take]; rfl)) ?_; (with_reducible refine (wharfageref1_Of.calls kj18 (a1.extract 4 6) t481 _ A72.out).mono ?_); rintro e w' ⟨rfl, ⟨nd, rfl⟩⟩; refine ⟨_, rfl, ?_⟩; have hcz112_0 : wc.cell? ⟨gb471, 0, none⟩ = some (.int .i64 0) := (blk_cell BK471.out 0).trans rfl; have hcz112_1 : wc.cell? ⟨gb471, 1, none⟩ = some (.int .i64 0) := (blk_cell BK471.out 1).trans rfl; have hcz112_2 : wc.cell? ⟨gb471, 2, none⟩ = some (.int .i64 0) := (blk_cell BK471.out 2).trans rfl; have hcz112_3 : wc.cell? ⟨gb471, 3, none⟩ = some (.int .i64 0) := (blk_cell BK471.out 3).trans rfl; have hcz112_4 : wc.cell? ⟨gb471, 4, none⟩ = some (.int .i64 0) := (blk_cell BK471.out 4).trans rfl; have hcz112_5 : wc.cell? ⟨gb471, 5, none⟩ = some (.int .i64 0) := (blk_cell BK471.out 5).trans rfl; have hcz112_6 : wc.cell? ⟨gb471, 6, none⟩ = some (.string (⟨#[]⟩ : ByteArray)) := (blk_cell BK471.out 6).trans rfl; have hfz112_0 := blk_frozen BK471.out 0; have hfz112_1 := blk_frozen BK471.out 1; have hfz112_2 := blk_frozen BK471.out 2; have hfz112_3 := blk_frozen BK471.out 3; have hfz112_4 := blk_frozen BK471.out 4; have hfz112_5 := blk_frozen BK471.out 5; have hfz112_6 := blk_frozen BK471.out 6))
                                refine bodyPost_ret (results_ct rfl _ _ gb471 44 #[.int .i64 0, .int .i64 0, .int .i64 0, .int .i64 0, .int .i64 0, .int .i64 0, .string (⟨#[]⟩ : ByteArray)] (0, 0) _ rfl (by (with_reducible repeat (first | refine blk_drewN ?_ _ | refine blk_drew ?_ | refine blk_alloc ?_ _)); refine blk_put (cs := #[.int .i64 0, .int .i64 0, .int .i64 0, .int .i64 0, .int .i64 0, .int .i64 0, .string (⟨#[]⟩ : ByteArray)]) ?_ 6 _ (by first | rfl | (simp [*]; done)); (with_reducible repeat (first | refine blk_drewN ?_ _ | refine blk_drew ?_ | refine blk_alloc ?_ _)); refine blk_put (cs := #[.int .i64 0, .int .i64 0, .int .i64 0, .int .i64 0, .int .i64 0, .int .i64 0, .string (⟨#[]⟩ : ByteArray)]) ?_ 5 _ (by first | rfl | (simp [*]; done)); (with_reducible repeat (first | refine blk_drewN ?_ _ | refine blk_drew ?_ | refine blk_alloc ?_ _)); refine blk_put (cs := #[.int .i64 0, .int .i64 0, .int .i64 0, .int .i64 0, .int .i64 0, .int .i64 0, .string (⟨#[]⟩ : ByteArray)]) ?_ 4 _ (by first | rfl | (simp [*]; done)); (with_reducible repeat (first | refine blk_drewN ?_ _ | refine blk_drew ?_ | refine blk_alloc ?_ _)); refine blk_put (cs := #[.int .i64 0, .int .i64 0, .int .i64 0, .int .i64 0, .int .i64 0, .int .i64 0, .string (⟨#[]⟩ : ByteArray)]) ?_ 3 _ (by first | rfl | (simp [*]; done)); (with_reducible repeat (first | refine blk_drewN ?_ _ | refine blk_drew ?_ | refine blk_alloc ?_ _)); refine blk_put (cs := #[.int .i64 0, .int .i64 0, .int .i64 0, .int .i64 0, .int .i64 0, .int .i64 0, .string (⟨#[]⟩ : ByteArray)]) ?_ 2 _ (by first | rfl | (simp [*]; done)); (with_reducible repeat (first | refine blk_drewN ?_ _ | refine blk_drew ?_ | refine blk_alloc ?_ _)); refine blk_put (cs := #[.int .i64 0, .int .i64 0, .int .i64 0, .int .i64 0, .int .i64 0, .int .i64 0, .string (⟨#[]⟩ : ByteArray)]) ?_ 1 _ (by first | rfl | (simp [*]; done)); (with_reducible repeat (first | refine blk_drewN ?_ _ | refine blk_drew ?_ | refine blk_alloc ?_ _)); refine blk_put (cs := #[.int .i64 0, .int .i64 0, .int .i64 0, .int .i64 0, .int .i64 0, .int .i64 0, .string (⟨#[]⟩ : ByteArray)]) ?_ 0 _ (by first | rfl | (simp [*]; done)); (with_reducible repeat (first | refine blk_drewN ?_ _ | refine blk_drew ?_ | refine blk_alloc ?_ _)); refine blk_far ?_ NB471_476.out _; (with_reducible repeat (first | refine blk_drewN ?_ _ | refine blk_drew ?_ | refine blk_alloc ?_ _)); exact BK471.out) Try.underlying44 rfl (by kernel_rfl)) rfl ?_
                                exact ⟨by first | rfl | (simp [errW_none, errW_some] <;> rfl) | (simp [*, errW_none, errW_some] <;> rfl), by repeat (first | (with_reducible first | exact HB.out | apply below_alloc | apply pw_below_drewN | apply below_drew1 | refine below_set ?_ GE471.out | refine below_set ?_ GE476.out) | exact HB.out)⟩
                            · rw [if_neg c71] at H
                              exact absurd H (by simp)
                          · rw [if_neg c70] at H
                            exact absurd H (by simp)
                        · rw [if_neg c69] at H
                          exact absurd H (by simp)
                      · rw [if_neg c68] at H
                        have c68b0 : (a0 == 17) = false := beq_eq_false_iff_ne.mpr c68
                        have c68b1 : (a0 != 17) = true := bne_iff_ne.mpr c68
                        by_cases c113 : false = true
                        · exact absurd c113 (by decide)
                        · replace c113 := Bool.eq_false_iff.mpr c113
                          skip
                          have H1 : (some (0, 0, 0, 0, 0, 0, (⟨#[]⟩ : ByteArray), 300)) = some (r1, r2, r3, r4, r5, r6, r7, r8) := by rw [if_neg (show ¬ (false = true) by decide)] at H; exact H
                          clear H
                          have H := H1
                          clear H1
                          simp only [Option.some.injEq, Prod.mk.injEq] at H
                          obtain ⟨rfl, rfl, rfl, rfl, rfl, rfl, rfl, rfl⟩ := H
                          have hnb125 := NB471_476.out
                          have hnc125 := NB476_471.out
                          have hcz126_0 : wc.cell? ⟨gb471, 0, none⟩ = some (.int .i64 0) := (blk_cell BK471.out 0).trans rfl
                          have hcz126_1 : wc.cell? ⟨gb471, 1, none⟩ = some (.int .i64 0) := (blk_cell BK471.out 1).trans rfl
                          have hcz126_2 : wc.cell? ⟨gb471, 2, none⟩ = some (.int .i64 0) := (blk_cell BK471.out 2).trans rfl
                          have hcz126_3 : wc.cell? ⟨gb471, 3, none⟩ = some (.int .i64 0) := (blk_cell BK471.out 3).trans rfl
                          have hcz126_4 : wc.cell? ⟨gb471, 4, none⟩ = some (.int .i64 0) := (blk_cell BK471.out 4).trans rfl
                          have hcz126_5 : wc.cell? ⟨gb471, 5, none⟩ = some (.int .i64 0) := (blk_cell BK471.out 5).trans rfl
                          have hcz126_6 : wc.cell? ⟨gb471, 6, none⟩ = some (.string (⟨#[]⟩ : ByteArray)) := (blk_cell BK471.out 6).trans rfl
                          have hfz126_0 := blk_frozen BK471.out 0
                          have hfz126_1 := blk_frozen BK471.out 1
                          have hfz126_2 := blk_frozen BK471.out 2
                          have hfz126_3 := blk_frozen BK471.out 3
                          have hfz126_4 := blk_frozen BK471.out 4
                          have hfz126_5 := blk_frozen BK471.out 5
                          have hfz126_6 := blk_frozen BK471.out 6
                          go_wp2
                          refine bodyPost_ret (results_ct rfl _ _ gb471 44 #[.int .i64 0, .int .i64 0, .int .i64 0, .int .i64 0, .int .i64 0, .int .i64 0, .string (⟨#[]⟩ : ByteArray)] (0, 0) _ rfl (by (with_reducible repeat (first | refine blk_drewN ?_ _ | refine blk_drew ?_ | refine blk_alloc ?_ _)); refine blk_put (cs := #[.int .i64 0, .int .i64 0, .int .i64 0, .int .i64 0, .int .i64 0, .int .i64 0, .string (⟨#[]⟩ : ByteArray)]) ?_ 6 _ (by first | rfl | (simp [*]; done)); (with_reducible repeat (first | refine blk_drewN ?_ _ | refine blk_drew ?_ | refine blk_alloc ?_ _)); refine blk_put (cs := #[.int .i64 0, .int .i64 0, .int .i64 0, .int .i64 0, .int .i64 0, .int .i64 0, .string (⟨#[]⟩ : ByteArray)]) ?_ 5 _ (by first | rfl | (simp [*]; done)); (with_reducible repeat (first | refine blk_drewN ?_ _ | refine blk_drew ?_ | refine blk_alloc ?_ _)); refine blk_put (cs := #[.int .i64 0, .int .i64 0, .int .i64 0, .int .i64 0, .int .i64 0, .int .i64 0, .string (⟨#[]⟩ : ByteArray)]) ?_ 4 _ (by first | rfl | (simp [*]; done)); (with_reducible repeat (first | refine blk_drewN ?_ _ | refine blk_drew ?_ | refine blk_alloc ?_ _)); refine blk_put (cs := #[.int .i64 0, .int .i64 0, .int .i64 0, .int .i64 0, .int .i64 0, .int .i64 0, .string (⟨#[]⟩ : ByteArray)]) ?_ 3 _ (by first | rfl | (simp [*]; done)); (with_reducible repeat (first | refine blk_drewN ?_ _ | refine blk_drew ?_ | refine blk_alloc ?_ _)); refine blk_put (cs := #[.int .i64 0, .int .i64 0, .int .i64 0, .int .i64 0, .int .i64 0, .int .i64 0, .string (⟨#[]⟩ : ByteArray)]) ?_ 2 _ (by first | rfl | (simp [*]; done)); (with_reducible repeat (first | refine blk_drewN ?_ _ | refine blk_drew ?_ | refine blk_alloc ?_ _)); refine blk_put (cs := #[.int .i64 0, .int .i64 0, .int .i64 0, .int .i64 0, .int .i64 0, .int .i64 0, .string (⟨#[]⟩ : ByteArray)]) ?_ 1 _ (by first | rfl | (simp [*]; done)); (with_reducible repeat (first | refine blk_drewN ?_ _ | refine blk_drew ?_ | refine blk_alloc ?_ _)); refine blk_put (cs := #[.int .i64 0, .int .i64 0, .int .i64 0, .int .i64 0, .int .i64 0, .int .i64 0, .string (⟨#[]⟩ : ByteArray)]) ?_ 0 _ (by first | rfl | (simp [*]; done)); (with_reducible repeat (first | refine blk_drewN ?_ _ | refine blk_drew ?_ | refine blk_alloc ?_ _)); exact BK471.out) Try.underlying44 rfl (by kernel_rfl)) rfl ?_
                          exact ⟨by first | rfl | (simp [errW_none, errW_some] <;> rfl) | (simp [*, errW_none, errW_some] <;> rfl), by repeat (first | (with_reducible first | exact HB.out | apply below_alloc | apply pw_below_drewN | apply below_drew1 | refine below_set ?_ GE471.out | refine below_set ?_ GE476.out) | exact HB.out)⟩
              · rw [if_neg c17] at H
                exact absurd H (by simp)
            · rw [if_neg c16] at H
              exact absurd H (by simp)
          · rw [if_neg c14] at H
            exact absurd H (by simp)
        · rw [if_neg c13] at H
          exact absurd H (by simp)

end Go.Proofs.Ytobhmonmeocfmaa.PA
