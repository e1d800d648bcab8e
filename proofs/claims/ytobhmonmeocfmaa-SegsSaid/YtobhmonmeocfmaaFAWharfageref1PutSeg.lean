-- printed by a program of this session (myprint.py) out of the translation
import Derived.Test.YtobhmonmeocfmaaFAM0
import Derived.Test.YtobhmonmeocfmaaFAWharfageref1SegMay
import Derived.Test.YtobhmonmeocfmaaFAWharfageref1Pseudo
namespace Go.Proofs.Ytobhmonmeocfmaa.PA
open Go.RowKit Go.Proofs.YtobhmonmeocfmaaW.PrintWords Go.Proofs.YtobhmonmeocfmaaW.PrintLast Go.Proofs.YtobhmonmeocfmaaW.PrintMore
attribute [local go_sem] max2_int min2_int max_two min_two max_three min_three max_four min_four   -- for this text's walks alone
set_option linter.unusedVariables false
set_option linter.unusedSimpArgs false

/-! ### wharfageref1_PutSeg: function 30 -/
def wharfageref1_PutSeg.j0 : Nat → Int → Int → Bool → Int → Int → Int → Int → Int → Int → ByteArray → Option (ByteArray × Int)
  | 0, _, _, _, _, _, _, _, _, _, _ => none
  | k + 1, x1, x2, x23, x425000, x425001, x425002, x425003, x425004, x425005, x425006 => if x23 = true then (some ((⟨#[]⟩ : ByteArray), 300)) else ((wharfageref1_Num.f k x425001 2).bind fun t428 => ((wharfageref1_Num.f k x425002 2).bind fun t429 => (if t428.size + t429.size ≤ 9223372036854775807 then (if x425000 = 6 then ((wharfageref1_Num.f k x425003 4).bind fun t430 => (if (t428 ++ t429).size + t430.size ≤ 9223372036854775807 then ((wharfageref1_Num.f k x425004 4).bind fun t431 => (if ((t428 ++ t429) ++ t430).size + t431.size ≤ 9223372036854775807 then (if (((t428 ++ t429) ++ t430) ++ t431).size + 1 ≤ 9223372036854775807 then ((wharfageref1_Num.f k x425005 1).bind fun t432 => (if ((((t428 ++ t429) ++ t430) ++ t431) ++ (⟨#[80]⟩ : ByteArray)).size + t432.size ≤ 9223372036854775807 then ((wharfageref1_Num.f k 1024 2).bind fun t433 => (if (((((t428 ++ t429) ++ t430) ++ t431) ++ (⟨#[80]⟩ : ByteArray)) ++ t432).size + t433.size ≤ 9223372036854775807 then (if 2 + x425006.size ≤ 9223372036854775807 then (if ((((((t428 ++ t429) ++ t430) ++ t431) ++ (⟨#[80]⟩ : ByteArray)) ++ t432) ++ t433).size + 2 ≤ 9223372036854775807 then (if (((((((t428 ++ t429) ++ t430) ++ t431) ++ (⟨#[80]⟩ : ByteArray)) ++ t432) ++ t433) ++ (⟨#[0, 0]⟩ : ByteArray)).size + ((⟨#[0, 0]⟩ : ByteArray) ++ x425006).size ≤ 9223372036854775807 then ((wharfageref1_pseudo.f k x425000 ((((((((t428 ++ t429) ++ t430) ++ t431) ++ (⟨#[80]⟩ : ByteArray)) ++ t432) ++ t433) ++ (⟨#[0, 0]⟩ : ByteArray)) ++ ((⟨#[0, 0]⟩ : ByteArray) ++ x425006)) x1 x2).bind fun t434 => ((wharfageref1_Num.f k (wrap64 (65535 - t434)) 2).bind fun t435 => (if ((((((t428 ++ t429) ++ t430) ++ t431) ++ (⟨#[80]⟩ : ByteArray)) ++ t432) ++ t433).size + t435.size ≤ 9223372036854775807 then (if (((((((t428 ++ t429) ++ t430) ++ t431) ++ (⟨#[80]⟩ : ByteArray)) ++ t432) ++ t433) ++ t435).size + ((⟨#[0, 0]⟩ : ByteArray) ++ x425006).size ≤ 9223372036854775807 then (some ((((((((t428 ++ t429) ++ t430) ++ t431) ++ (⟨#[80]⟩ : ByteArray)) ++ t432) ++ t433) ++ t435) ++ ((⟨#[0, 0]⟩ : ByteArray) ++ x425006), 0)) else (none)) else (none)))) else (none)) else (none)) else (none)) else (none))) else (none))) else (none)) else (none))) else (none))) else ((wharfageref1_Num.f k (wrap64 (8 + (x425006.size : Int))) 2).bind fun t436 => (if (t428 ++ t429).size + t436.size ≤ 9223372036854775807 then (if ((t428 ++ t429) ++ t436).size + 2 ≤ 9223372036854775807 then (if (((t428 ++ t429) ++ t436) ++ (⟨#[0, 0]⟩ : ByteArray)).size + x425006.size ≤ 9223372036854775807 then ((wharfageref1_pseudo.f k x425000 ((((t428 ++ t429) ++ t436) ++ (⟨#[0, 0]⟩ : ByteArray)) ++ x425006) x1 x2).bind fun t437 => (if (wrap64 (65535 - t437)) = 0 then ((wharfageref1_Num.f k 65535 2).bind fun t438 => (if ((t428 ++ t429) ++ t436).size + t438.size ≤ 9223372036854775807 then (if (((t428 ++ t429) ++ t436) ++ t438).size + x425006.size ≤ 9223372036854775807 then (some ((((t428 ++ t429) ++ t436) ++ t438) ++ x425006, 0)) else (none)) else (none))) else ((wharfageref1_Num.f k (wrap64 (65535 - t437)) 2).bind fun t439 => (if ((t428 ++ t429) ++ t436).size + t439.size ≤ 9223372036854775807 then (if (((t428 ++ t429) ++ t436) ++ t439).size + x425006.size ≤ 9223372036854775807 then (some ((((t428 ++ t429) ++ t436) ++ t439) ++ x425006, 0)) else (none)) else (none))))) else (none)) else (none)) else (none)))) else (none))))
def wharfageref1_PutSeg.f (k : Nat) (a0_0 : Int) (a0_1 : Int) (a0_2 : Int) (a0_3 : Int) (a0_4 : Int) (a0_5 : Int) (a0_6 : ByteArray) (a1 : Int) (a2 : Int) : Option (ByteArray × Int) := (wharfageref1_SegMay.f k a0_0 a0_1 a0_2 a0_3 a0_4 a0_5 a0_6).bind fun t425 => (if t425 = true then ((wharfageref1_within.f a1 32).bind fun t426 => (if t426 = true then ((wharfageref1_within.f a2 32).bind fun t427 => (wharfageref1_PutSeg.j0 k a1 a2 (!t427) a0_0 a0_1 a0_2 a0_3 a0_4 a0_5 a0_6)) else (wharfageref1_PutSeg.j0 k a1 a2 true a0_0 a0_1 a0_2 a0_3 a0_4 a0_5 a0_6))) else (wharfageref1_PutSeg.j0 k a1 a2 true a0_0 a0_1 a0_2 a0_3 a0_4 a0_5 a0_6))
theorem wharfageref1_PutSeg.mono_l : ∀ k, (∀ y0 y1 y2 y3 y4 y5 y6 y7 y8 y9, LeO (wharfageref1_PutSeg.j0 k y0 y1 y2 y3 y4 y5 y6 y7 y8 y9) (wharfageref1_PutSeg.j0 (k + 1) y0 y1 y2 y3 y4 y5 y6 y7 y8 y9))
  | 0 => fun _ _ _ _ _ _ _ _ _ _ r h => by simp [wharfageref1_PutSeg.j0] at h
  | k + 1 => by
    have ih0 := wharfageref1_PutSeg.mono_l k
    · intro y0 y1 y2 y3 y4 y5 y6 y7 y8 y9
      unfold wharfageref1_PutSeg.j0
      repeat' first
      | (with_reducible exact ih0 _ _ _ _ _ _ _ _ _ _)
      | (with_reducible exact wharfageref1_Num.mono _ _ _)
      | (with_reducible exact wharfageref1_SegMay.mono _ _ _ _ _ _ _ _)
      | (with_reducible exact wharfageref1_pseudo.mono _ _ _ _ _)
      | (with_reducible exact LeO.refl _)
      | (with_reducible exact LeO.none _)
      | (with_reducible refine LeO.ite ?_ ?_)
      | (with_reducible refine LeO.bind ?_ (fun _ => ?_))
      | exact ih0 _ _ _ _ _ _ _ _ _ _
      | exact wharfageref1_Num.mono _ _ _
      | exact wharfageref1_SegMay.mono _ _ _ _ _ _ _ _
      | exact wharfageref1_pseudo.mono _ _ _ _ _
      | exact LeO.none _
      | refine LeO.ite ?_ ?_
      | refine LeO.bind ?_ (fun _ => ?_)
theorem wharfageref1_PutSeg.mono : ∀ a0 a1 a2 a3 a4 a5 a6 a7 a8 k, LeO (wharfageref1_PutSeg.f k a0 a1 a2 a3 a4 a5 a6 a7 a8) (wharfageref1_PutSeg.f (k + 1) a0 a1 a2 a3 a4 a5 a6 a7 a8) := by
  intro a0 a1 a2 a3 a4 a5 a6 a7 a8 k
  have ih0 := wharfageref1_PutSeg.mono_l k
  unfold wharfageref1_PutSeg.f
  repeat' first
      | (with_reducible exact ih0 _ _ _ _ _ _ _ _ _ _)
      | (with_reducible exact wharfageref1_Num.mono _ _ _)
      | (with_reducible exact wharfageref1_SegMay.mono _ _ _ _ _ _ _ _)
      | (with_reducible exact wharfageref1_pseudo.mono _ _ _ _ _)
      | (with_reducible exact LeO.refl _)
      | (with_reducible exact LeO.none _)
      | (with_reducible refine LeO.ite ?_ ?_)
      | (with_reducible refine LeO.bind ?_ (fun _ => ?_))
      | exact ih0 _ _ _ _ _ _ _ _ _ _
      | exact wharfageref1_Num.mono _ _ _
      | exact wharfageref1_SegMay.mono _ _ _ _ _ _ _ _
      | exact wharfageref1_pseudo.mono _ _ _ _ _
      | exact LeO.none _
      | refine LeO.ite ?_ ?_
      | refine LeO.bind ?_ (fun _ => ?_)
def wharfageref1_PutSeg.T3 : Bool × List (List Nat × List Nat) := (true, [([], []), ([0], [0]), ([1], [1]), ([], []), ([3], [3]), ([4, 2], [4]), ([2, 5], [2, 5]), ([6, 5, 0, 1, 2, 3, 4, 5, 6], [6])])
def wharfageref1_PutSeg.B3 : List Nat := [0, 1, 3, 0, 8, 31, 63, 127]
theorem wharfageref1_PutSeg.tab3 : rtab .any (opsOf Try.f30 3) = wharfageref1_PutSeg.T3 := by kernel_rfl
theorem wharfageref1_PutSeg.bits3 : waitsOk wharfageref1_PutSeg.T3.2 wharfageref1_PutSeg.B3 = true := by kernel_rfl
def wharfageref1_PutSeg.T5 : Bool × List (List Nat × List Nat) := (true, [([], []), ([], []), ([1], [1]), ([2], [2]), ([0, 3], [0, 3]), ([], []), ([5], [5]), ([6, 3], [6]), ([4, 7], [4, 7]), ([8], [8]), ([], []), ([10], [10]), ([11, 7], [11]), ([9, 12], [9, 12]), ([12], []), ([13, 14], [13, 14]), ([15, 14, 0, 1, 2, 3, 4, 5, 6, 7, 8, 9, 10, 11, 12, 13, 14, 15], [0, 15])])
def wharfageref1_PutSeg.B5 : List Nat := [0, 0, 2, 6, 15, 0, 32, 110, 255, 511, 0, 1024, 3310, 8191, 7406, 32767, 65535]
theorem wharfageref1_PutSeg.tab5 : rtab .any (opsOf Try.f30 5) = wharfageref1_PutSeg.T5 := by kernel_rfl
theorem wharfageref1_PutSeg.bits5 : waitsOk wharfageref1_PutSeg.T5.2 wharfageref1_PutSeg.B5 = true := by kernel_rfl
def wharfageref1_PutSeg.T12 : Bool × List (List Nat × List Nat) := (true, [([], []), ([], []), ([1], [1]), ([0, 2], [0, 2]), ([], []), ([4], [4]), ([3, 5], [3, 5]), ([6, 2, 0, 1, 2, 3, 4, 5, 6], [6]), ([7, 0, 1, 2, 3, 4, 5, 6, 7], [])])
def wharfageref1_PutSeg.B12 : List Nat := [0, 0, 2, 7, 0, 16, 63, 127, 255]
theorem wharfageref1_PutSeg.tab12 : rtab .any (opsOf Try.f30 12) = wharfageref1_PutSeg.T12 := by kernel_rfl
theorem wharfageref1_PutSeg.bits12 : waitsOk wharfageref1_PutSeg.T12.2 wharfageref1_PutSeg.B12 = true := by kernel_rfl
set_option maxHeartbeats 8000000 in
set_option maxRecDepth 100000 in
theorem wharfageref1_PutSeg.calls (k : Nat) (a0_0 : Int) (a0_1 : Int) (a0_2 : Int) (a0_3 : Int) (a0_4 : Int) (a0_5 : Int) (a0_6 : ByteArray) (a1 : Int) (a2 : Int) (r1 : ByteArray) (r2 : Int) (w : World) (h : wharfageref1_PutSeg.f k a0_0 a0_1 a0_2 a0_3 a0_4 a0_5 a0_6 a1 a2 = some (r1, r2)) :
    Calls Try.prog 30 #[.agg #[.int .i64 a0_0, .int .i64 a0_1, .int .i64 a0_2, .int .i64 a0_3, .int .i64 a0_4, .int .i64 a0_5, .string a0_6], .int .i64 a1, .int .i64 a2] w fun e w' => e = .returned (.tuple #[.string r1, .int .i64 r2]) ∧ Below w.heap.size w w' := by
  have HB := Aside0.mk (Below.refl w.heap.size w)
  unfold wharfageref1_PutSeg.f at h
  have hut := Try.underlying44
  simp only [Option.bind_eq_some_iff] at h
  obtain ⟨t1, A1, h⟩ := h
  replace A1 := Aside0.mk A1
  have hk : ∃ m, k = m + 1 := by
    cases k with
    | zero =>
      exfalso
      have z0 : ∀ b, wharfageref1_PutSeg.j0 0 a1 a2 b a0_0 a0_1 a0_2 a0_3 a0_4 a0_5 a0_6 = none := by intro b; rw [wharfageref1_PutSeg.j0]
      cases t1
      · rw [if_neg (by decide), z0] at h; cases h
      · rw [if_pos rfl] at h
        simp only [Option.bind_eq_some_iff] at h
        obtain ⟨t2, _, h⟩ := h
        cases t2
        · rw [if_neg (by decide), z0] at h; cases h
        · rw [if_pos rfl] at h
          simp only [Option.bind_eq_some_iff] at h
          obtain ⟨t3, _, h⟩ := h
          rw [z0] at h; cases h
    | succ m => exact ⟨m, rfl⟩
  obtain ⟨k, rfl⟩ := hk
  have bad : ∀ {b : Bool}, b = true → wharfageref1_PutSeg.j0 (k + 1) a1 a2 b a0_0 a0_1 a0_2 a0_3 a0_4 a0_5 a0_6 = some (r1, r2) → r1 = ⟨#[]⟩ ∧ r2 = 300 := by
    intro b hb hh
    subst hb
    rw [wharfageref1_PutSeg.j0, if_pos rfl] at hh
    simp only [Option.some.injEq, Prod.mk.injEq] at hh
    exact ⟨hh.1.symm, hh.2.symm⟩
  cases t1
  · rw [if_neg (by decide)] at h
    obtain ⟨rfl, rfl⟩ := bad rfl h
    clear bad h
    go_enter Try.func30, Try.ntmps30
    go_wp2_with (first | (go_at_call 34; with_reducible refine (wharfageref1_SegMay.calls _ _ _ _ _ _ _ _ _ _ A1.out).mono ?_; rintro e w1 ⟨rfl, hb1⟩))
    go_ret2
    exact ⟨rfl, below_then (below_alloc HB.out _) (below_alloc HB.out _).size hb1⟩
  · rw [if_pos rfl] at h
    simp only [Option.bind_eq_some_iff] at h
    obtain ⟨t2, A2, h⟩ := h
    replace A2 := Aside0.mk A2
    cases t2
    · rw [if_neg (by decide)] at h
      obtain ⟨rfl, rfl⟩ := bad rfl h
      clear bad h
      go_enter Try.func30, Try.ntmps30
      go_wp2_with (first | (go_at_call 34; with_reducible refine (wharfageref1_SegMay.calls _ _ _ _ _ _ _ _ _ _ A1.out).mono ?_; rintro e w1 ⟨rfl, hb1⟩) | (go_at_call 58; with_reducible refine (wharfageref1_within.calls _ _ _ _ A2.out).mono ?_; rintro e w1' ⟨rfl, ⟨nd, rfl⟩⟩))
      go_ret2
      exact ⟨rfl, by repeat (first | refine pw_below_drewN ?_ _ | exact below_then (below_alloc HB.out _) (below_alloc HB.out _).size hb1)⟩
    · rw [if_pos rfl] at h
      simp only [Option.bind_eq_some_iff] at h
      obtain ⟨t3, A3, h⟩ := h
      replace A3 := Aside0.mk A3
      cases t3
      · obtain ⟨rfl, rfl⟩ := bad rfl h
        clear bad h
        go_enter Try.func30, Try.ntmps30
        go_wp2_with (first | (go_at_call 34; with_reducible refine (wharfageref1_SegMay.calls _ _ _ _ _ _ _ _ _ _ A1.out).mono ?_; rintro e w1 ⟨rfl, hb1⟩) | (go_at_call 58; with_reducible refine (wharfageref1_within.calls _ _ _ _ A2.out).mono ?_; rintro e w1' ⟨rfl, ⟨nd, rfl⟩⟩) | (go_at_call 58; with_reducible refine (wharfageref1_within.calls _ _ _ _ A3.out).mono ?_; rintro e w1' ⟨rfl, ⟨nd, rfl⟩⟩))
        go_ret2
        exact ⟨rfl, by repeat (first | refine pw_below_drewN ?_ _ | exact below_then (below_alloc HB.out _) (below_alloc HB.out _).size hb1)⟩
      · clear bad
        rw [wharfageref1_PutSeg.j0, Bool.not_true, if_neg (by decide)] at h
        simp only [Option.bind_eq_some_iff, Option.ite_none_right_eq_some] at h
        obtain ⟨u1, D1, u2, D2, c1, h⟩ := h
        simp only [ByteArray.size_append', ByteArray.size_mk', List.size_toArray, List.length_cons, List.length_nil, Nat.reduceAdd, ← Nat.not_lt] at c1
        by_cases c0 : a0_0 = 6
        · subst c0
          rw [if_pos rfl] at h
          simp only [Option.bind_eq_some_iff, Option.ite_none_right_eq_some] at h
          obtain ⟨u3, D3, c3, u4, D4, c4, c5, u5, D5, c6, u6, D6, c7, c8, c9, c10, u7, D7, u8, D8, c11, c12, h⟩ := h
          simp only [Option.some.injEq, Prod.mk.injEq] at h
          obtain ⟨rfl, rfl⟩ := h
          simp only [ByteArray.size_append', ByteArray.size_mk', List.size_toArray, List.length_cons, List.length_nil, Nat.reduceAdd, ← Nat.not_lt] at c3 c4 c5 c6 c7 c8 c9 c10 c11 c12
          obtain ⟨y, hy⟩ : ∃ y, wrap64 (65535 - u7) = y := ⟨_, rfl⟩
          rw [hy] at D8
          have hv := (i64_w (65535 - u7)).trans hy
          replace D1 := Aside0.mk D1
          replace D2 := Aside0.mk D2
          replace D3 := Aside0.mk D3
          replace D4 := Aside0.mk D4
          replace D5 := Aside0.mk D5
          replace D6 := Aside0.mk D6
          replace D7 := Aside0.mk D7
          replace D8 := Aside0.mk D8
          have KS := Aside0.mk (show ∀ W W1 : World, W.heap[w.heap.size]? = some (.cells #[.int .i64 6, .int .i64 a0_1, .int .i64 a0_2, .int .i64 a0_3, .int .i64 a0_4, .int .i64 a0_5, .string a0_6] 44 (0, 0)) → Below w.heap.size w W → Below W.heap.size W W1 → W1.heap[w.heap.size]? = some (.cells #[.int .i64 6, .int .i64 a0_1, .int .i64 a0_2, .int .i64 a0_3, .int .i64 a0_4, .int .i64 a0_5, .string a0_6] 44 (0, 0)) ∧ Below w.heap.size w W1 ∧ W1.cell? ⟨w.heap.size, 0, none⟩ = some (.int .i64 6) ∧ W1.cell? ⟨w.heap.size, 1, none⟩ = some (.int .i64 a0_1) ∧ W1.cell? ⟨w.heap.size, 2, none⟩ = some (.int .i64 a0_2) ∧ W1.cell? ⟨w.heap.size, 3, none⟩ = some (.int .i64 a0_3) ∧ W1.cell? ⟨w.heap.size, 4, none⟩ = some (.int .i64 a0_4) ∧ W1.cell? ⟨w.heap.size, 5, none⟩ = some (.int .i64 a0_5) ∧ W1.cell? ⟨w.heap.size, 6, none⟩ = some (.string a0_6) from fun W W1 hi hb hb1 => by
      have hi1 := (hb1.block _ (blk_lt hi)).trans hi
      exact ⟨hi1, below_then hb hb.size hb1, (blk_cell hi1 0).trans rfl, (blk_cell hi1 1).trans rfl, (blk_cell hi1 2).trans rfl, (blk_cell hi1 3).trans rfl, (blk_cell hi1 4).trans rfl, (blk_cell hi1 5).trans rfl, (blk_cell hi1 6).trans rfl⟩)
          go_enter Try.func30, Try.ntmps30
          go_wp2_with (first | (go_at_call 34; with_reducible refine (wharfageref1_SegMay.calls _ _ _ _ _ _ _ _ _ _ A1.out).mono ?_; rintro e w1 ⟨rfl, hb1⟩) | (go_at_call 58; with_reducible refine (wharfageref1_within.calls _ _ _ _ A2.out).mono ?_; rintro e w1' ⟨rfl, ⟨nd, rfl⟩⟩) | (go_at_call 58; with_reducible refine (wharfageref1_within.calls _ _ _ _ A3.out).mono ?_; rintro e w1' ⟨rfl, ⟨nd, rfl⟩⟩))
          obtain ⟨I1, B1, q0, q1, q2, q3, q4, q5, q6⟩ := KS.out _ _ (heap_alloc_new w _) (below_alloc HB.out _) hb1
          clear hb1
          go_region_held3 (fun w' => w'.heap[w.heap.size]? = some (.cells #[.int .i64 6, .int .i64 a0_1, .int .i64 a0_2, .int .i64 a0_3, .int .i64 a0_4, .int .i64 a0_5, .string a0_6] 44 (0, 0)) ∧ Below w.heap.size w w' ∧ w'.cell? ⟨w.heap.size, 0, none⟩ = some (.int .i64 6) ∧ w'.cell? ⟨w.heap.size, 1, none⟩ = some (.int .i64 a0_1) ∧ w'.cell? ⟨w.heap.size, 2, none⟩ = some (.int .i64 a0_2) ∧ w'.cell? ⟨w.heap.size, 3, none⟩ = some (.int .i64 a0_3) ∧ w'.cell? ⟨w.heap.size, 4, none⟩ = some (.int .i64 a0_4) ∧ w'.cell? ⟨w.heap.size, 5, none⟩ = some (.int .i64 a0_5) ∧ w'.cell? ⟨w.heap.size, 6, none⟩ = some (.string a0_6)) (first | (go_split_ands; exact KS.out _ _ (by assumption) (by assumption) hb2) | (go_split_ands; exact KS.out _ _ (by assumption) (by assumption) (below_drew (Below.refl _ _))) | (go_split_ands; exact KS.out _ _ (by assumption) (by assumption) (pw_below_drewN (Below.refl _ _) _)) | (go_split_ands; exact KS.out _ _ (by assumption) (by assumption) (Below.refl _ _)) | exact KS.out _ _ I1 B1 (by repeat (first | exact Below.refl _ _ | refine below_drew ?_ | refine pw_below_drewN ?_ _))) ((go_at_call 52; with_reducible refine (wharfageref1_Num.calls k _ _ _ _ (by first | exact D1.out | exact D2.out)).mono ?_; rintro e w2 ⟨rfl, hb2⟩))
          go_split_ands
          go_wp2_with fail
          go_region_held3 (fun w' => w'.heap[w.heap.size]? = some (.cells #[.int .i64 6, .int .i64 a0_1, .int .i64 a0_2, .int .i64 a0_3, .int .i64 a0_4, .int .i64 a0_5, .string a0_6] 44 (0, 0)) ∧ Below w.heap.size w w' ∧ w'.cell? ⟨w.heap.size, 0, none⟩ = some (.int .i64 6) ∧ w'.cell? ⟨w.heap.size, 1, none⟩ = some (.int .i64 a0_1) ∧ w'.cell? ⟨w.heap.size, 2, none⟩ = some (.int .i64 a0_2) ∧ w'.cell? ⟨w.heap.size, 3, none⟩ = some (.int .i64 a0_3) ∧ w'.cell? ⟨w.heap.size, 4, none⟩ = some (.int .i64 a0_4) ∧ w'.cell? ⟨w.heap.size, 5, none⟩ = some (.int .i64 a0_5) ∧ w'.cell? ⟨w.heap.size, 6, none⟩ = some (.string a0_6)) (first | (go_split_ands; exact KS.out _ _ (by assumption) (by assumption) hb2) | (go_split_ands; exact KS.out _ _ (by assumption) (by assumption) (below_drew (Below.refl _ _))) | (go_split_ands; exact KS.out _ _ (by assumption) (by assumption) (pw_below_drewN (Below.refl _ _) _)) | (go_split_ands; exact KS.out _ _ (by assumption) (by assumption) (Below.refl _ _))) ((go_at_call 52; with_reducible refine (wharfageref1_Num.calls k _ _ _ _ (by first | exact D3.out | exact D4.out | exact D5.out | exact D6.out)).mono ?_; rintro e w2 ⟨rfl, hb2⟩))
          go_split_ands
          go_wp2_with (first | (go_at_call 62; with_reducible refine (wharfageref1_pseudo.calls k _ _ _ _ _ _ D7.out).mono ?_; rintro e w4 ⟨rfl, hb4⟩; have B4 : Below w.heap.size w w4 := (fun h => below_then h h.size hb4) (by assumption)) | (go_at_call 52; with_reducible refine (wharfageref1_Num.calls k _ _ _ _ (by first | exact D8.out)).mono ?_; rintro e w2 ⟨rfl, hb2⟩))
          go_ret2
          exact ⟨rfl, below_then B4 B4.size hb2⟩
        · rw [if_neg c0] at h
          simp only [Option.bind_eq_some_iff, Option.ite_none_right_eq_some] at h
          obtain ⟨u3, D3, c3, c4, c5, u7, D7, h⟩ := h
          simp only [ByteArray.size_append', ByteArray.size_mk', List.size_toArray, List.length_cons, List.length_nil, Nat.reduceAdd, ← Nat.not_lt] at c3 c4 c5
          obtain ⟨z, hz⟩ : ∃ z, wrap64 (8 + (a0_6.size : Int)) = z := ⟨_, rfl⟩
          rw [hz] at D3
          have hw := (i64_w (8 + (a0_6.size : Int))).trans hz
          obtain ⟨y, hy⟩ : ∃ y, wrap64 (65535 - u7) = y := ⟨_, rfl⟩
          rw [hy] at h
          have hv := (i64_w (65535 - u7)).trans hy
          by_cases cy : y = 0
          · subst cy
            rw [if_pos rfl] at h
            simp only [Option.bind_eq_some_iff, Option.ite_none_right_eq_some] at h
            obtain ⟨u8, D8, c6, c7, h⟩ := h
            simp only [Option.some.injEq, Prod.mk.injEq] at h
            obtain ⟨rfl, rfl⟩ := h
            simp only [ByteArray.size_append', ByteArray.size_mk', List.size_toArray, List.length_cons, List.length_nil, Nat.reduceAdd, ← Nat.not_lt] at c6 c7
            replace D1 := Aside0.mk D1
            replace D2 := Aside0.mk D2
            replace D3 := Aside0.mk D3
            replace D7 := Aside0.mk D7
            replace D8 := Aside0.mk D8
            have KS := Aside0.mk (show ∀ W W1 : World, W.heap[w.heap.size]? = some (.cells #[.int .i64 a0_0, .int .i64 a0_1, .int .i64 a0_2, .int .i64 a0_3, .int .i64 a0_4, .int .i64 a0_5, .string a0_6] 44 (0, 0)) → Below w.heap.size w W → Below W.heap.size W W1 → W1.heap[w.heap.size]? = some (.cells #[.int .i64 a0_0, .int .i64 a0_1, .int .i64 a0_2, .int .i64 a0_3, .int .i64 a0_4, .int .i64 a0_5, .string a0_6] 44 (0, 0)) ∧ Below w.heap.size w W1 ∧ W1.cell? ⟨w.heap.size, 0, none⟩ = some (.int .i64 a0_0) ∧ W1.cell? ⟨w.heap.size, 1, none⟩ = some (.int .i64 a0_1) ∧ W1.cell? ⟨w.heap.size, 2, none⟩ = some (.int .i64 a0_2) ∧ W1.cell? ⟨w.heap.size, 3, none⟩ = some (.int .i64 a0_3) ∧ W1.cell? ⟨w.heap.size, 4, none⟩ = some (.int .i64 a0_4) ∧ W1.cell? ⟨w.heap.size, 5, none⟩ = some (.int .i64 a0_5) ∧ W1.cell? ⟨w.heap.size, 6, none⟩ = some (.string a0_6) from fun W W1 hi hb hb1 => by
      have hi1 := (hb1.block _ (blk_lt hi)).trans hi
      exact ⟨hi1, below_then hb hb.size hb1, (blk_cell hi1 0).trans rfl, (blk_cell hi1 1).trans rfl, (blk_cell hi1 2).trans rfl, (blk_cell hi1 3).trans rfl, (blk_cell hi1 4).trans rfl, (blk_cell hi1 5).trans rfl, (blk_cell hi1 6).trans rfl⟩)
            go_enter Try.func30, Try.ntmps30
            go_wp2_with (first | (go_at_call 34; with_reducible refine (wharfageref1_SegMay.calls _ _ _ _ _ _ _ _ _ _ A1.out).mono ?_; rintro e w1 ⟨rfl, hb1⟩) | (go_at_call 58; with_reducible refine (wharfageref1_within.calls _ _ _ _ A2.out).mono ?_; rintro e w1' ⟨rfl, ⟨nd, rfl⟩⟩) | (go_at_call 58; with_reducible refine (wharfageref1_within.calls _ _ _ _ A3.out).mono ?_; rintro e w1' ⟨rfl, ⟨nd, rfl⟩⟩))
            obtain ⟨I1, B1, q0, q1, q2, q3, q4, q5, q6⟩ := KS.out _ _ (heap_alloc_new w _) (below_alloc HB.out _) hb1
            clear hb1
            go_region_held3 (fun w' => w'.heap[w.heap.size]? = some (.cells #[.int .i64 a0_0, .int .i64 a0_1, .int .i64 a0_2, .int .i64 a0_3, .int .i64 a0_4, .int .i64 a0_5, .string a0_6] 44 (0, 0)) ∧ Below w.heap.size w w' ∧ w'.cell? ⟨w.heap.size, 0, none⟩ = some (.int .i64 a0_0) ∧ w'.cell? ⟨w.heap.size, 1, none⟩ = some (.int .i64 a0_1) ∧ w'.cell? ⟨w.heap.size, 2, none⟩ = some (.int .i64 a0_2) ∧ w'.cell? ⟨w.heap.size, 3, none⟩ = some (.int .i64 a0_3) ∧ w'.cell? ⟨w.heap.size, 4, none⟩ = some (.int .i64 a0_4) ∧ w'.cell? ⟨w.heap.size, 5, none⟩ = some (.int .i64 a0_5) ∧ w'.cell? ⟨w.heap.size, 6, none⟩ = some (.string a0_6)) (first | (go_split_ands; exact KS.out _ _ (by assumption) (by assumption) hb2) | (go_split_ands; exact KS.out _ _ (by assumption) (by assumption) (below_drew (Below.refl _ _))) | (go_split_ands; exact KS.out _ _ (by assumption) (by assumption) (pw_below_drewN (Below.refl _ _) _)) | (go_split_ands; exact KS.out _ _ (by assumption) (by assumption) (Below.refl _ _)) | exact KS.out _ _ I1 B1 (by repeat (first | exact Below.refl _ _ | refine below_drew ?_ | refine pw_below_drewN ?_ _))) ((go_at_call 52; with_reducible refine (wharfageref1_Num.calls k _ _ _ _ (by first | exact D1.out | exact D2.out)).mono ?_; rintro e w2 ⟨rfl, hb2⟩))
            go_split_ands
            go_wp2_with (first | (go_at_call 52; with_reducible refine (wharfageref1_Num.calls k _ _ _ _ D3.out).mono ?_; rintro e w3 ⟨rfl, hb3⟩; obtain ⟨I4, B4, p0, p1, p2, p3, p4, p5, p6⟩ := KS.out _ _ (by assumption) (by assumption) hb3) | (go_at_call 62; with_reducible refine (wharfageref1_pseudo.calls k _ _ _ _ _ _ D7.out).mono ?_; rintro e w4 ⟨rfl, hb4⟩; obtain ⟨I5, B5, r0, r1, r2, r3, r4, r5, r6⟩ := KS.out _ _ I4 B4 hb4))
            go_region_held3 (fun w' => w'.heap[w.heap.size]? = some (.cells #[.int .i64 a0_0, .int .i64 a0_1, .int .i64 a0_2, .int .i64 a0_3, .int .i64 a0_4, .int .i64 a0_5, .string a0_6] 44 (0, 0)) ∧ Below w.heap.size w w' ∧ w'.cell? ⟨w.heap.size, 0, none⟩ = some (.int .i64 a0_0) ∧ w'.cell? ⟨w.heap.size, 1, none⟩ = some (.int .i64 a0_1) ∧ w'.cell? ⟨w.heap.size, 2, none⟩ = some (.int .i64 a0_2) ∧ w'.cell? ⟨w.heap.size, 3, none⟩ = some (.int .i64 a0_3) ∧ w'.cell? ⟨w.heap.size, 4, none⟩ = some (.int .i64 a0_4) ∧ w'.cell? ⟨w.heap.size, 5, none⟩ = some (.int .i64 a0_5) ∧ w'.cell? ⟨w.heap.size, 6, none⟩ = some (.string a0_6)) (first | (go_split_ands; exact KS.out _ _ (by assumption) (by assumption) hb2) | (go_split_ands; exact KS.out _ _ (by assumption) (by assumption) (below_drew (Below.refl _ _))) | (go_split_ands; exact KS.out _ _ (by assumption) (by assumption) (pw_below_drewN (Below.refl _ _) _)) | (go_split_ands; exact KS.out _ _ (by assumption) (by assumption) (Below.refl _ _)) | exact KS.out _ _ I5 B5 (by repeat (first | exact Below.refl _ _ | refine below_drew ?_ | refine pw_below_drewN ?_ _))) ((go_at_call 52; with_reducible refine (wharfageref1_Num.calls k _ _ _ _ (by first | exact D8.out)).mono ?_; rintro e w2 ⟨rfl, hb2⟩))
            go_wp2
            go_ret2
            go_split_ands
            exact ⟨rfl, by assumption⟩
          · skip
            rw [if_neg cy] at h
            simp only [Option.bind_eq_some_iff, Option.ite_none_right_eq_some] at h
            obtain ⟨u8, D8, c6, c7, h⟩ := h
            simp only [Option.some.injEq, Prod.mk.injEq] at h
            obtain ⟨rfl, rfl⟩ := h
            simp only [ByteArray.size_append', ByteArray.size_mk', List.size_toArray, List.length_cons, List.length_nil, Nat.reduceAdd, ← Nat.not_lt] at c6 c7
            replace D1 := Aside0.mk D1
            replace D2 := Aside0.mk D2
            replace D3 := Aside0.mk D3
            replace D7 := Aside0.mk D7
            replace D8 := Aside0.mk D8
            have KS := Aside0.mk (show ∀ W W1 : World, W.heap[w.heap.size]? = some (.cells #[.int .i64 a0_0, .int .i64 a0_1, .int .i64 a0_2, .int .i64 a0_3, .int .i64 a0_4, .int .i64 a0_5, .string a0_6] 44 (0, 0)) → Below w.heap.size w W → Below W.heap.size W W1 → W1.heap[w.heap.size]? = some (.cells #[.int .i64 a0_0, .int .i64 a0_1, .int .i64 a0_2, .int .i64 a0_3, .int .i64 a0_4, .int .i64 a0_5, .string a0_6] 44 (0, 0)) ∧ Below w.heap.size w W1 ∧ W1.cell? ⟨w.heap.size, 0, none⟩ = some (.int .i64 a0_0) ∧ W1.cell? ⟨w.heap.size, 1, none⟩ = some (.int .i64 a0_1) ∧ W1.cell? ⟨w.heap.size, 2, none⟩ = some (.int .i64 a0_2) ∧ W1.cell? ⟨w.heap.size, 3, none⟩ = some (.int .i64 a0_3) ∧ W1.cell? ⟨w.heap.size, 4, none⟩ = some (.int .i64 a0_4) ∧ W1.cell? ⟨w.heap.size, 5, none⟩ = some (.int .i64 a0_5) ∧ W1.cell? ⟨w.heap.size, 6, none⟩ = some (.string a0_6) from fun W W1 hi hb hb1 => by
      have hi1 := (hb1.block _ (blk_lt hi)).trans hi
      exact ⟨hi1, below_then hb hb.size hb1, (blk_cell hi1 0).trans rfl, (blk_cell hi1 1).trans rfl, (blk_cell hi1 2).trans rfl, (blk_cell hi1 3).trans rfl, (blk_cell hi1 4).trans rfl, (blk_cell hi1 5).trans rfl, (blk_cell hi1 6).trans rfl⟩)
            go_enter Try.func30, Try.ntmps30
            go_wp2_with (first | (go_at_call 34; with_reducible refine (wharfageref1_SegMay.calls _ _ _ _ _ _ _ _ _ _ A1.out).mono ?_; rintro e w1 ⟨rfl, hb1⟩) | (go_at_call 58; with_reducible refine (wharfageref1_within.calls _ _ _ _ A2.out).mono ?_; rintro e w1' ⟨rfl, ⟨nd, rfl⟩⟩) | (go_at_call 58; with_reducible refine (wharfageref1_within.calls _ _ _ _ A3.out).mono ?_; rintro e w1' ⟨rfl, ⟨nd, rfl⟩⟩))
            obtain ⟨I1, B1, q0, q1, q2, q3, q4, q5, q6⟩ := KS.out _ _ (heap_alloc_new w _) (below_alloc HB.out _) hb1
            clear hb1
            go_region_held3 (fun w' => w'.heap[w.heap.size]? = some (.cells #[.int .i64 a0_0, .int .i64 a0_1, .int .i64 a0_2, .int .i64 a0_3, .int .i64 a0_4, .int .i64 a0_5, .string a0_6] 44 (0, 0)) ∧ Below w.heap.size w w' ∧ w'.cell? ⟨w.heap.size, 0, none⟩ = some (.int .i64 a0_0) ∧ w'.cell? ⟨w.heap.size, 1, none⟩ = some (.int .i64 a0_1) ∧ w'.cell? ⟨w.heap.size, 2, none⟩ = some (.int .i64 a0_2) ∧ w'.cell? ⟨w.heap.size, 3, none⟩ = some (.int .i64 a0_3) ∧ w'.cell? ⟨w.heap.size, 4, none⟩ = some (.int .i64 a0_4) ∧ w'.cell? ⟨w.heap.size, 5, none⟩ = some (.int .i64 a0_5) ∧ w'.cell? ⟨w.heap.size, 6, none⟩ = some (.string a0_6)) (first | (go_split_ands; exact KS.out _ _ (by assumption) (by assumption) hb2) | (go_split_ands; exact KS.out _ _ (by assumption) (by assumption) (below_drew (Below.refl _ _))) | (go_split_ands; exact KS.out _ _ (by assumption) (by assumption) (pw_below_drewN (Below.refl _ _) _)) | (go_split_ands; exact KS.out _ _ (by assumption) (by assumption) (Below.refl _ _)) | exact KS.out _ _ I1 B1 (by repeat (first | exact Below.refl _ _ | refine below_drew ?_ | refine pw_below_drewN ?_ _))) ((go_at_call 52; with_reducible refine (wharfageref1_Num.calls k _ _ _ _ (by first | exact D1.out | exact D2.out)).mono ?_; rintro e w2 ⟨rfl, hb2⟩))
            go_split_ands
            go_wp2_with (first | (go_at_call 52; with_reducible refine (wharfageref1_Num.calls k _ _ _ _ D3.out).mono ?_; rintro e w3 ⟨rfl, hb3⟩; obtain ⟨I4, B4, p0, p1, p2, p3, p4, p5, p6⟩ := KS.out _ _ (by assumption) (by assumption) hb3) | (go_at_call 62; with_reducible refine (wharfageref1_pseudo.calls k _ _ _ _ _ _ D7.out).mono ?_; rintro e w4 ⟨rfl, hb4⟩; obtain ⟨I5, B5, r0, r1, r2, r3, r4, r5, r6⟩ := KS.out _ _ I4 B4 hb4))
            go_region_held3 (fun w' => w'.heap[w.heap.size]? = some (.cells #[.int .i64 a0_0, .int .i64 a0_1, .int .i64 a0_2, .int .i64 a0_3, .int .i64 a0_4, .int .i64 a0_5, .string a0_6] 44 (0, 0)) ∧ Below w.heap.size w w' ∧ w'.cell? ⟨w.heap.size, 0, none⟩ = some (.int .i64 a0_0) ∧ w'.cell? ⟨w.heap.size, 1, none⟩ = some (.int .i64 a0_1) ∧ w'.cell? ⟨w.heap.size, 2, none⟩ = some (.int .i64 a0_2) ∧ w'.cell? ⟨w.heap.size, 3, none⟩ = some (.int .i64 a0_3) ∧ w'.cell? ⟨w.heap.size, 4, none⟩ = some (.int .i64 a0_4) ∧ w'.cell? ⟨w.heap.size, 5, none⟩ = some (.int .i64 a0_5) ∧ w'.cell? ⟨w.heap.size, 6, none⟩ = some (.string a0_6)) (first | (go_split_ands; exact KS.out _ _ (by assumption) (by assumption) hb2) | (go_split_ands; exact KS.out _ _ (by assumption) (by assumption) (below_drew (Below.refl _ _))) | (go_split_ands; exact KS.out _ _ (by assumption) (by assumption) (pw_below_drewN (Below.refl _ _) _)) | (go_split_ands; exact KS.out _ _ (by assumption) (by assumption) (Below.refl _ _)) | exact KS.out _ _ I5 B5 (by repeat (first | exact Below.refl _ _ | refine below_drew ?_ | refine pw_below_drewN ?_ _))) ((go_at_call 52; with_reducible refine (wharfageref1_Num.calls k _ _ _ _ (by first | exact D8.out)).mono ?_; rintro e w2 ⟨rfl, hb2⟩))
            go_wp2
            go_ret2
            go_split_ands
            exact ⟨rfl, by assumption⟩
end Go.Proofs.Ytobhmonmeocfmaa.PA
