-- printed by a program of this session (myprint.py) out of the translation
import Derived.Test.YtobhmonmeocfmaaFAM0
import Derived.Test.YtobhmonmeocfmaaFASegMay
import Derived.Test.YtobhmonmeocfmaaFASegEndsMay
import Derived.Test.YtobhmonmeocfmaaFASegEndsSum
import Derived.Test.YtobhmonmeocfmaaFASegText
namespace Go.Proofs.Ytobhmonmeocfmaa.PA
open Go.RowKit Go.Proofs.YtobhmonmeocfmaaW.PrintWords Go.Proofs.YtobhmonmeocfmaaW.PrintLast Go.Proofs.YtobhmonmeocfmaaW.PrintMore
attribute [local go_sem] max2_int min2_int max_two min_two max_three min_three max_four min_four   -- for this text's walks alone
set_option linter.unusedVariables false
set_option linter.unusedSimpArgs false

/-! ### seg_Put: function 29 -/
def seg_Put.j0 : Nat → Bool → Int → Int → Int → Int → Int → Int → ByteArray → Int → Int → Option (ByteArray × Int)
  | 0, _, _, _, _, _, _, _, _, _, _ => none
  | k + 1, x20, x377000, x377001, x377002, x377003, x377004, x377005, x377006, x378000, x378001 => if x20 = true then (some ((⟨#[]⟩ : ByteArray), 300)) else ((seg_text.f k x377000 x377001 x377002 x377003 x377004 x377005 x377006 0).bind fun bt380 => ((seg_ends_sum.f k x378000 x378001 x377000 bt380.1).bind fun t388 => (if bt380.2.1 = 17 then (if (wrap64 (65535 - t388)) = 0 then ((seg_text.f k bt380.2.1 bt380.2.2.1 bt380.2.2.2.1 bt380.2.2.2.2.1 bt380.2.2.2.2.2.1 bt380.2.2.2.2.2.2.1 bt380.2.2.2.2.2.2.2 65535).bind fun bt389 => (some (bt389.1, 0))) else ((seg_text.f k bt380.2.1 bt380.2.2.1 bt380.2.2.2.1 bt380.2.2.2.2.1 bt380.2.2.2.2.2.1 bt380.2.2.2.2.2.2.1 bt380.2.2.2.2.2.2.2 (wrap64 (65535 - t388))).bind fun bt397 => (some (bt397.1, 0)))) else ((seg_text.f k bt380.2.1 bt380.2.2.1 bt380.2.2.2.1 bt380.2.2.2.2.1 bt380.2.2.2.2.2.1 bt380.2.2.2.2.2.2.1 bt380.2.2.2.2.2.2.2 (wrap64 (65535 - t388))).bind fun bt405 => (some (bt405.1, 0))))))
def seg_Put.f (k : Nat) (a0_0 : Int) (a0_1 : Int) (a0_2 : Int) (a0_3 : Int) (a0_4 : Int) (a0_5 : Int) (a0_6 : ByteArray) (a1 : Int) (a2 : Int) : Option (ByteArray × Int) := (seg_May.f k a0_0 a0_1 a0_2 a0_3 a0_4 a0_5 a0_6).bind fun t378 => (if t378 = true then ((seg_ends_may.f a1 a2).bind fun t379 => (seg_Put.j0 k (!t379) a0_0 a0_1 a0_2 a0_3 a0_4 a0_5 a0_6 a1 a2)) else (seg_Put.j0 k true a0_0 a0_1 a0_2 a0_3 a0_4 a0_5 a0_6 a1 a2))
theorem seg_Put.mono_l : ∀ k, (∀ y0 y1 y2 y3 y4 y5 y6 y7 y8 y9, LeO (seg_Put.j0 k y0 y1 y2 y3 y4 y5 y6 y7 y8 y9) (seg_Put.j0 (k + 1) y0 y1 y2 y3 y4 y5 y6 y7 y8 y9))
  | 0 => fun _ _ _ _ _ _ _ _ _ _ r h => by simp [seg_Put.j0] at h
  | k + 1 => by
    have ih0 := seg_Put.mono_l k
    · intro y0 y1 y2 y3 y4 y5 y6 y7 y8 y9
      unfold seg_Put.j0
      repeat' first
      | (with_reducible exact ih0 _ _ _ _ _ _ _ _ _ _)
      | (with_reducible exact seg_May.mono _ _ _ _ _ _ _ _)
      | (with_reducible exact seg_ends_sum.mono _ _ _ _ _)
      | (with_reducible exact seg_text.mono _ _ _ _ _ _ _ _ _)
      | (with_reducible exact LeO.refl _)
      | (with_reducible exact LeO.none _)
      | (with_reducible refine LeO.ite ?_ ?_)
      | (with_reducible refine LeO.bind ?_ (fun _ => ?_))
      | exact ih0 _ _ _ _ _ _ _ _ _ _
      | exact seg_May.mono _ _ _ _ _ _ _ _
      | exact seg_ends_sum.mono _ _ _ _ _
      | exact seg_text.mono _ _ _ _ _ _ _ _ _
      | exact LeO.none _
      | refine LeO.ite ?_ ?_
      | refine LeO.bind ?_ (fun _ => ?_)
theorem seg_Put.mono : ∀ a0 a1 a2 a3 a4 a5 a6 a7 a8 k, LeO (seg_Put.f k a0 a1 a2 a3 a4 a5 a6 a7 a8) (seg_Put.f (k + 1) a0 a1 a2 a3 a4 a5 a6 a7 a8) := by
  intro a0 a1 a2 a3 a4 a5 a6 a7 a8 k
  have ih0 := seg_Put.mono_l k
  unfold seg_Put.f
  repeat' first
      | (with_reducible exact ih0 _ _ _ _ _ _ _ _ _ _)
      | (with_reducible exact seg_May.mono _ _ _ _ _ _ _ _)
      | (with_reducible exact seg_ends_sum.mono _ _ _ _ _)
      | (with_reducible exact seg_text.mono _ _ _ _ _ _ _ _ _)
      | (with_reducible exact LeO.refl _)
      | (with_reducible exact LeO.none _)
      | (with_reducible refine LeO.ite ?_ ?_)
      | (with_reducible refine LeO.bind ?_ (fun _ => ?_))
      | exact ih0 _ _ _ _ _ _ _ _ _ _
      | exact seg_May.mono _ _ _ _ _ _ _ _
      | exact seg_ends_sum.mono _ _ _ _ _
      | exact seg_text.mono _ _ _ _ _ _ _ _ _
      | exact LeO.none _
      | refine LeO.ite ?_ ?_
      | refine LeO.bind ?_ (fun _ => ?_)
set_option maxHeartbeats 8000000 in
set_option maxRecDepth 100000 in
theorem seg_Put.calls (k : Nat) (a0_0 : Int) (a0_1 : Int) (a0_2 : Int) (a0_3 : Int) (a0_4 : Int) (a0_5 : Int) (a0_6 : ByteArray) (a1 : Int) (a2 : Int) (r1 : ByteArray) (r2 : Int) (w : World) (h : seg_Put.f k a0_0 a0_1 a0_2 a0_3 a0_4 a0_5 a0_6 a1 a2 = some (r1, r2)) :
    Calls Try.prog 29 #[.agg #[.int .i64 a0_0, .int .i64 a0_1, .int .i64 a0_2, .int .i64 a0_3, .int .i64 a0_4, .int .i64 a0_5, .string a0_6], .int .i64 a1, .int .i64 a2] w fun e w' => e = .returned (.tuple #[.string r1, .int .i64 r2]) ∧ Below w.heap.size w w' := by
  have HB := Aside0.mk (Below.refl w.heap.size w)
  have same : ∀ {k : Nat} {b0 b1 b2 b3 b4 b5 : Int} {b6 : ByteArray} {x : Int} {q1 : ByteArray} {q2 q3 q4 q5 q6 q7 : Int} {q8 : ByteArray}, seg_text.f k b0 b1 b2 b3 b4 b5 b6 x = some (q1, q2, q3, q4, q5, q6, q7, q8) → q2 = b0 ∧ q3 = b1 ∧ q4 = b2 ∧ q5 = b3 ∧ q6 = b4 ∧ q7 = b5 ∧ q8 = b6 := by
    intro k b0 b1 b2 b3 b4 b5 b6 x q1 q2 q3 q4 q5 q6 q7 q8 h
    unfold seg_text.f at h
    simp only [Option.bind_eq_some_iff, Option.ite_none_right_eq_some] at h
    obtain ⟨t1, A1, t2, A2, c2, h⟩ := h
    by_cases c0 : b0 = 6
    · rw [if_pos c0] at h
      simp only [Option.bind_eq_some_iff, Option.ite_none_right_eq_some] at h
      obtain ⟨t3, A3, c3, t4, A4, c4, t5, A5, c5, t6, A6, c6, t7, A7, c7, t8, A8, c8, t9, A9, c9, c10, h⟩ := h
      simp only [Option.some.injEq, Prod.mk.injEq] at h
      obtain ⟨rfl, rfl, rfl, rfl, rfl, rfl, rfl, rfl⟩ := h
      exact ⟨rfl, rfl, rfl, rfl, rfl, rfl, rfl⟩
    · rw [if_neg c0] at h
      simp only [Option.bind_eq_some_iff, Option.ite_none_right_eq_some] at h
      obtain ⟨t3, A3, c3, t4, A4, c4, c5, h⟩ := h
      simp only [Option.some.injEq, Prod.mk.injEq] at h
      obtain ⟨rfl, rfl, rfl, rfl, rfl, rfl, rfl, rfl⟩ := h
      exact ⟨rfl, rfl, rfl, rfl, rfl, rfl, rfl⟩
  unfold seg_Put.f at h
  simp only [Option.bind_eq_some_iff] at h
  obtain ⟨t1, A1, h⟩ := h
  replace A1 := Aside0.mk A1
  have hu44 := Try.underlying44
  have hu97 := Try.underlying97
  have hD : ∀ (W : World) (o : Obj), ((W.alloc o).alloc (.cells #[.int .i64 a1, .int .i64 a2] 97)).heap[W.heap.size + 1]? = some (.cells #[.int .i64 a1, .int .i64 a2] 97) := by
    intro W o
    show ((W.heap.push o).push _)[W.heap.size + 1]? = _
    rw [Array.getElem?_push, if_pos (by rw [Array.size_push])]
  cases t1
  · rw [if_neg (by decide)] at h
    obtain ⟨k, rfl⟩ : ∃ m, k = m + 1 := by
      cases k with
      | zero => simp [seg_Put.j0] at h
      | succ m => exact ⟨m, rfl⟩
    rw [seg_Put.j0, if_pos rfl] at h
    simp only [Option.some.injEq, Prod.mk.injEq] at h
    obtain ⟨rfl, rfl⟩ := h
    clear same
    go_enter Try.func29, Try.ntmps29
    go_wp2_with (go_at_call 33; refine (seg_May.calls _ _ _ _ _ _ _ _ _ _ A1.out).mono ?_; rintro e w1 ⟨rfl, hb⟩)
    go_ret2
    exact ⟨rfl, below_then (below_alloc (below_alloc HB.out _) _) (below_alloc (below_alloc HB.out _) _).size hb⟩
  · rw [if_pos rfl] at h
    simp only [Option.bind_eq_some_iff] at h
    obtain ⟨t2, A2, h⟩ := h
    replace A2 := Aside0.mk A2
    obtain ⟨k, rfl⟩ : ∃ m, k = m + 1 := by
      cases k with
      | zero => simp [seg_Put.j0] at h
      | succ m => exact ⟨m, rfl⟩
    cases t2
    · rw [seg_Put.j0, Bool.not_false, if_pos rfl] at h
      simp only [Option.some.injEq, Prod.mk.injEq] at h
      obtain ⟨rfl, rfl⟩ := h
      clear same
      go_enter Try.func29, Try.ntmps29
      go_wp2_with (first | (go_at_call 33; refine (seg_May.calls _ _ _ _ _ _ _ _ _ _ A1.out).mono ?_; rintro e w1 ⟨rfl, hb1⟩; have k1 := Aside0.mk (blk_below (hD w (.cells #[.int .i64 a0_0, .int .i64 a0_1, .int .i64 a0_2, .int .i64 a0_3, .int .i64 a0_4, .int .i64 a0_5, .string a0_6] 44)) hb1); have e0 : w1.cell? ⟨w.heap.size + 1, 0, none⟩ = some (.int .i64 a1) := (blk_cell k1.out 0).trans rfl; have e1 : w1.cell? ⟨w.heap.size + 1, 1, none⟩ = some (.int .i64 a2) := (blk_cell k1.out 1).trans rfl; have I1 := Aside0.mk (((IsS44.new w w a0_0 a0_1 a0_2 a0_3 a0_4 a0_5 a0_6 HB.out).alloc (.cells #[.int .i64 a1, .int .i64 a2] 97)).below hb1); have B1 := Aside0.mk (below_then (below_alloc (below_alloc HB.out _) _) (below_alloc (below_alloc HB.out _) _).size hb1); clear hb1) | (go_at_call 59; refine (seg_ends_may.calls _ _ _ _ A2.out).mono ?_; rintro e w2 ⟨rfl, hb2⟩; have I2 := Aside0.mk (I1.out.below hb2); have B2 := Aside0.mk (below_then B1.out B1.out.size hb2); have k2 := Aside0.mk (blk_below k1.out hb2); clear hb2))
      go_ret2
      exact ⟨rfl, B2.out⟩
    · rw [seg_Put.j0, Bool.not_true, if_neg (by decide)] at h
      simp only [Option.bind_eq_some_iff, Prod.exists] at h
      obtain ⟨h1, b0, b1, b2, b3, b4, b5, b6, A3, t4, A4, h⟩ := h
      obtain ⟨rfl, rfl, rfl, rfl, rfl, rfl, rfl⟩ := same A3
      obtain ⟨z, hz⟩ : ∃ z, wrap64 (65535 - t4) = z := ⟨_, rfl⟩
      have hw := (i64_w (65535 - t4)).trans hz
      rw [hz] at h
      by_cases c0 : b0 = 17
      · subst c0
        by_cases c1 : z = 0
        · subst c1
          rw [if_pos rfl, if_pos rfl] at h
          simp only [Option.bind_eq_some_iff, Prod.exists, Option.some.injEq, Prod.mk.injEq] at h
          obtain ⟨g1, d0, d1, d2, d3, d4, d5, d6, A5, rfl, rfl⟩ := h
          obtain ⟨rfl, rfl, rfl, rfl, rfl, rfl, rfl⟩ := same A5
          replace A3 := Aside0.mk A3
          replace A4 := Aside0.mk A4
          replace A5 := Aside0.mk A5
          clear same
          go_enter Try.func29, Try.ntmps29
          go_wp2_with (first | (go_at_call 33; refine (seg_May.calls _ _ _ _ _ _ _ _ _ _ A1.out).mono ?_; rintro e w1 ⟨rfl, hb1⟩; have k1 := Aside0.mk (blk_below (hD w (.cells #[.int .i64 17, .int .i64 d1, .int .i64 d2, .int .i64 d3, .int .i64 d4, .int .i64 d5, .string d6] 44)) hb1); have e0 : w1.cell? ⟨w.heap.size + 1, 0, none⟩ = some (.int .i64 a1) := (blk_cell k1.out 0).trans rfl; have e1 : w1.cell? ⟨w.heap.size + 1, 1, none⟩ = some (.int .i64 a2) := (blk_cell k1.out 1).trans rfl; have I1 := Aside0.mk (((IsS44.new w w 17 d1 d2 d3 d4 d5 d6 HB.out).alloc (.cells #[.int .i64 a1, .int .i64 a2] 97)).below hb1); have B1 := Aside0.mk (below_then (below_alloc (below_alloc HB.out _) _) (below_alloc (below_alloc HB.out _) _).size hb1); clear hb1) | (go_at_call 59; refine (seg_ends_may.calls _ _ _ _ A2.out).mono ?_; rintro e w2 ⟨rfl, hb2⟩; have I2 := Aside0.mk (I1.out.below hb2); have B2 := Aside0.mk (below_then B1.out B1.out.size hb2); have k2 := Aside0.mk (blk_below k1.out hb2); clear hb2))
          clear e0 e1
          go_region_held3 (fun w' => IsS44 w w' w.heap.size 17 d1 d2 d3 d4 d5 d6 ∧ Below w.heap.size w w' ∧ w'.heap[w.heap.size + 1]? = some (.cells #[.int .i64 a1, .int .i64 a2] 97) ∧ w'.cell? ⟨w.heap.size, 0, none⟩ = some (.int .i64 17) ∧ w'.cell? ⟨w.heap.size + 1, 0, none⟩ = some (.int .i64 a1) ∧ w'.cell? ⟨w.heap.size + 1, 1, none⟩ = some (.int .i64 a2)) (first | exact ⟨I2.out, B2.out, k2.out, cellS44_0 I2.out.1, (blk_cell k2.out 0).trans rfl, (blk_cell k2.out 1).trans rfl⟩ | exact ⟨I2.out.drew, (below_drew B2.out), (blk_drew k2.out), cellS44_0 I2.out.drew.1, (blk_cell (blk_drew k2.out) 0).trans rfl, (blk_cell (blk_drew k2.out) 1).trans rfl⟩ | exact ⟨hi4, hbb4, hq4, cellS44_0 hi4.1, (blk_cell hq4 0).trans rfl, (blk_cell hq4 1).trans rfl⟩ | exact ⟨hi3, hb3, hq3, cellS44_0 hi3.1, (blk_cell hq3 0).trans rfl, (blk_cell hq3 1).trans rfl⟩ | go_keep) (first | (go_at_call 61; go_split_ands; refine (seg_text.calls k w.heap.size _ _ _ _ _ _ _ _ _ _ _ _ _ _ _ _ w _ (by first | assumption | exact I2.out.drew) (by first | assumption | exact below_drew B2.out) A3.out).mono ?_; rintro e w3 ⟨rfl, hi3, hb3, hk3⟩; have hq3 := hk3.blk (by first | assumption | exact blk_drew k2.out : _ = some (.cells #[.int .i64 a1, .int .i64 a2] 97)) (by omega) (by simp)) | (go_at_call 60; go_split_ands; refine (seg_ends_sum.calls k _ _ _ _ _ _ A4.out).mono ?_; rintro e w4 ⟨rfl, hb4⟩; have hi4 : IsS44 w w4 w.heap.size 17 d1 d2 d3 d4 d5 d6 := IsS44.below (by assumption) hb4; have hbb4 : Below w.heap.size w w4 := (fun h => below_then h h.size hb4) (by assumption); have hq4 : w4.heap[w.heap.size + 1]? = some (.cells #[.int .i64 a1, .int .i64 a2] 97) := blk_below (by assumption) hb4))
          go_split_ands
          go_wp2_with (first | (go_at_call 61; go_split_ands; refine (seg_text.calls k w.heap.size _ _ _ _ _ _ _ _ _ _ _ _ _ _ _ _ w _ (by first | assumption | exact I2.out.drew) (by first | assumption | exact below_drew B2.out) A5.out).mono ?_; rintro e w3 ⟨rfl, hi3, hb3, hk3⟩; have hq3 := hk3.blk (by first | assumption | exact blk_drew k2.out : _ = some (.cells #[.int .i64 a1, .int .i64 a2] 97)) (by omega) (by simp)))
          go_ret2
          exact ⟨rfl, by first | exact hb3 | assumption⟩
        · rw [if_pos rfl, if_neg c1] at h
          simp only [Option.bind_eq_some_iff, Prod.exists, Option.some.injEq, Prod.mk.injEq] at h
          obtain ⟨g1, d0, d1, d2, d3, d4, d5, d6, A5, rfl, rfl⟩ := h
          obtain ⟨rfl, rfl, rfl, rfl, rfl, rfl, rfl⟩ := same A5
          replace A3 := Aside0.mk A3
          replace A4 := Aside0.mk A4
          replace A5 := Aside0.mk A5
          clear same
          go_enter Try.func29, Try.ntmps29
          go_wp2_with (first | (go_at_call 33; refine (seg_May.calls _ _ _ _ _ _ _ _ _ _ A1.out).mono ?_; rintro e w1 ⟨rfl, hb1⟩; have k1 := Aside0.mk (blk_below (hD w (.cells #[.int .i64 17, .int .i64 d1, .int .i64 d2, .int .i64 d3, .int .i64 d4, .int .i64 d5, .string d6] 44)) hb1); have e0 : w1.cell? ⟨w.heap.size + 1, 0, none⟩ = some (.int .i64 a1) := (blk_cell k1.out 0).trans rfl; have e1 : w1.cell? ⟨w.heap.size + 1, 1, none⟩ = some (.int .i64 a2) := (blk_cell k1.out 1).trans rfl; have I1 := Aside0.mk (((IsS44.new w w 17 d1 d2 d3 d4 d5 d6 HB.out).alloc (.cells #[.int .i64 a1, .int .i64 a2] 97)).below hb1); have B1 := Aside0.mk (below_then (below_alloc (below_alloc HB.out _) _) (below_alloc (below_alloc HB.out _) _).size hb1); clear hb1) | (go_at_call 59; refine (seg_ends_may.calls _ _ _ _ A2.out).mono ?_; rintro e w2 ⟨rfl, hb2⟩; have I2 := Aside0.mk (I1.out.below hb2); have B2 := Aside0.mk (below_then B1.out B1.out.size hb2); have k2 := Aside0.mk (blk_below k1.out hb2); clear hb2))
          clear e0 e1
          go_region_held3 (fun w' => IsS44 w w' w.heap.size 17 d1 d2 d3 d4 d5 d6 ∧ Below w.heap.size w w' ∧ w'.heap[w.heap.size + 1]? = some (.cells #[.int .i64 a1, .int .i64 a2] 97) ∧ w'.cell? ⟨w.heap.size, 0, none⟩ = some (.int .i64 17) ∧ w'.cell? ⟨w.heap.size + 1, 0, none⟩ = some (.int .i64 a1) ∧ w'.cell? ⟨w.heap.size + 1, 1, none⟩ = some (.int .i64 a2)) (first | exact ⟨I2.out, B2.out, k2.out, cellS44_0 I2.out.1, (blk_cell k2.out 0).trans rfl, (blk_cell k2.out 1).trans rfl⟩ | exact ⟨I2.out.drew, (below_drew B2.out), (blk_drew k2.out), cellS44_0 I2.out.drew.1, (blk_cell (blk_drew k2.out) 0).trans rfl, (blk_cell (blk_drew k2.out) 1).trans rfl⟩ | exact ⟨hi4, hbb4, hq4, cellS44_0 hi4.1, (blk_cell hq4 0).trans rfl, (blk_cell hq4 1).trans rfl⟩ | exact ⟨hi3, hb3, hq3, cellS44_0 hi3.1, (blk_cell hq3 0).trans rfl, (blk_cell hq3 1).trans rfl⟩ | go_keep) (first | (go_at_call 61; go_split_ands; refine (seg_text.calls k w.heap.size _ _ _ _ _ _ _ _ _ _ _ _ _ _ _ _ w _ (by first | assumption | exact I2.out.drew) (by first | assumption | exact below_drew B2.out) A3.out).mono ?_; rintro e w3 ⟨rfl, hi3, hb3, hk3⟩; have hq3 := hk3.blk (by first | assumption | exact blk_drew k2.out : _ = some (.cells #[.int .i64 a1, .int .i64 a2] 97)) (by omega) (by simp)) | (go_at_call 60; go_split_ands; refine (seg_ends_sum.calls k _ _ _ _ _ _ A4.out).mono ?_; rintro e w4 ⟨rfl, hb4⟩; have hi4 : IsS44 w w4 w.heap.size 17 d1 d2 d3 d4 d5 d6 := IsS44.below (by assumption) hb4; have hbb4 : Below w.heap.size w w4 := (fun h => below_then h h.size hb4) (by assumption); have hq4 : w4.heap[w.heap.size + 1]? = some (.cells #[.int .i64 a1, .int .i64 a2] 97) := blk_below (by assumption) hb4))
          go_split_ands
          go_wp2_with (first | (go_at_call 61; go_split_ands; refine (seg_text.calls k w.heap.size _ _ _ _ _ _ _ _ _ _ _ _ _ _ _ _ w _ (by first | assumption | exact I2.out.drew) (by first | assumption | exact below_drew B2.out) A5.out).mono ?_; rintro e w3 ⟨rfl, hi3, hb3, hk3⟩; have hq3 := hk3.blk (by first | assumption | exact blk_drew k2.out : _ = some (.cells #[.int .i64 a1, .int .i64 a2] 97)) (by omega) (by simp)))
          go_ret2
          exact ⟨rfl, by first | exact hb3 | assumption⟩
      · rw [if_neg c0] at h
        simp only [Option.bind_eq_some_iff, Prod.exists, Option.some.injEq, Prod.mk.injEq] at h
        obtain ⟨g1, d0, d1, d2, d3, d4, d5, d6, A5, rfl, rfl⟩ := h
        obtain ⟨rfl, rfl, rfl, rfl, rfl, rfl, rfl⟩ := same A5
        replace A3 := Aside0.mk A3
        replace A4 := Aside0.mk A4
        replace A5 := Aside0.mk A5
        clear same
        go_enter Try.func29, Try.ntmps29
        go_wp2_with (first | (go_at_call 33; refine (seg_May.calls _ _ _ _ _ _ _ _ _ _ A1.out).mono ?_; rintro e w1 ⟨rfl, hb1⟩; have k1 := Aside0.mk (blk_below (hD w (.cells #[.int .i64 d0, .int .i64 d1, .int .i64 d2, .int .i64 d3, .int .i64 d4, .int .i64 d5, .string d6] 44)) hb1); have e0 : w1.cell? ⟨w.heap.size + 1, 0, none⟩ = some (.int .i64 a1) := (blk_cell k1.out 0).trans rfl; have e1 : w1.cell? ⟨w.heap.size + 1, 1, none⟩ = some (.int .i64 a2) := (blk_cell k1.out 1).trans rfl; have I1 := Aside0.mk (((IsS44.new w w d0 d1 d2 d3 d4 d5 d6 HB.out).alloc (.cells #[.int .i64 a1, .int .i64 a2] 97)).below hb1); have B1 := Aside0.mk (below_then (below_alloc (below_alloc HB.out _) _) (below_alloc (below_alloc HB.out _) _).size hb1); clear hb1) | (go_at_call 59; refine (seg_ends_may.calls _ _ _ _ A2.out).mono ?_; rintro e w2 ⟨rfl, hb2⟩; have I2 := Aside0.mk (I1.out.below hb2); have B2 := Aside0.mk (below_then B1.out B1.out.size hb2); have k2 := Aside0.mk (blk_below k1.out hb2); clear hb2))
        clear e0 e1
        go_region_held3 (fun w' => IsS44 w w' w.heap.size d0 d1 d2 d3 d4 d5 d6 ∧ Below w.heap.size w w' ∧ w'.heap[w.heap.size + 1]? = some (.cells #[.int .i64 a1, .int .i64 a2] 97) ∧ w'.cell? ⟨w.heap.size, 0, none⟩ = some (.int .i64 d0) ∧ w'.cell? ⟨w.heap.size + 1, 0, none⟩ = some (.int .i64 a1) ∧ w'.cell? ⟨w.heap.size + 1, 1, none⟩ = some (.int .i64 a2)) (first | exact ⟨I2.out, B2.out, k2.out, cellS44_0 I2.out.1, (blk_cell k2.out 0).trans rfl, (blk_cell k2.out 1).trans rfl⟩ | exact ⟨I2.out.drew, (below_drew B2.out), (blk_drew k2.out), cellS44_0 I2.out.drew.1, (blk_cell (blk_drew k2.out) 0).trans rfl, (blk_cell (blk_drew k2.out) 1).trans rfl⟩ | exact ⟨hi4, hbb4, hq4, cellS44_0 hi4.1, (blk_cell hq4 0).trans rfl, (blk_cell hq4 1).trans rfl⟩ | exact ⟨hi3, hb3, hq3, cellS44_0 hi3.1, (blk_cell hq3 0).trans rfl, (blk_cell hq3 1).trans rfl⟩ | go_keep) (first | (go_at_call 61; go_split_ands; refine (seg_text.calls k w.heap.size _ _ _ _ _ _ _ _ _ _ _ _ _ _ _ _ w _ (by first | assumption | exact I2.out.drew) (by first | assumption | exact below_drew B2.out) A3.out).mono ?_; rintro e w3 ⟨rfl, hi3, hb3, hk3⟩; have hq3 := hk3.blk (by first | assumption | exact blk_drew k2.out : _ = some (.cells #[.int .i64 a1, .int .i64 a2] 97)) (by omega) (by simp)) | (go_at_call 60; go_split_ands; refine (seg_ends_sum.calls k _ _ _ _ _ _ A4.out).mono ?_; rintro e w4 ⟨rfl, hb4⟩; have hi4 : IsS44 w w4 w.heap.size d0 d1 d2 d3 d4 d5 d6 := IsS44.below (by assumption) hb4; have hbb4 : Below w.heap.size w w4 := (fun h => below_then h h.size hb4) (by assumption); have hq4 : w4.heap[w.heap.size + 1]? = some (.cells #[.int .i64 a1, .int .i64 a2] 97) := blk_below (by assumption) hb4))
        go_split_ands
        go_wp2_with (first | (go_at_call 61; go_split_ands; refine (seg_text.calls k w.heap.size _ _ _ _ _ _ _ _ _ _ _ _ _ _ _ _ w _ (by first | assumption | exact I2.out.drew) (by first | assumption | exact below_drew B2.out) A5.out).mono ?_; rintro e w3 ⟨rfl, hi3, hb3, hk3⟩; have hq3 := hk3.blk (by first | assumption | exact blk_drew k2.out : _ = some (.cells #[.int .i64 a1, .int .i64 a2] 97)) (by omega) (by simp)))
        go_ret2
        exact ⟨rfl, by first | exact hb3 | assumption⟩

end Go.Proofs.Ytobhmonmeocfmaa.PA
