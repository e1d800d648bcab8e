-- printed by a program of this session (myprint.py) out of the translation
import Derived.Test.YtnhbieicjlnakaaFA0
import Derived.Test.YtnhbieicjlnakaaFAWharfageref1IpMay
import Derived.Test.YtnhbieicjlnakaaFAWharfageref1Num
import Derived.Test.YtnhbieicjlnakaaFAWharfageref1Sum
namespace Go.Proofs.Ytnhbieicjlnakaa.PA
open Go.RowKit Go.Proofs.YtnhbieicjlnakaaW.PrintWords Go.Proofs.YtnhbieicjlnakaaW.PrintLast Go.Proofs.YtnhbieicjlnakaaW.PrintMore
attribute [local go_sem] max2_int min2_int max_two min_two max_three min_three max_four min_four   -- for this text's walks alone
set_option linter.unusedVariables false
set_option linter.unusedSimpArgs false

/-! ### wharfageref1_PutIp: function 18 -/
def wharfageref1_PutIp.f (k : Nat) (a0_0 : Int) (a0_1 : Int) (a0_2 : Int) (a0_3 : Int) (a0_4 : Int) (a0_5 : ByteArray) : Option (ByteArray × Int) := (wharfageref1_IpMay.f a0_0 a0_1 a0_2 a0_3 a0_4 a0_5).bind fun t152 => (if t152 = true then ((wharfageref1_Num.f k (wrap64 (20 + (a0_5.size : Int))) 2).bind fun t153 => (if 2 + t153.size ≤ 9223372036854775807 then ((wharfageref1_Num.f k a0_4 2).bind fun t154 => (if ((⟨#[69, 0]⟩ : ByteArray) ++ t153).size + t154.size ≤ 9223372036854775807 then (if (((⟨#[69, 0]⟩ : ByteArray) ++ t153) ++ t154).size + 2 ≤ 9223372036854775807 then ((wharfageref1_Num.f k a0_3 1).bind fun t155 => (if ((((⟨#[69, 0]⟩ : ByteArray) ++ t153) ++ t154) ++ (⟨#[64, 0]⟩ : ByteArray)).size + t155.size ≤ 9223372036854775807 then ((wharfageref1_Num.f k a0_2 1).bind fun t156 => (if (((((⟨#[69, 0]⟩ : ByteArray) ++ t153) ++ t154) ++ (⟨#[64, 0]⟩ : ByteArray)) ++ t155).size + t156.size ≤ 9223372036854775807 then ((wharfageref1_Num.f k a0_0 4).bind fun t157 => ((wharfageref1_Num.f k a0_1 4).bind fun t158 => (if t157.size + t158.size ≤ 9223372036854775807 then (if ((((((⟨#[69, 0]⟩ : ByteArray) ++ t153) ++ t154) ++ (⟨#[64, 0]⟩ : ByteArray)) ++ t155) ++ t156).size + 2 ≤ 9223372036854775807 then (if (((((((⟨#[69, 0]⟩ : ByteArray) ++ t153) ++ t154) ++ (⟨#[64, 0]⟩ : ByteArray)) ++ t155) ++ t156) ++ (⟨#[0, 0]⟩ : ByteArray)).size + (t157 ++ t158).size ≤ 9223372036854775807 then ((wharfageref1_Sum.f k ((((((((⟨#[69, 0]⟩ : ByteArray) ++ t153) ++ t154) ++ (⟨#[64, 0]⟩ : ByteArray)) ++ t155) ++ t156) ++ (⟨#[0, 0]⟩ : ByteArray)) ++ (t157 ++ t158))).bind fun t159 => ((wharfageref1_Num.f k (wrap64 (65535 - t159)) 2).bind fun t160 => (if ((((((⟨#[69, 0]⟩ : ByteArray) ++ t153) ++ t154) ++ (⟨#[64, 0]⟩ : ByteArray)) ++ t155) ++ t156).size + t160.size ≤ 9223372036854775807 then (if (((((((⟨#[69, 0]⟩ : ByteArray) ++ t153) ++ t154) ++ (⟨#[64, 0]⟩ : ByteArray)) ++ t155) ++ t156) ++ t160).size + (t157 ++ t158).size ≤ 9223372036854775807 then (if ((((((((⟨#[69, 0]⟩ : ByteArray) ++ t153) ++ t154) ++ (⟨#[64, 0]⟩ : ByteArray)) ++ t155) ++ t156) ++ t160) ++ (t157 ++ t158)).size + a0_5.size ≤ 9223372036854775807 then (some (((((((((⟨#[69, 0]⟩ : ByteArray) ++ t153) ++ t154) ++ (⟨#[64, 0]⟩ : ByteArray)) ++ t155) ++ t156) ++ t160) ++ (t157 ++ t158)) ++ a0_5, 0)) else (none)) else (none)) else (none)))) else (none)) else (none)) else (none)))) else (none))) else (none))) else (none)) else (none))) else (none))) else (some ((⟨#[]⟩ : ByteArray), 200)))
theorem wharfageref1_PutIp.mono : ∀ a0 a1 a2 a3 a4 a5 k, LeO (wharfageref1_PutIp.f k a0 a1 a2 a3 a4 a5) (wharfageref1_PutIp.f (k + 1) a0 a1 a2 a3 a4 a5) := by
  intro a0 a1 a2 a3 a4 a5 k
  unfold wharfageref1_PutIp.f
  repeat' first
      | (with_reducible exact wharfageref1_Num.mono _ _ _)
      | (with_reducible exact wharfageref1_Sum.mono _ _)
      | (with_reducible exact LeO.refl _)
      | (with_reducible exact LeO.none _)
      | (with_reducible refine LeO.ite ?_ ?_)
      | (with_reducible refine LeO.bind ?_ (fun _ => ?_))
      | exact wharfageref1_Num.mono _ _ _
      | exact wharfageref1_Sum.mono _ _
      | exact LeO.none _
      | refine LeO.ite ?_ ?_
      | refine LeO.bind ?_ (fun _ => ?_)
set_option maxHeartbeats 8000000 in
set_option maxRecDepth 100000 in
theorem wharfageref1_PutIp.calls (k : Nat) (a0_0 : Int) (a0_1 : Int) (a0_2 : Int) (a0_3 : Int) (a0_4 : Int) (a0_5 : ByteArray) (r1 : ByteArray) (r2 : Int) (w : World) (h : wharfageref1_PutIp.f k a0_0 a0_1 a0_2 a0_3 a0_4 a0_5 = some (r1, r2)) :
    Calls Try.prog 18 #[.agg #[.int .i64 a0_0, .int .i64 a0_1, .int .i64 a0_2, .int .i64 a0_3, .int .i64 a0_4, .string a0_5]] w fun e w' => e = .returned (.tuple #[.string r1, .int .i64 r2]) ∧ Below w.heap.size w w' := by
  have HB := Aside0.mk (Below.refl w.heap.size w)
  unfold wharfageref1_PutIp.f at h
  simp only [Option.bind_eq_some_iff] at h
  obtain ⟨t1, A1, h⟩ := h
  replace A1 := Aside0.mk A1
  have hut := Try.underlying23
  cases t1
  · rw [if_neg (by decide)] at h
    simp only [Option.some.injEq, Prod.mk.injEq] at h
    obtain ⟨rfl, rfl⟩ := h
    go_enter Try.func18, Try.ntmps18
    go_wp2_with (go_at_call 21; refine (wharfageref1_IpMay.calls _ _ _ _ _ _ _ _ A1.out).mono ?_; rintro e w1 ⟨rfl, hb⟩)
    go_ret2
    exact ⟨rfl, below_then (below_alloc HB.out _) (below_alloc HB.out _).size hb⟩
  · rw [if_pos rfl] at h
    simp only [Option.bind_eq_some_iff, Option.ite_none_right_eq_some] at h
    obtain ⟨t3, A3, c1, t4, A4, c2, c3, t5, A5, c4, t6, A6, c5, t7, A7, t8, A8, c6, c7, c8, t9, A9, t10, A10, c9, c10, c11, h⟩ := h
    simp only [Option.some.injEq, Prod.mk.injEq] at h
    obtain ⟨rfl, rfl⟩ := h
    simp only [ByteArray.size_append', ByteArray.size_mk', List.size_toArray, List.length_cons, List.length_nil, Nat.reduceAdd, ← Nat.not_lt] at c1 c2 c3 c4 c5 c6 c7 c8 c9 c10 c11
    obtain ⟨z, hz⟩ : ∃ z, wrap64 (20 + (a0_5.size : Int)) = z := ⟨_, rfl⟩
    rw [hz] at A3
    have hw := (i64_w (20 + (a0_5.size : Int))).trans hz
    obtain ⟨y, hy⟩ : ∃ z, wrap64 (65535 - t9) = z := ⟨_, rfl⟩
    rw [hy] at A10
    have hv := (i64_w (65535 - t9)).trans hy
    clear hz hy
    replace A3 := Aside0.mk A3
    replace A4 := Aside0.mk A4
    replace A5 := Aside0.mk A5
    replace A6 := Aside0.mk A6
    replace A7 := Aside0.mk A7
    replace A8 := Aside0.mk A8
    replace A9 := Aside0.mk A9
    replace A10 := Aside0.mk A10
    have KS := Aside0.mk (show ∀ W W1 : World, W.heap[w.heap.size]? = some (.cells #[.int .i64 a0_0, .int .i64 a0_1, .int .i64 a0_2, .int .i64 a0_3, .int .i64 a0_4, .string a0_5] 23 (0, 0)) → Below w.heap.size w W → Below W.heap.size W W1 → W1.heap[w.heap.size]? = some (.cells #[.int .i64 a0_0, .int .i64 a0_1, .int .i64 a0_2, .int .i64 a0_3, .int .i64 a0_4, .string a0_5] 23 (0, 0)) ∧ Below w.heap.size w W1 ∧ W1.cell? ⟨w.heap.size, 0, none⟩ = some (.int .i64 a0_0) ∧ W1.cell? ⟨w.heap.size, 1, none⟩ = some (.int .i64 a0_1) ∧ W1.cell? ⟨w.heap.size, 2, none⟩ = some (.int .i64 a0_2) ∧ W1.cell? ⟨w.heap.size, 3, none⟩ = some (.int .i64 a0_3) ∧ W1.cell? ⟨w.heap.size, 4, none⟩ = some (.int .i64 a0_4) ∧ W1.cell? ⟨w.heap.size, 5, none⟩ = some (.string a0_5) from fun W W1 hi hb hb1 => by
      have hi1 := (hb1.block _ (blk_lt hi)).trans hi
      exact ⟨hi1, below_then hb hb.size hb1, (blk_cell hi1 0).trans rfl, (blk_cell hi1 1).trans rfl, (blk_cell hi1 2).trans rfl, (blk_cell hi1 3).trans rfl, (blk_cell hi1 4).trans rfl, (blk_cell hi1 5).trans rfl⟩)
    go_enter Try.func18, Try.ntmps18
    go_wp2_with (go_at_call 21; refine (wharfageref1_IpMay.calls _ _ _ _ _ _ _ _ A1.out).mono ?_; rintro e w1 ⟨rfl, hb⟩)
    obtain ⟨I1, B1, q0, q1, q2, q3, q4, q5⟩ := KS.out _ _ (heap_alloc_new w _) (below_alloc HB.out _) hb
    clear hb
    go_region_held3 (fun w' => w'.heap[w.heap.size]? = some (.cells #[.int .i64 a0_0, .int .i64 a0_1, .int .i64 a0_2, .int .i64 a0_3, .int .i64 a0_4, .string a0_5] 23 (0, 0)) ∧ Below w.heap.size w w' ∧ w'.cell? ⟨w.heap.size, 0, none⟩ = some (.int .i64 a0_0) ∧ w'.cell? ⟨w.heap.size, 1, none⟩ = some (.int .i64 a0_1) ∧ w'.cell? ⟨w.heap.size, 2, none⟩ = some (.int .i64 a0_2) ∧ w'.cell? ⟨w.heap.size, 3, none⟩ = some (.int .i64 a0_3) ∧ w'.cell? ⟨w.heap.size, 4, none⟩ = some (.int .i64 a0_4) ∧ w'.cell? ⟨w.heap.size, 5, none⟩ = some (.string a0_5))
      (first | exact KS.out _ _ I1 B1 (below_drew (Below.refl _ _)) | (go_split_ands; exact KS.out _ _ (by assumption) (by assumption) hb2))
      ((go_at_call 40; refine (wharfageref1_Num.calls k _ _ _ _ (by first | exact A3.out | exact A4.out | exact A5.out | exact A6.out)).mono ?_; rintro e w2 ⟨rfl, hb2⟩))
    go_wp2
    go_region_held3 (fun w' => w'.heap[w.heap.size]? = some (.cells #[.int .i64 a0_0, .int .i64 a0_1, .int .i64 a0_2, .int .i64 a0_3, .int .i64 a0_4, .string a0_5] 23 (0, 0)) ∧ Below w.heap.size w w' ∧ w'.cell? ⟨w.heap.size, 0, none⟩ = some (.int .i64 a0_0) ∧ w'.cell? ⟨w.heap.size, 1, none⟩ = some (.int .i64 a0_1) ∧ w'.cell? ⟨w.heap.size, 2, none⟩ = some (.int .i64 a0_2) ∧ w'.cell? ⟨w.heap.size, 3, none⟩ = some (.int .i64 a0_3) ∧ w'.cell? ⟨w.heap.size, 4, none⟩ = some (.int .i64 a0_4) ∧ w'.cell? ⟨w.heap.size, 5, none⟩ = some (.string a0_5))
      (first | (go_split_ands; exact KS.out _ _ (by assumption) (by assumption) hb2) | (go_split_ands; exact KS.out _ _ (by assumption) (by assumption) (below_drew (Below.refl _ _))))
      ((go_at_call 40; refine (wharfageref1_Num.calls k _ _ _ _ (by first | exact A7.out | exact A8.out)).mono ?_; rintro e w2 ⟨rfl, hb2⟩))
    go_wp2
    go_region_held3 (fun w' => w'.heap[w.heap.size]? = some (.cells #[.int .i64 a0_0, .int .i64 a0_1, .int .i64 a0_2, .int .i64 a0_3, .int .i64 a0_4, .string a0_5] 23 (0, 0)) ∧ Below w.heap.size w w' ∧ w'.cell? ⟨w.heap.size, 0, none⟩ = some (.int .i64 a0_0) ∧ w'.cell? ⟨w.heap.size, 1, none⟩ = some (.int .i64 a0_1) ∧ w'.cell? ⟨w.heap.size, 2, none⟩ = some (.int .i64 a0_2) ∧ w'.cell? ⟨w.heap.size, 3, none⟩ = some (.int .i64 a0_3) ∧ w'.cell? ⟨w.heap.size, 4, none⟩ = some (.int .i64 a0_4) ∧ w'.cell? ⟨w.heap.size, 5, none⟩ = some (.string a0_5))
      (first | (go_split_ands; exact KS.out _ _ (by assumption) (by assumption) hb2) | (go_split_ands; exact KS.out _ _ (by assumption) (by assumption) (below_drew (Below.refl _ _))) | (go_split_ands; exact KS.out _ _ (by assumption) (by assumption) (pw_below_drewN (Below.refl _ _) _)))
      ((first
        | (go_at_call 40; refine (wharfageref1_Num.calls k _ _ _ _ A10.out).mono ?_; rintro e w2 ⟨rfl, hb2⟩)
        | (go_at_call 41; refine (wharfageref1_Sum.calls k _ _ _ A9.out).mono ?_; rintro e w2 ⟨rfl, ⟨nd, rfl⟩⟩)))
    go_wp2
    go_ret2
    go_split_ands
    exact ⟨rfl, by assumption⟩

end Go.Proofs.Ytnhbieicjlnakaa.PA
