-- printed by a program of this session (myprint.py) out of the translation
import Derived.Test.YtobhmonmeocfmaaFAM0
import Derived.Test.YtobhmonmeocfmaaFAWharfageref1OuterMay
namespace Go.Proofs.Ytobhmonmeocfmaa.PA
open Go.RowKit Go.Proofs.YtobhmonmeocfmaaW.PrintWords Go.Proofs.YtobhmonmeocfmaaW.PrintLast Go.Proofs.YtobhmonmeocfmaaW.PrintMore
attribute [local go_sem] max2_int min2_int max_two min_two max_three min_three max_four min_four   -- for this text's walks alone
set_option linter.unusedVariables false
set_option linter.unusedSimpArgs false

/-! ### wharfageref1_Push: function 22 -/
def wharfageref1_Push.f (k : Nat) (a0_0 : Int) (a0_1 : Int) (a0_2 : Int) (a0_3 : Int) (a0_4 : Int) (a0_5 : ByteArray) : Option (ByteArray × Int) := (wharfageref1_OuterMay.f k a0_0 a0_1 a0_2 a0_3 a0_4 a0_5).bind fun t199 => (if t199 = true then (if (wrap64 (20 + (wrap64 (16 + (a0_5.size : Int))))) > 360 then (some ((⟨#[]⟩ : ByteArray), 601)) else ((wharfageref1_Num.f k 61440 2).bind fun t200 => ((wharfageref1_Num.f k 6080 2).bind fun t201 => (if t200.size + t201.size ≤ 9223372036854775807 then ((wharfageref1_Num.f k (wrap64 (16 + (a0_5.size : Int))) 2).bind fun t202 => (if (t200 ++ t201).size + t202.size ≤ 9223372036854775807 then ((wharfageref1_Num.f k 0 2).bind fun t203 => (if ((t200 ++ t201) ++ t202).size + t203.size ≤ 9223372036854775807 then ((wharfageref1_Num.f k 0 1).bind fun t204 => (if (((t200 ++ t201) ++ t202) ++ t203).size + t204.size ≤ 9223372036854775807 then ((wharfageref1_Num.f k a0_2 1).bind fun t205 => (if ((((t200 ++ t201) ++ t202) ++ t203) ++ t204).size + t205.size ≤ 9223372036854775807 then ((wharfageref1_Num.f k a0_3 1).bind fun t206 => (if (((((t200 ++ t201) ++ t202) ++ t203) ++ t204) ++ t205).size + t206.size ≤ 9223372036854775807 then ((wharfageref1_Num.f k a0_4 1).bind fun t207 => (if ((((((t200 ++ t201) ++ t202) ++ t203) ++ t204) ++ t205) ++ t206).size + t207.size ≤ 9223372036854775807 then ((wharfageref1_Num.f k (a0_5.size : Int) 2).bind fun t208 => (if (((((((t200 ++ t201) ++ t202) ++ t203) ++ t204) ++ t205) ++ t206) ++ t207).size + t208.size ≤ 9223372036854775807 then ((wharfageref1_Num.f k 0 2).bind fun t209 => (if ((((((((t200 ++ t201) ++ t202) ++ t203) ++ t204) ++ t205) ++ t206) ++ t207) ++ t208).size + t209.size ≤ 9223372036854775807 then (if (((((((((t200 ++ t201) ++ t202) ++ t203) ++ t204) ++ t205) ++ t206) ++ t207) ++ t208) ++ t209).size + a0_5.size ≤ 9223372036854775807 then ((wharfageref1_PutIp.f k a0_0 a0_1 17 64 0 ((((((((((t200 ++ t201) ++ t202) ++ t203) ++ t204) ++ t205) ++ t206) ++ t207) ++ t208) ++ t209) ++ a0_5)).bind fun bt210 => (some (bt210.1, 0))) else (none)) else (none))) else (none))) else (none))) else (none))) else (none))) else (none))) else (none))) else (none))) else (none))))) else (some ((⟨#[]⟩ : ByteArray), 600)))
theorem wharfageref1_Push.mono : ∀ a0 a1 a2 a3 a4 a5 k, LeO (wharfageref1_Push.f k a0 a1 a2 a3 a4 a5) (wharfageref1_Push.f (k + 1) a0 a1 a2 a3 a4 a5) := by
  intro a0 a1 a2 a3 a4 a5 k
  unfold wharfageref1_Push.f
  repeat' first
      | (with_reducible exact wharfageref1_Num.mono _ _ _)
      | (with_reducible exact wharfageref1_OuterMay.mono _ _ _ _ _ _ _)
      | (with_reducible exact wharfageref1_PutIp.mono _ _ _ _ _ _ _)
      | (with_reducible exact LeO.refl _)
      | (with_reducible exact LeO.none _)
      | (with_reducible refine LeO.ite ?_ ?_)
      | (with_reducible refine LeO.bind ?_ (fun _ => ?_))
      | exact wharfageref1_Num.mono _ _ _
      | exact wharfageref1_OuterMay.mono _ _ _ _ _ _ _
      | exact wharfageref1_PutIp.mono _ _ _ _ _ _ _
      | exact LeO.none _
      | refine LeO.ite ?_ ?_
      | refine LeO.bind ?_ (fun _ => ?_)
def wharfageref1_Push.T6 : Bool × List (List Nat × List Nat) := (true, [([], []), ([0], []), ([0, 1], [0, 1]), ([], []), ([3, 1], [3]), ([2, 4], [2, 4]), ([4], []), ([5, 6], [5, 6]), ([6], []), ([7, 8], [7, 8]), ([], []), ([10], [10]), ([11, 8], [11]), ([9, 12], [9, 12]), ([], []), ([14], [14]), ([15, 12], [15]), ([13, 16], [13, 16]), ([], []), ([18], [18]), ([19, 16], [19]), ([17, 20], [17, 20]), ([], []), ([22], [22]), ([23], [23]), ([24, 20], [24]), ([21, 25], [21, 25]), ([25], []), ([26, 27], [26, 27]), ([], []), ([29], [29]), ([28, 30], [28, 30]), ([31, 27, 0, 1, 2, 3, 4, 5, 6, 7, 8, 9, 10, 11, 12, 13, 14, 15, 16, 17, 18, 19, 20, 21, 22, 23, 24, 25, 26, 27, 28, 29, 30, 31], [31])])
def wharfageref1_Push.B6 : List Nat := [0, 1, 3, 0, 11, 31, 27, 127, 91, 511, 0, 1024, 3419, 8191, 0, 16384, 56667, 131071, 0, 262144, 908635, 2097151, 0, 4194304, 12582912, 31317339, 67108863, 64871771, 268435455, 0, 536870912, 2147483647, 4294967295]
theorem wharfageref1_Push.tab6 : rtab .any (opsOf Try.f22 6) = wharfageref1_Push.T6 := by kernel_rfl
theorem wharfageref1_Push.bits6 : waitsOk wharfageref1_Push.T6.2 wharfageref1_Push.B6 = true := by kernel_rfl
set_option maxHeartbeats 8000000 in
set_option maxRecDepth 100000 in
theorem wharfageref1_Push.calls (k : Nat) (a0_0 : Int) (a0_1 : Int) (a0_2 : Int) (a0_3 : Int) (a0_4 : Int) (a0_5 : ByteArray) (r1 : ByteArray) (r2 : Int) (w : World) (h : wharfageref1_Push.f k a0_0 a0_1 a0_2 a0_3 a0_4 a0_5 = some (r1, r2)) :
    Calls Try.prog 22 #[.agg #[.int .i64 a0_0, .int .i64 a0_1, .int .i64 a0_2, .int .i64 a0_3, .int .i64 a0_4, .string a0_5]] w fun e w' => e = .returned (.tuple #[.string r1, .int .i64 r2]) ∧ Below w.heap.size w w' := by
  have HB := Aside0.mk (Below.refl w.heap.size w)
  unfold wharfageref1_Push.f at h
  have hut := Try.underlying23
  have KS := Aside0.mk (show ∀ W W1 : World, W.heap[w.heap.size]? = some (.cells #[.int .i64 a0_0, .int .i64 a0_1, .int .i64 a0_2, .int .i64 a0_3, .int .i64 a0_4, .string a0_5] 23 (0, 0)) → Below w.heap.size w W → Below W.heap.size W W1 → W1.heap[w.heap.size]? = some (.cells #[.int .i64 a0_0, .int .i64 a0_1, .int .i64 a0_2, .int .i64 a0_3, .int .i64 a0_4, .string a0_5] 23 (0, 0)) ∧ Below w.heap.size w W1 ∧ W1.cell? ⟨w.heap.size, 0, none⟩ = some (.int .i64 a0_0) ∧ W1.cell? ⟨w.heap.size, 1, none⟩ = some (.int .i64 a0_1) ∧ W1.cell? ⟨w.heap.size, 2, none⟩ = some (.int .i64 a0_2) ∧ W1.cell? ⟨w.heap.size, 3, none⟩ = some (.int .i64 a0_3) ∧ W1.cell? ⟨w.heap.size, 4, none⟩ = some (.int .i64 a0_4) ∧ W1.cell? ⟨w.heap.size, 5, none⟩ = some (.string a0_5) from fun W W1 hi hb hb1 => by
    have hi1 := (hb1.block _ (blk_lt hi)).trans hi
    exact ⟨hi1, below_then hb hb.size hb1, (blk_cell hi1 0).trans rfl, (blk_cell hi1 1).trans rfl, (blk_cell hi1 2).trans rfl, (blk_cell hi1 3).trans rfl, (blk_cell hi1 4).trans rfl, (blk_cell hi1 5).trans rfl⟩)
  simp only [Option.bind_eq_some_iff] at h
  obtain ⟨t1, A1, h⟩ := h
  replace A1 := Aside0.mk A1
  cases t1
  · rw [if_neg (by decide)] at h
    simp only [Option.some.injEq, Prod.mk.injEq] at h
    obtain ⟨rfl, rfl⟩ := h
    go_enter Try.func22, Try.ntmps22
    go_wp2_with (first | (go_at_call 27; with_reducible refine (wharfageref1_OuterMay.calls _ _ _ _ _ _ _ _ _ A1.out).mono ?_; rintro e w1 ⟨rfl, hb1⟩))
    go_ret2
    exact ⟨rfl, below_then (below_alloc HB.out _) (below_alloc HB.out _).size hb1⟩
  · rw [if_pos rfl] at h
    obtain ⟨z, hz⟩ : ∃ z, wrap64 (16 + (a0_5.size : Int)) = z := ⟨_, rfl⟩
    rw [hz] at h
    have hw := (i64_w (16 + (a0_5.size : Int))).trans hz
    obtain ⟨y, hy⟩ : ∃ y, wrap64 (20 + z) = y := ⟨_, rfl⟩
    rw [hy] at h
    have hv := (i64_w (20 + z)).trans hy
    by_cases cb : y > 360
    · rw [if_pos cb] at h
      simp only [Option.some.injEq, Prod.mk.injEq] at h
      obtain ⟨rfl, rfl⟩ := h
      have cb1 : decide (y > 360) = true := decide_eq_true cb
      have cb2 : decide (360 < y) = true := decide_eq_true cb
      go_enter Try.func22, Try.ntmps22
      go_wp2_with (first | (go_at_call 27; with_reducible refine (wharfageref1_OuterMay.calls _ _ _ _ _ _ _ _ _ A1.out).mono ?_; rintro e w1 ⟨rfl, hb1⟩; obtain ⟨I1, B1, q0, q1, q2, q3, q4, q5⟩ := KS.out _ _ (heap_alloc_new w _) (below_alloc HB.out _) hb1; clear hb1))
      go_ret2
      exact ⟨rfl, B1⟩
    · rw [if_neg cb] at h
      have cb1 : decide (y > 360) = false := decide_eq_false cb
      have cb2 : decide (360 < y) = false := decide_eq_false cb
      have cb3 : (360 < y) = False := eq_false cb
      simp only [Option.bind_eq_some_iff, Option.ite_none_right_eq_some, Prod.exists] at h
      obtain ⟨u1, D1, u2, D2, c1, u3, D3, c2, u4, D4, c3, u5, D5, c4, u6, D6, c5, u7, D7, c6, u8, D8, c7, u9, D9, c8, u10, D10, c9, c10, s1, s2, DP, h⟩ := h
      simp only [Option.some.injEq, Prod.mk.injEq] at h
      obtain ⟨rfl, rfl⟩ := h
      obtain rfl : u4 = u10 := Option.some.inj (D4.symm.trans D10)
      simp only [ByteArray.size_append', ByteArray.size_mk', List.size_toArray, List.length_cons, List.length_nil, Nat.reduceAdd, ← Nat.not_lt] at c1 c2 c3 c4 c5 c6 c7 c8 c9 c10
      replace D1 := Aside0.mk D1
      replace D2 := Aside0.mk D2
      replace D3 := Aside0.mk D3
      replace D4 := Aside0.mk D4
      replace D5 := Aside0.mk D5
      replace D6 := Aside0.mk D6
      replace D7 := Aside0.mk D7
      replace D8 := Aside0.mk D8
      replace D9 := Aside0.mk D9
      replace D10 := Aside0.mk D10
      replace DP := Aside0.mk DP
      go_enter Try.func22, Try.ntmps22
      go_wp2_with (first | (go_at_call 27; with_reducible refine (wharfageref1_OuterMay.calls _ _ _ _ _ _ _ _ _ A1.out).mono ?_; rintro e w1 ⟨rfl, hb1⟩; obtain ⟨I1, B1, q0, q1, q2, q3, q4, q5⟩ := KS.out _ _ (heap_alloc_new w _) (below_alloc HB.out _) hb1; clear hb1))
      go_region_held3 (fun w' => w'.heap[w.heap.size]? = some (.cells #[.int .i64 a0_0, .int .i64 a0_1, .int .i64 a0_2, .int .i64 a0_3, .int .i64 a0_4, .string a0_5] 23 (0, 0)) ∧ Below w.heap.size w w' ∧ w'.cell? ⟨w.heap.size, 0, none⟩ = some (.int .i64 a0_0) ∧ w'.cell? ⟨w.heap.size, 1, none⟩ = some (.int .i64 a0_1) ∧ w'.cell? ⟨w.heap.size, 2, none⟩ = some (.int .i64 a0_2) ∧ w'.cell? ⟨w.heap.size, 3, none⟩ = some (.int .i64 a0_3) ∧ w'.cell? ⟨w.heap.size, 4, none⟩ = some (.int .i64 a0_4) ∧ w'.cell? ⟨w.heap.size, 5, none⟩ = some (.string a0_5)) (first | (go_split_ands; exact KS.out _ _ (by assumption) (by assumption) hb2) | (go_split_ands; exact KS.out _ _ (by assumption) (by assumption) (below_drew (Below.refl _ _))) | exact KS.out _ _ I1 B1 (by repeat (first | exact Below.refl _ _ | refine below_drew ?_ | refine pw_below_drewN ?_ _))) ((go_at_call 52; with_reducible refine (wharfageref1_Num.calls k _ _ _ _ (by first | exact D1.out | exact D2.out | exact D3.out | exact D4.out | exact D5.out | exact D6.out | exact D7.out | exact D8.out | exact D9.out | exact D10.out)).mono ?_; rintro e w2 ⟨rfl, hb2⟩))
      go_split_ands
      go_wp2_with (first | (go_at_call 43; with_reducible refine (wharfageref1_PutIp.calls k _ _ _ _ _ _ _ _ _ DP.out).mono ?_; rintro e w4 ⟨rfl, hb4⟩; have B4 : Below w.heap.size w w4 := (fun h => below_then h h.size hb4) (by assumption)))
      go_ret2
      exact ⟨rfl, B4⟩
end Go.Proofs.Ytobhmonmeocfmaa.PA
