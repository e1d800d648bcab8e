-- printed by a program of this session (myprint.py) out of the translation
import Derived.Test.YtobhmonmeocfmaaFAM0
import Derived.Test.YtobhmonmeocfmaaFAGueMay
namespace Go.Proofs.Ytobhmonmeocfmaa.PA
open Go.RowKit Go.Proofs.YtobhmonmeocfmaaW.PrintWords Go.Proofs.YtobhmonmeocfmaaW.PrintLast Go.Proofs.YtobhmonmeocfmaaW.PrintMore
attribute [local go_sem] max2_int min2_int max_two min_two max_three min_three max_four min_four   -- for this text's walks alone
set_option linter.unusedVariables false
set_option linter.unusedSimpArgs false

/-! ### gue_Push: function 21 -/
def gue_Push.f (k : Nat) (a0_0 : Int) (a0_1 : Int) (a0_2 : Int) (a0_3 : Int) (a0_4 : Int) (a0_5 : ByteArray) : Option (ByteArray × Int) := (gue_May.f a0_0 a0_1 a0_2 a0_3 a0_4 a0_5).bind fun t153 => (if t153 = true then (if (wrap64 (36 + (a0_5.size : Int))) > 360 then (some ((⟨#[]⟩ : ByteArray), 601)) else ((ip_Bytes.f k 0 1).bind fun t154 => ((ip_Bytes.f k a0_2 1).bind fun t155 => (if t154.size + t155.size ≤ 9223372036854775807 then ((ip_Bytes.f k a0_3 1).bind fun t156 => (if (t154 ++ t155).size + t156.size ≤ 9223372036854775807 then ((ip_Bytes.f k a0_4 1).bind fun t157 => (if ((t154 ++ t155) ++ t156).size + t157.size ≤ 9223372036854775807 then ((ip_Bytes.f k (a0_5.size : Int) 2).bind fun t158 => (if (((t154 ++ t155) ++ t156) ++ t157).size + t158.size ≤ 9223372036854775807 then ((ip_Bytes.f k 0 2).bind fun t159 => (if ((((t154 ++ t155) ++ t156) ++ t157) ++ t158).size + t159.size ≤ 9223372036854775807 then (if (((((t154 ++ t155) ++ t156) ++ t157) ++ t158) ++ t159).size + a0_5.size ≤ 9223372036854775807 then ((ip_Bytes.f k 61440 2).bind fun t160 => ((ip_Bytes.f k 6080 2).bind fun t161 => (if t160.size + t161.size ≤ 9223372036854775807 then ((ip_Bytes.f k (wrap64 (8 + (((((((t154 ++ t155) ++ t156) ++ t157) ++ t158) ++ t159) ++ a0_5).size : Int))) 2).bind fun t162 => (if (t160 ++ t161).size + t162.size ≤ 9223372036854775807 then ((ip_Bytes.f k 0 2).bind fun t163 => (if ((t160 ++ t161) ++ t162).size + t163.size ≤ 9223372036854775807 then (if (((t160 ++ t161) ++ t162) ++ t163).size + ((((((t154 ++ t155) ++ t156) ++ t157) ++ t158) ++ t159) ++ a0_5).size ≤ 9223372036854775807 then ((ip_Put.f k a0_0 a0_1 17 64 0 ((((t160 ++ t161) ++ t162) ++ t163) ++ ((((((t154 ++ t155) ++ t156) ++ t157) ++ t158) ++ t159) ++ a0_5))).bind fun bt164 => (some (bt164.1, bt164.2))) else (none)) else (none))) else (none))) else (none)))) else (none)) else (none))) else (none))) else (none))) else (none))) else (none))))) else (some ((⟨#[]⟩ : ByteArray), 600)))
theorem gue_Push.mono : ∀ a0 a1 a2 a3 a4 a5 k, LeO (gue_Push.f k a0 a1 a2 a3 a4 a5) (gue_Push.f (k + 1) a0 a1 a2 a3 a4 a5) := by
  intro a0 a1 a2 a3 a4 a5 k
  unfold gue_Push.f
  repeat' first
      | (with_reducible exact ip_Bytes.mono _ _ _)
      | (with_reducible exact ip_Put.mono _ _ _ _ _ _ _)
      | (with_reducible exact LeO.refl _)
      | (with_reducible exact LeO.none _)
      | (with_reducible refine LeO.ite ?_ ?_)
      | (with_reducible refine LeO.bind ?_ (fun _ => ?_))
      | exact ip_Bytes.mono _ _ _
      | exact ip_Put.mono _ _ _ _ _ _ _
      | exact LeO.none _
      | refine LeO.ite ?_ ?_
      | refine LeO.bind ?_ (fun _ => ?_)
def gue_Push.T5 : Bool × List (List Nat × List Nat) := (true, [([], []), ([], []), ([1], [1]), ([2, 0], [2]), ([0, 3], [0, 3]), ([], []), ([5], [5]), ([6, 3], [6]), ([4, 7], [4, 7]), ([], []), ([9], [9]), ([10, 7], [10]), ([8, 11], [8, 11]), ([], []), ([13], [13]), ([14], [14]), ([15, 11], [15]), ([12, 16], [12, 16]), ([16], []), ([17, 18], [17, 18]), ([], []), ([20], [20]), ([19, 21], [19, 21]), ([22, 18, 0, 1, 2, 3, 4, 5, 6, 7, 8, 9, 10, 11, 12, 13, 14, 15, 16, 17, 18, 19, 20, 21, 22], [22])])
def gue_Push.B5 : List Nat := [0, 0, 2, 7, 15, 0, 32, 111, 255, 0, 512, 1775, 4095, 0, 8192, 24576, 61167, 131071, 126703, 524287, 0, 1048576, 4194303, 8388607]
theorem gue_Push.tab5 : rtab .any (opsOf Try.f21 5) = gue_Push.T5 := by kernel_rfl
theorem gue_Push.bits5 : waitsOk gue_Push.T5.2 gue_Push.B5 = true := by kernel_rfl
set_option maxHeartbeats 8000000 in
set_option maxRecDepth 100000 in
theorem gue_Push.calls (k : Nat) (a0_0 : Int) (a0_1 : Int) (a0_2 : Int) (a0_3 : Int) (a0_4 : Int) (a0_5 : ByteArray) (r1 : ByteArray) (r2 : Int) (w : World) (h : gue_Push.f k a0_0 a0_1 a0_2 a0_3 a0_4 a0_5 = some (r1, r2)) :
    Calls Try.prog 21 #[.agg #[.int .i64 a0_0, .int .i64 a0_1, .int .i64 a0_2, .int .i64 a0_3, .int .i64 a0_4, .string a0_5]] w fun e w' => e = .returned (.tuple #[.string r1, .int .i64 r2]) ∧ Below w.heap.size w w' := by
  have HB := Aside0.mk (Below.refl w.heap.size w)
  unfold gue_Push.f at h
  have hut := Try.underlying23
  have KS := Aside0.mk (show ∀ W W1 : World, W.heap[w.heap.size]? = some (.cells #[.int .i64 a0_0, .int .i64 a0_1, .int .i64 a0_2, .int .i64 a0_3, .int .i64 a0_4, .string a0_5] 23 (0, 0)) → Below w.heap.size w W → Below W.heap.size W W1 → W1.heap[w.heap.size]? = some (.cells #[.int .i64 a0_0, .int .i64 a0_1, .int .i64 a0_2, .int .i64 a0_3, .int .i64 a0_4, .string a0_5] 23 (0, 0)) ∧ Below w.heap.size w W1 ∧ W1.cell? ⟨w.heap.size, 0, none⟩ = some (.int .i64 a0_0) ∧ W1.cell? ⟨w.heap.size, 1, none⟩ = some (.int .i64 a0_1) ∧ W1.cell? ⟨w.heap.size, 2, none⟩ = some (.int .i64 a0_2) ∧ W1.cell? ⟨w.heap.size, 3, none⟩ = some (.int .i64 a0_3) ∧ W1.cell? ⟨w.heap.size, 4, none⟩ = some (.int .i64 a0_4) ∧ W1.cell? ⟨w.heap.size, 5, none⟩ = some (.string a0_5) from fun W W1 hi hb hb1 => by
    have hi1 := (hb1.block _ (blk_lt hi)).trans hi
    exact ⟨hi1, below_then hb hb.size hb1, (blk_cell hi1 0).trans rfl, (blk_cell hi1 1).trans rfl, (blk_cell hi1 2).trans rfl, (blk_cell hi1 3).trans rfl, (blk_cell hi1 4).trans rfl, (blk_cell hi1 5).trans rfl⟩)
  simp only [Option.bind_eq_some_iff] at h
  obtain ⟨t1, A1, h⟩ := h
  replace A1 := Aside0.mk A1
  cases t1
  · rw [if_neg (by decide)] at h
    simp only [Option.some.injEq, Prod.mk.injEq] at h
    obtain ⟨rfl, rfl⟩ := h
    go_enter Try.func21, Try.ntmps21
    go_wp2_with (first | (go_at_call 26; with_reducible refine (gue_May.calls _ _ _ _ _ _ _ _ A1.out).mono ?_; rintro e w1 ⟨rfl, hb1⟩))
    go_ret2
    exact ⟨rfl, below_then (below_alloc HB.out _) (below_alloc HB.out _).size hb1⟩
  · rw [if_pos rfl] at h
    obtain ⟨y, hy⟩ : ∃ y, wrap64 (36 + (a0_5.size : Int)) = y := ⟨_, rfl⟩
    rw [hy] at h
    have hv := (i64_w (36 + (a0_5.size : Int))).trans hy
    by_cases cb : y > 360
    · rw [if_pos cb] at h
      simp only [Option.some.injEq, Prod.mk.injEq] at h
      obtain ⟨rfl, rfl⟩ := h
      have cb1 : decide (y > 360) = true := decide_eq_true cb
      have cb2 : decide (360 < y) = true := decide_eq_true cb
      go_enter Try.func21, Try.ntmps21
      go_wp2_with (first | (go_at_call 26; with_reducible refine (gue_May.calls _ _ _ _ _ _ _ _ A1.out).mono ?_; rintro e w1 ⟨rfl, hb1⟩; obtain ⟨I1, B1, q0, q1, q2, q3, q4, q5⟩ := KS.out _ _ (heap_alloc_new w _) (below_alloc HB.out _) hb1; clear hb1))
      go_ret2
      exact ⟨rfl, B1⟩
    · rw [if_neg cb] at h
      have cb1 : decide (y > 360) = false := decide_eq_false cb
      have cb2 : decide (360 < y) = false := decide_eq_false cb
      have cb3 : (360 < y) = False := eq_false cb
      simp only [Option.bind_eq_some_iff, Option.ite_none_right_eq_some, Prod.exists] at h
      obtain ⟨u1, D1, u2, D2, c1, u3, D3, c2, u4, D4, c3, u5, D5, c4, u6, D6, c5, c6, u7, D7, u8, D8, c7, u9, D9, c8, u10, D10, c9, c10, s1, s2, DP, h⟩ := h
      simp only [Option.some.injEq, Prod.mk.injEq] at h
      obtain ⟨rfl, rfl⟩ := h
      obtain rfl : u6 = u10 := Option.some.inj (D6.symm.trans D10)
      simp only [ByteArray.size_append', ByteArray.size_mk', List.size_toArray, List.length_cons, List.length_nil, Nat.reduceAdd, ← Nat.not_lt] at c1 c2 c3 c4 c5 c6 c7 c8 c9 c10
      obtain ⟨v, hx⟩ : ∃ v, wrap64 (8 + (((((((u1 ++ u2) ++ u3) ++ u4) ++ u5) ++ u6) ++ a0_5).size : Int)) = v := ⟨_, rfl⟩
      rw [hx] at D9
      have hx1 : wrap64 (8 + ((u1.size : Int) + (u2.size : Int) + (u3.size : Int) + (u4.size : Int) + (u5.size : Int) + (u6.size : Int) + (a0_5.size : Int))) = v := by rw [← hx]; simp only [ByteArray.size_append, Int.natCast_add]
      have hx2 := (i64_w (8 + ((u1.size : Int) + (u2.size : Int) + (u3.size : Int) + (u4.size : Int) + (u5.size : Int) + (u6.size : Int) + (a0_5.size : Int)))).trans hx1
      clear hx
      replace D1 := Aside0.mk D1
      replace D2 := Aside0.mk D2
      replace D3 := Aside0.mk D3
      replace D4 := Aside0.mk D4
      replace D5 := Aside0.mk D5
      replace D6 := Aside0.mk D6
      replace D7 := Aside0.mk D7
      replace D8 := Aside0.mk D8
      replace D9 := Aside0.mk D9
      replace D10 := Aside0.mk D10
      replace DP := Aside0.mk DP
      go_enter Try.func21, Try.ntmps21
      go_wp2_with (first | (go_at_call 26; with_reducible refine (gue_May.calls _ _ _ _ _ _ _ _ A1.out).mono ?_; rintro e w1 ⟨rfl, hb1⟩; obtain ⟨I1, B1, q0, q1, q2, q3, q4, q5⟩ := KS.out _ _ (heap_alloc_new w _) (below_alloc HB.out _) hb1; clear hb1))
      go_region_held3 (fun w' => w'.heap[w.heap.size]? = some (.cells #[.int .i64 a0_0, .int .i64 a0_1, .int .i64 a0_2, .int .i64 a0_3, .int .i64 a0_4, .string a0_5] 23 (0, 0)) ∧ Below w.heap.size w w' ∧ w'.cell? ⟨w.heap.size, 0, none⟩ = some (.int .i64 a0_0) ∧ w'.cell? ⟨w.heap.size, 1, none⟩ = some (.int .i64 a0_1) ∧ w'.cell? ⟨w.heap.size, 2, none⟩ = some (.int .i64 a0_2) ∧ w'.cell? ⟨w.heap.size, 3, none⟩ = some (.int .i64 a0_3) ∧ w'.cell? ⟨w.heap.size, 4, none⟩ = some (.int .i64 a0_4) ∧ w'.cell? ⟨w.heap.size, 5, none⟩ = some (.string a0_5)) (first | (go_split_ands; exact KS.out _ _ (by assumption) (by assumption) hb2) | (go_split_ands; exact KS.out _ _ (by assumption) (by assumption) (below_drew (Below.refl _ _))) | exact KS.out _ _ I1 B1 (by repeat (first | exact Below.refl _ _ | refine below_drew ?_ | refine pw_below_drewN ?_ _))) ((go_at_call 50; with_reducible refine (ip_Bytes.calls k _ _ _ _ (by first | exact D1.out | exact D2.out | exact D3.out | exact D4.out | exact D5.out | exact D6.out)).mono ?_; rintro e w2 ⟨rfl, hb2⟩))
      go_split_ands
      go_wp2_with (first | (go_at_call 50; with_reducible refine (ip_Bytes.calls k _ _ _ _ (by first | exact D7.out | exact D8.out | exact D9.out | exact D10.out)).mono ?_; rintro e w3 ⟨rfl, hb3⟩; obtain ⟨I3, B3, p0, p1, p2, p3, p4, p5⟩ := KS.out _ _ (by assumption) (by assumption) hb3; clear hb3) | (go_at_call 51; with_reducible refine (ip_Put.calls k _ _ _ _ _ _ _ _ _ DP.out).mono ?_; rintro e w4 ⟨rfl, hb4⟩; have B4 : Below w.heap.size w w4 := below_then B3 B3.size hb4))
      go_ret2
      exact ⟨rfl, B4⟩
end Go.Proofs.Ytobhmonmeocfmaa.PA
