-- printed by a program of this session (myprint.py) out of the translation
import Derived.Test.YtnhbieicjlnakaaFA0
import Derived.Test.YtnhbieicjlnakaaFAIpMay
import Derived.Test.YtnhbieicjlnakaaFAIpHead
import Derived.Test.YtnhbieicjlnakaaFASumSum
namespace Go.Proofs.Ytnhbieicjlnakaa.PA
open Go.RowKit Go.Proofs.YtnhbieicjlnakaaW.PrintWords Go.Proofs.YtnhbieicjlnakaaW.PrintLast Go.Proofs.YtnhbieicjlnakaaW.PrintMore
attribute [local go_sem] max2_int min2_int max_two min_two max_three min_three max_four min_four   -- for this text's walks alone
set_option linter.unusedVariables false
set_option linter.unusedSimpArgs false

/-! ### ip_Put: function 17 -/
def ip_Put.f (k : Nat) (a0_0 : Int) (a0_1 : Int) (a0_2 : Int) (a0_3 : Int) (a0_4 : Int) (a0_5 : ByteArray) : Option (ByteArray × Int) := (ip_May.f a0_0 a0_1 a0_2 a0_3 a0_4 a0_5).bind fun t124 => (if t124 = true then ((ip_head.f k a0_0 a0_1 a0_2 a0_3 a0_4 a0_5 0).bind fun bt125 => ((sum_Sum.f k bt125.1).bind fun t132 => ((ip_head.f k bt125.2.1 bt125.2.2.1 bt125.2.2.2.1 bt125.2.2.2.2.1 bt125.2.2.2.2.2.1 bt125.2.2.2.2.2.2 (wrap64 (65535 - t132))).bind fun bt133 => (if bt133.1.size + bt133.2.2.2.2.2.2.size ≤ 9223372036854775807 then (some (bt133.1 ++ bt133.2.2.2.2.2.2, 0)) else (none))))) else (some ((⟨#[]⟩ : ByteArray), 200)))
theorem ip_Put.mono : ∀ a0 a1 a2 a3 a4 a5 k, LeO (ip_Put.f k a0 a1 a2 a3 a4 a5) (ip_Put.f (k + 1) a0 a1 a2 a3 a4 a5) := by
  intro a0 a1 a2 a3 a4 a5 k
  unfold ip_Put.f
  repeat' first
      | (with_reducible exact ip_head.mono _ _ _ _ _ _ _ _)
      | (with_reducible exact sum_Sum.mono _ _)
      | (with_reducible exact LeO.refl _)
      | (with_reducible exact LeO.none _)
      | (with_reducible refine LeO.ite ?_ ?_)
      | (with_reducible refine LeO.bind ?_ (fun _ => ?_))
      | exact ip_head.mono _ _ _ _ _ _ _ _
      | exact sum_Sum.mono _ _
      | exact LeO.none _
      | refine LeO.ite ?_ ?_
      | refine LeO.bind ?_ (fun _ => ?_)
set_option maxHeartbeats 8000000 in
set_option maxRecDepth 100000 in
theorem ip_Put.calls (k : Nat) (a0_0 : Int) (a0_1 : Int) (a0_2 : Int) (a0_3 : Int) (a0_4 : Int) (a0_5 : ByteArray) (r1 : ByteArray) (r2 : Int) (w : World) (h : ip_Put.f k a0_0 a0_1 a0_2 a0_3 a0_4 a0_5 = some (r1, r2)) :
    Calls Try.prog 17 #[.agg #[.int .i64 a0_0, .int .i64 a0_1, .int .i64 a0_2, .int .i64 a0_3, .int .i64 a0_4, .string a0_5]] w fun e w' => e = .returned (.tuple #[.string r1, .int .i64 r2]) ∧ Below w.heap.size w w' := by
  have HB := Aside0.mk (Below.refl w.heap.size w)
  have same : ∀ {k : Nat} {b0 b1 b2 b3 b4 : Int} {b5 : ByteArray} {x : Int} {q1 : ByteArray} {q2 q3 q4 q5 q6 : Int} {q7 : ByteArray}, ip_head.f k b0 b1 b2 b3 b4 b5 x = some (q1, q2, q3, q4, q5, q6, q7) → q2 = b0 ∧ q3 = b1 ∧ q4 = b2 ∧ q5 = b3 ∧ q6 = b4 ∧ q7 = b5 := by
    intro k b0 b1 b2 b3 b4 b5 x q1 q2 q3 q4 q5 q6 q7 h
    unfold ip_head.f at h
    simp only [Option.bind_eq_some_iff, Option.ite_none_right_eq_some] at h
    obtain ⟨t1, A1, t2, A2, c2, t3, A3, c3, t4, A4, c4, t5, A5, c5, t6, A6, c6, t7, A7, c7, t8, A8, c8, t9, A9, c9, t10, A10, c10, t11, A11, c11, h⟩ := h
    simp only [Option.some.injEq, Prod.mk.injEq] at h
    obtain ⟨rfl, rfl, rfl, rfl, rfl, rfl, rfl⟩ := h
    exact ⟨rfl, rfl, rfl, rfl, rfl, rfl⟩
  unfold ip_Put.f at h
  simp only [Option.bind_eq_some_iff] at h
  obtain ⟨t1, A1, h⟩ := h
  replace A1 := Aside0.mk A1
  have hu23 := Try.underlying23
  cases t1
  · rw [if_neg (by decide)] at h
    simp only [Option.some.injEq, Prod.mk.injEq] at h
    obtain ⟨rfl, rfl⟩ := h
    clear same
    go_enter Try.func17, Try.ntmps17
    go_wp2_with (go_at_call 20; refine (ip_May.calls _ _ _ _ _ _ _ _ A1.out).mono ?_; rintro e w1 ⟨rfl, hb⟩)
    go_ret2
    exact ⟨rfl, below_then (below_alloc HB.out _) (below_alloc HB.out _).size hb⟩
  · rw [if_pos rfl] at h
    simp only [Option.bind_eq_some_iff, Option.ite_none_right_eq_some, Prod.exists] at h
    obtain ⟨h1, b0, b1, b2, b3, b4, b5, A2, t, A3, h2, d0, d1, d2, d3, d4, d5, A4, c4, h⟩ := h
    obtain ⟨rfl, rfl, rfl, rfl, rfl, rfl⟩ := same A2
    obtain ⟨rfl, rfl, rfl, rfl, rfl, rfl⟩ := same A4
    simp only [Option.some.injEq, Prod.mk.injEq] at h
    obtain ⟨rfl, rfl⟩ := h
    simp only [← Nat.not_lt] at c4
    obtain ⟨z, hz⟩ : ∃ z, wrap64 (65535 - t) = z := ⟨_, rfl⟩
    rw [hz] at A4
    have hw := (i64_w (65535 - t)).trans hz
    replace A2 := Aside0.mk A2
    replace A3 := Aside0.mk A3
    replace A4 := Aside0.mk A4
    clear same
    go_enter Try.func17, Try.ntmps17
    go_wp2_with (go_at_call 20; refine (ip_May.calls _ _ _ _ _ _ _ _ A1.out).mono ?_; rintro e w1 ⟨rfl, hb⟩)
    have I1 : IsS23 w w1 w.heap.size d0 d1 d2 d3 d4 d5 := (IsS23.new w w d0 d1 d2 d3 d4 d5 HB.out).below hb
    have B1 : Below w.heap.size w w1 := below_then (below_alloc HB.out _) (below_alloc HB.out _).size hb
    have q5 := cellS23_5 I1.1
    clear hb
    go_region_held3 (fun w' => IsS23 w w' w.heap.size d0 d1 d2 d3 d4 d5 ∧ Below w.heap.size w w' ∧ w'.cell? ⟨w.heap.size, 5, none⟩ = some (.string d5))
      (first | exact ⟨I1, B1, q5⟩ | exact ⟨I1.drew, below_drew B1, q5⟩ | exact ⟨hi2, hb2, cellS23_5 hi2.1⟩ | (go_split_ands; exact ⟨(by assumption : IsS23 w _ w.heap.size d0 d1 d2 d3 d4 d5).drewN nd, pw_below_drewN (by assumption) nd, by assumption⟩))
      ((first
        | (go_at_call 38; go_split_ands; refine (ip_head.calls k _ _ _ _ _ _ _ _ _ _ _ _ _ _ _ w _ (by first | assumption | exact I1.drew) (by first | assumption | exact below_drew B1) (by first | exact A2.out | exact A4.out)).mono ?_; rintro e w2 ⟨rfl, hi2, hb2, hk2⟩)
        | (go_at_call 39; refine (sum_Sum.calls k _ _ _ A3.out).mono ?_; rintro e w2 ⟨rfl, ⟨nd, rfl⟩⟩)))
    go_wp2
    go_ret2
    exact ⟨rfl, by go_split_ands; assumption⟩

end Go.Proofs.Ytnhbieicjlnakaa.PA
