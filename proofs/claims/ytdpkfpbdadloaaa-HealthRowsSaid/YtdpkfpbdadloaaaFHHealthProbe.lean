-- printed by a program of this session (myprint.py) out of the translation
import Derived.Test.YtdpkfpbdadloaaaFH0
import Derived.Test.YtdpkfpbdadloaaaFHHealthTurns
import Derived.Test.YtdpkfpbdadloaaaFHHealthMay
namespace Go.Proofs.Ytdpkfpbdadloaaa.PH
open Go.RowKit Go.Proofs.YtdpkfpbdadloaaaW.PrintWords Go.Proofs.YtdpkfpbdadloaaaW.PrintLast Go.Proofs.YtdpkfpbdadloaaaW.PrintMore
attribute [local go_sem] max2_int min2_int max_two min_two max_three min_three max_four min_four   -- for this text's walks alone
set_option linter.unusedVariables false
set_option linter.unusedSimpArgs false

/-! ### health_Probe: function 26 -/
def health_Probe.f (a0_0 : Bool) (a0_1 : Int) (a1 : Bool) : Option (Bool × Int × Int) := (health_May.f a0_0 a0_1).bind fun t107 => (if t107 = true then (if (a1 == a0_0) = true then (some (a0_0, 0, 0)) else ((health_turns.f a0_0 a0_1).bind fun bt108 => (if (wrap64 (a0_1 + 1)) = bt108.1 then (some (!bt108.2.1, 0, 0)) else (some (bt108.2.1, wrap64 (bt108.2.2 + 1), 0))))) else (some (false, 0, 1100)))
set_option maxHeartbeats 8000000 in
set_option maxRecDepth 100000 in
theorem health_Probe.calls (a0_0 : Bool) (a0_1 : Int) (a1 : Bool) (r1 : Bool) (r2 : Int) (r3 : Int) (w : World) (h : health_Probe.f a0_0 a0_1 a1 = some (r1, r2, r3)) :
    Calls Try.prog 26 #[.agg #[.bool a0_0, .int .i64 a0_1], .bool a1] w fun e w' => e = .returned (.tuple #[.agg #[.bool r1, .int .i64 r2], .int .i64 r3]) ∧ Below w.heap.size w w' := by
  have HB := Aside0.mk (Below.refl w.heap.size w)
  unfold health_Probe.f at h
  have hu24 := Try.underlying24
  simp only [Option.bind_eq_some_iff] at h
  obtain ⟨t, A1, h⟩ := h
  replace A1 := Aside0.mk A1
  have I0 : IsS24 w ((w.alloc (.cells #[.bool a0_0, .int .i64 a0_1] 24)).alloc (.cells #[.bool false, .int .i64 0] 24)) w.heap.size a0_0 a0_1 := (IsS24.new w w a0_0 a0_1 HB.out).alloc _
  have J0 : IsS24 w ((w.alloc (.cells #[.bool a0_0, .int .i64 a0_1] 24)).alloc (.cells #[.bool false, .int .i64 0] 24)) (w.heap.size + 1) false 0 := by
    have z := IsS24.new w (w.alloc (.cells #[.bool a0_0, .int .i64 a0_1] 24)) false 0 (below_alloc HB.out _)
    simpa using z
  have B0 : Below w.heap.size w ((w.alloc (.cells #[.bool a0_0, .int .i64 a0_1] 24)).alloc (.cells #[.bool false, .int .i64 0] 24)) := below_alloc (below_alloc HB.out _) _
  have p0 := cellS24_0 I0.1
  have p1 := cellS24_1 I0.1
  have E0 : ∀ w1, Below ((w.alloc (.cells #[.bool a0_0, .int .i64 a0_1] 24)).alloc (.cells #[.bool false, .int .i64 0] 24)).heap.size ((w.alloc (.cells #[.bool a0_0, .int .i64 a0_1] 24)).alloc (.cells #[.bool false, .int .i64 0] 24)) w1 → IsS24 w w1 w.heap.size a0_0 a0_1 ∧ IsS24 w w1 (w.heap.size + 1) false 0 ∧ Below w.heap.size w w1 := fun w1 hb => ⟨I0.below hb, J0.below hb, below_then B0 B0.size hb⟩
  clear B0
  have E1 := Aside0.mk E0
  clear E0
  have same : ∀ {b : Bool} {c t : Int} {b' : Bool} {c' : Int}, health_turns.f b c = some (t, b', c') → b' = b ∧ c' = c := by
    intro b c t b' c' h
    unfold health_turns.f at h
    by_cases q : b = true
    · rw [if_pos q] at h; cases h; exact ⟨rfl, rfl⟩
    · rw [if_neg q] at h; cases h; exact ⟨rfl, rfl⟩
  cases t
  · rw [if_neg (by decide)] at h
    cases h
    clear same I0 J0
    go_enter Try.func26, Try.ntmps26
    go_wp2_with (go_at_call 29; refine (health_May.calls _ _ _ _ A1.out).mono ?_; rintro e w1 ⟨rfl, hb⟩; obtain ⟨I1, J1, B1⟩ := E1.out _ hb; have q0 := cellS24_0 I1.1; have q1 := cellS24_1 I1.1; have r0 := cellS24_0 J1.1; have r1 := cellS24_1 J1.1; have fr0 := blk_frozen J1.1 0; have fr1 := blk_frozen J1.1 1; replace I1 := Aside0.mk I1; replace J1 := Aside0.mk J1; replace B1 := Aside0.mk B1; clear hb p0 p1)
    refine bodyPost_ret (results_ct rfl _ _ (w.heap.size + 1) 24 #[.bool false, .int .i64 0] (0, 0) _ rfl (by exact ((J1.out.set_0 false).set_1 0).1) Try.underlying24 rfl (by kernel_rfl)) rfl ?_
    exact ⟨rfl, below_set (below_set B1.out J1.out.2) J1.out.2⟩
  · rw [if_pos rfl] at h
    by_cases c : (a1 == a0_0) = true
    · rw [if_pos c] at h
      cases h
      have c2 : decide (a1 = a0_0) = true := by simpa using c
      obtain rfl : a1 = a0_0 := by simpa using c
      clear same I0 J0
      go_enter Try.func26, Try.ntmps26
      go_wp2_with (go_at_call 29; refine (health_May.calls _ _ _ _ A1.out).mono ?_; rintro e w1 ⟨rfl, hb⟩; obtain ⟨I1, J1, B1⟩ := E1.out _ hb; have q0 := cellS24_0 I1.1; have q1 := cellS24_1 I1.1; have r0 := cellS24_0 J1.1; have r1 := cellS24_1 J1.1; have fr0 := blk_frozen J1.1 0; have fr1 := blk_frozen J1.1 1; replace I1 := Aside0.mk I1; replace J1 := Aside0.mk J1; replace B1 := Aside0.mk B1; clear hb p0 p1)
      refine bodyPost_ret (results_ct rfl _ _ (w.heap.size + 1) 24 #[.bool a1, .int .i64 0] (0, 0) _ rfl (by exact ((J1.out.set_0 a1).set_1 0).1) Try.underlying24 rfl (by kernel_rfl)) rfl ?_
      exact ⟨rfl, below_set (below_set B1.out J1.out.2) J1.out.2⟩
    · rw [if_neg c] at h
      have c0 : (a1 == a0_0) = false := by simpa using c
      have c2 : decide (a1 = a0_0) = false := by simpa using c
      have c3 : ¬ (a1 = a0_0) := by simpa using c
      simp only [Option.bind_eq_some_iff, Prod.exists] at h
      obtain ⟨t, b', c', A2, h⟩ := h
      obtain ⟨rfl, rfl⟩ := same A2
      replace A2 := Aside0.mk A2
      obtain ⟨z, hz⟩ : ∃ z, wrap64 (c' + 1) = z := ⟨_, rfl⟩
      have hw := (i64_w (c' + 1)).trans hz
      simp only [hz] at h
      clear same I0 J0 c
      have last : ∀ (d : Bool) (x : Int), (some (d, x, (0 : Int))) = some (r1, r2, r3) → d = r1 ∧ x = r2 ∧ 0 = r3 := by intro d x h; cases h; exact ⟨rfl, rfl, rfl⟩
      replace last := Aside0.mk last
      by_cases c4 : z = t
      · rw [if_pos c4] at h
        cases h
        have c5 : (z == t) = true := beq_iff_eq.mpr c4
        have c6 : decide (z = t) = true := decide_eq_true c4
        subst c4
        go_enter Try.func26, Try.ntmps26
        go_wp2_with (go_at_call 29; refine (health_May.calls _ _ _ _ A1.out).mono ?_; rintro e w1 ⟨rfl, hb⟩; obtain ⟨I1, J1, B1⟩ := E1.out _ hb; have q0 := cellS24_0 I1.1; have q1 := cellS24_1 I1.1; clear hb p0 p1)
        go_region_held3 (fun w' => IsS24 w w' w.heap.size b' c' ∧ IsS24 w w' (w.heap.size + 1) false 0 ∧ Below w.heap.size w w' ∧ w'.cell? ⟨w.heap.size, 1, none⟩ = some (.int .i64 c'))
          (first | exact ⟨I1, J1, B1, q1⟩ | exact ⟨I1.drew, J1.drew, below_drew B1, q1⟩ | (go_split_ands; exact ⟨hi2, ⟨(hk2.2 _ (by first | exact blk_lt J1.1 | exact (blk_lt (by assumption : IsS24 w _ (w.heap.size + 1) false 0).1)) (by omega) (by simp)).trans (by assumption : IsS24 w _ (w.heap.size + 1) false 0).1, Nat.le_succ _⟩, hb2, cellS24_1 hi2.1⟩))
          ((go_at_call 43; go_split_ands; refine (health_turns.calls _ _ _ _ _ _ w _ (by first | assumption | exact I1.drew) (by first | assumption | exact below_drew B1) A2.out).mono ?_; rintro e w2 ⟨rfl, hi2, hb2, hk2⟩))
        go_split_ands
        obtain ⟨w9, hw9⟩ : ∃ w9, w9 = w2 := ⟨_, rfl⟩
        have J9 := Aside0.mk (by assumption : IsS24 w w2 (w.heap.size + 1) false 0)
        have I9 := Aside0.mk (by assumption : IsS24 w w2 w.heap.size b' c')
        have B9 := Aside0.mk (by assumption : Below w.heap.size w w2)
        have q0 := cellS24_0 I9.out.1
        have q1 := cellS24_1 I9.out.1
        have r0 := cellS24_0 J9.out.1
        have r1 := cellS24_1 J9.out.1
        have fr0 := blk_frozen J9.out.1 0
        have fr1 := blk_frozen J9.out.1 1
        go_wp2
        refine bodyPost_ret (results_ct rfl _ _ (w.heap.size + 1) 24 #[.bool (!b'), .int .i64 0] (0, 0) _ rfl (by exact ((J9.out.set_0 ((!b'))).set_1 (0)).1) Try.underlying24 rfl (by kernel_rfl)) rfl ?_
        exact ⟨rfl, below_set (below_set B9.out J9.out.2) J9.out.2⟩
      · rw [if_neg c4] at h
        simp only [Option.some.injEq, Prod.mk.injEq] at h
        obtain ⟨h1, h2, h3⟩ := h
        subst h1 h2 h3
        have c5 : (z == t) = false := beq_eq_false_iff_ne.mpr c4
        have c6 : decide (z = t) = false := decide_eq_false c4
        go_enter Try.func26, Try.ntmps26
        go_wp2_with (go_at_call 29; refine (health_May.calls _ _ _ _ A1.out).mono ?_; rintro e w1 ⟨rfl, hb⟩; obtain ⟨I1, J1, B1⟩ := E1.out _ hb; have q0 := cellS24_0 I1.1; have q1 := cellS24_1 I1.1; clear hb p0 p1)
        go_region_held3 (fun w' => IsS24 w w' w.heap.size b' c' ∧ IsS24 w w' (w.heap.size + 1) false 0 ∧ Below w.heap.size w w' ∧ w'.cell? ⟨w.heap.size, 1, none⟩ = some (.int .i64 c'))
          (first | exact ⟨I1, J1, B1, q1⟩ | exact ⟨I1.drew, J1.drew, below_drew B1, q1⟩ | (go_split_ands; exact ⟨hi2, ⟨(hk2.2 _ (by first | exact blk_lt J1.1 | exact (blk_lt (by assumption : IsS24 w _ (w.heap.size + 1) false 0).1)) (by omega) (by simp)).trans (by assumption : IsS24 w _ (w.heap.size + 1) false 0).1, Nat.le_succ _⟩, hb2, cellS24_1 hi2.1⟩))
          ((go_at_call 43; go_split_ands; refine (health_turns.calls _ _ _ _ _ _ w _ (by first | assumption | exact I1.drew) (by first | assumption | exact below_drew B1) A2.out).mono ?_; rintro e w2 ⟨rfl, hi2, hb2, hk2⟩))
        go_split_ands
        obtain ⟨w9, hw9⟩ : ∃ w9, w9 = w2 := ⟨_, rfl⟩
        have J9 := Aside0.mk (by assumption : IsS24 w w2 (w.heap.size + 1) false 0)
        have I9 := Aside0.mk (by assumption : IsS24 w w2 w.heap.size b' c')
        have B9 := Aside0.mk (by assumption : Below w.heap.size w w2)
        have q0 := cellS24_0 I9.out.1
        have q1 := cellS24_1 I9.out.1
        have r0 := cellS24_0 J9.out.1
        have r1 := cellS24_1 J9.out.1
        have fr0 := blk_frozen J9.out.1 0
        have fr1 := blk_frozen J9.out.1 1
        go_wp2
        refine bodyPost_ret (results_ct rfl _ _ (w.heap.size + 1) 24 #[.bool b', .int .i64 z] (0, 0) _ rfl (by exact ((J9.out.set_0 (b')).set_1 (z)).1) Try.underlying24 rfl (by kernel_rfl)) rfl ?_
        exact ⟨rfl, below_set (below_set B9.out J9.out.2) J9.out.2⟩

end Go.Proofs.Ytdpkfpbdadloaaa.PH
