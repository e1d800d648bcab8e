-- printed by a program of this session (myprint.py) out of the translation
import Derived.Test.YtnhbieicjlnakaaFA0
import Derived.Test.YtnhbieicjlnakaaFAWharfageref1Num
import Derived.Test.YtnhbieicjlnakaaFAWharfageref1Sum
namespace Go.Proofs.Ytnhbieicjlnakaa.PA
open Go.RowKit Go.Proofs.YtnhbieicjlnakaaW.PrintWords Go.Proofs.YtnhbieicjlnakaaW.PrintLast Go.Proofs.YtnhbieicjlnakaaW.PrintMore
attribute [local go_sem] max2_int min2_int max_two min_two max_three min_three max_four min_four   -- for this text's walks alone
set_option linter.unusedVariables false
set_option linter.unusedSimpArgs false

/-! ### wharfagelaw2_whole: function 22 -/
def wharfagelaw2_whole.f (k : Nat) (a0 : ByteArray) : Option (ByteArray) := if (a0.size : Int) < 20 then (some a0) else (if 0 < (a0.size : Int) then (if (wrap64 (4 * (wrap64 (Go.bits .and .u8 (bt a0 0) 15)))) < 20 then (some a0) else (if (wrap64 (4 * (wrap64 (Go.bits .and .u8 (bt a0 0) 15)))) > (a0.size : Int) then (some a0) else (if 0 ≤ 10 then (if 10 ≤ (a0.size : Int) then (if (a0.extract 0 10).size + 2 ≤ 9223372036854775807 then (if 12 ≤ (wrap64 (4 * (wrap64 (Go.bits .and .u8 (bt a0 0) 15)))) then (if (wrap64 (4 * (wrap64 (Go.bits .and .u8 (bt a0 0) 15)))) ≤ (a0.size : Int) then (if ((a0.extract 0 10) ++ (⟨#[0, 0]⟩ : ByteArray)).size + (a0.extract 12 ((wrap64 (4 * (wrap64 (Go.bits .and .u8 (bt a0 0) 15)))) : Int).toNat).size ≤ 9223372036854775807 then ((wharfageref1_Sum.f k (((a0.extract 0 10) ++ (⟨#[0, 0]⟩ : ByteArray)) ++ (a0.extract 12 ((wrap64 (4 * (wrap64 (Go.bits .and .u8 (bt a0 0) 15)))) : Int).toNat))).bind fun t161 => ((wharfageref1_Num.f k (wrap64 (65535 - t161)) 2).bind fun t162 => (if (a0.extract 0 10).size + t162.size ≤ 9223372036854775807 then (if 12 ≤ (a0.size : Int) then (if ((a0.extract 0 10) ++ t162).size + (a0.extract 12 a0.size).size ≤ 9223372036854775807 then (some (((a0.extract 0 10) ++ t162) ++ (a0.extract 12 a0.size))) else (none)) else (none)) else (none)))) else (none)) else (none)) else (none)) else (none)) else (none)) else (none)))) else (none))
theorem wharfagelaw2_whole.mono : ∀ a0 k, LeO (wharfagelaw2_whole.f k a0) (wharfagelaw2_whole.f (k + 1) a0) := by
  intro a0 k
  unfold wharfagelaw2_whole.f
  repeat' first
      | (with_reducible exact wharfageref1_Num.mono _ _ _)
      | (with_reducible exact wharfageref1_Sum.mono _ _)
      | (with_reducible exact LeO.refl _)
      | (with_reducible exact LeO.none _)
      | (with_reducible refine LeO.ite ?_ ?_)
      | (with_reducible refine LeO.bind ?_ (fun _ => ?_))
      | exact wharfageref1_Num.mono _ _ _
      | exact wharfageref1_Sum.mono _ _
      | exact LeO.none _
      | refine LeO.ite ?_ ?_
      | refine LeO.bind ?_ (fun _ => ?_)
set_option maxHeartbeats 8000000 in
set_option maxRecDepth 100000 in
theorem wharfagelaw2_whole.calls (k : Nat) (a0 : ByteArray) (r : ByteArray) (w : World) (h : wharfagelaw2_whole.f k a0 = some r) :
    Calls Try.prog 22 #[.string a0] w fun e w' => e = .returned (.string r) ∧ Below w.heap.size w w' := by
  have HB := Aside0.mk (Below.refl w.heap.size w)
  unfold wharfagelaw2_whole.f at h
  by_cases c1 : (a0.size : Int) < 20
  · rw [if_pos c1] at h
    obtain rfl := Option.some.inj h
    have d1 : decide ((a0.size : Int) < 20) = true := decide_eq_true c1
    go_enter Try.func22, Try.ntmps22
    go_wp2
    go_ret
    exact ⟨rfl, HB.out⟩
  · rw [if_neg c1, if_pos (by omega)] at h
    have d1 : decide ((a0.size : Int) < 20) = false := decide_eq_false c1
    have r := bt_range a0 0
    have e : Go.bits .and .u8 (bt a0 0) 15 = bt a0 0 % 16 := u8_and15 _ r.1 (by omega)
    have hm : 0 ≤ bt a0 0 % 16 ∧ bt a0 0 % 16 < 16 := by omega
    have hbt : ∀ h : 0 < a0.size, ((a0[0]'h).toNat : Int) = bt a0 0 := fun h => bt_at a0 0 h
    rw [e] at h
    generalize bt a0 0 = b at *
    have e1 : wrap64 (b % 16) = b % 16 := by unfold wrap64; omega
    have e2 : wrap64 (4 * (b % 16)) = 4 * (b % 16) := by unfold wrap64; omega
    rw [e1, e2] at h
    obtain ⟨m, hm'⟩ : ∃ m, b % 16 = m := ⟨_, rfl⟩
    rw [hm'] at h e e1 e2 hm
    obtain ⟨m0, m1⟩ := hm
    have e3 : IntKind.i64.wrap m = m := (i64_w m).trans e1
    have e4 : IntKind.i64.wrap (4 * m) = 4 * m := (i64_w (4 * m)).trans e2
    have hpos : (0 : Int) < (a0.size : Int) := by omega
    clear hm' r c1
    by_cases c2 : 4 * m < 20
    · rw [if_pos c2] at h
      obtain rfl := Option.some.inj h
      have d2 : decide (4 * m < 20) = true := decide_eq_true c2
      go_enter Try.func22, Try.ntmps22
      go_wp2
      all_goals (go_ret; exact ⟨rfl, HB.out⟩)
    · rw [if_neg c2] at h
      have d2 : decide (4 * m < 20) = false := decide_eq_false c2
      by_cases c3 : 4 * m > (a0.size : Int)
      · rw [if_pos c3] at h
        obtain rfl := Option.some.inj h
        have d3 : decide ((a0.size : Int) < 4 * m) = true := decide_eq_true c3
        go_enter Try.func22, Try.ntmps22
        go_wp2
        all_goals (go_ret; exact ⟨rfl, HB.out⟩)
      · rw [if_neg c3] at h
        have d3 : decide ((a0.size : Int) < 4 * m) = false := decide_eq_false c3
        simp only [Option.bind_eq_some_iff, Option.ite_none_right_eq_some] at h
        obtain ⟨_, c4, c5, c6, c7, c8, t1, A1, t2, A2, c9, c10, c11, h⟩ := h
        obtain rfl := Option.some.inj h
        have s1 : (a0.extract 0 10).size = 10 := by simp [ByteArray.size_extract]; omega
        have s2 : (a0.extract 12 (4 * m).toNat).size = (4 * m).toNat - 12 := by simp [ByteArray.size_extract]; omega
        have s3 : (a0.extract 12 a0.size).size = a0.size - 12 := by simp [ByteArray.size_extract]
        simp only [ByteArray.size_append', ByteArray.size_mk', List.size_toArray, List.length_cons, List.length_nil, Nat.reduceAdd, s1, s2, s3, ← Nat.not_lt] at c5 c8 c9 c11
        obtain ⟨z, hz⟩ : ∃ z, wrap64 (65535 - t1) = z := ⟨_, rfl⟩
        rw [hz] at A2
        have hw := (i64_w (65535 - t1)).trans hz
        clear hz e1 e2
        replace A1 := Aside0.mk A1
        replace A2 := Aside0.mk A2
        have f1 : (12 : Int) ≤ (a0.size : Int) := c10
        have f2 : (4 * m : Int) ≤ (a0.size : Int) := c7
        go_enter Try.func22, Try.ntmps22
        go_wp2_with fail
        go_region_held3 (fun _ => True) (exact trivial)
          ((go_at_call 41; refine (wharfageref1_Sum.calls k _ _ _ A1.out).mono ?_; rintro e w2 ⟨rfl, ⟨nd, rfl⟩⟩))
        go_wp2
        go_region_held3 (fun _ => True) (exact trivial)
          ((go_at_call 40; refine (wharfageref1_Num.calls k _ _ _ _ A2.out).mono ?_; rintro e w2 ⟨rfl, hb2⟩))
        go_wp2
        go_ret
        exact ⟨rfl, below_then (pw_below_drewN (Below.refl _ _) _) (pw_below_drewN (Below.refl w.heap.size w) _).size hb2⟩

end Go.Proofs.Ytnhbieicjlnakaa.PA
