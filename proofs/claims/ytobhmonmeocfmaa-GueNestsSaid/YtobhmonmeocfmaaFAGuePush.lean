-- printed by a program of this session (myprint.py) out of the translation
import Derived.Test.YtobhmonmeocfmaaFAM0
import Derived.Test.YtobhmonmeocfmaaFAGueMay
namespace Go.Proofs.Ytobhmonmeocfmaa.PA
open Go.RowKit Go.Proofs.YtobhmonmeocfmaaW.PrintWords Go.Proofs.YtobhmonmeocfmaaW.PrintLast Go.Proofs.YtobhmonmeocfmaaW.PrintMore
attribute [local go_sem] max2_int min2_int max_two min_two max_three min_three max_four min_four   -- for this text's walks alone
set_option linter.unusedVariables false
set_option linter.unusedSimpArgs false

/-! ### gue_Push: function 21 -/
def gue_Push.f (k : Nat) (a0_0 : Int) (a0_1 : Int) (a0_2 : Int) (a0_3 : Int) (a0_4 : Int) (a0_5 : ByteArray) : Option (ByteArray × Int) := (gue_May.f a0_0 a0_1 a0_2 a0_3 a0_4 a0_5).bind fun t153 => (if t153 = true then (if (wrap64 (36 + (a0_5.size : Int))) > 360 then (some ((⟨#[]⟩ : ByteArray), 601)) else ((ip_Bytes.f k 0 1).bind fun t154 => ((ip_Bytes.f k a0_2 1).bind fun t155 => (if t154.size + t155.size ≤ 9223372036854775807 then ((ip_Bytes.f k a0_3 1).bind fun t156 => (if (t154 ++ t155).size + t156.size ≤ 9223372036854775807 then ((ip_Bytes.f k a0_4 1).bind fun t157 => (if ((t154 ++ t155) ++ t156).size + t157.size ≤ 9223372036854775807 then ((ip_Bytes.f k (a0_5.size : Int) 2).bind fun t158 => (if (((t154 ++ t155) ++ t156) ++ t157).size + t158.size ≤ 9223372036854775807 then ((ip_Bytes.f k 0 2).bind fun t159 => (if ((((t154 ++ t155) ++ t156) ++ t157) ++ t158).size + t159.size ≤ 9223372036854775807 then (if (((((t154 ++ t155) ++ t156) ++ t157) ++ t158) ++ t159).size + a0_5.size ≤ 9223372036854775807 then ((ip_Bytes.f k 61440 2).bind fun t160 => ((ip_Bytes.f k 6080 2).bind fun t161 => (if t160.size + t161.size ≤ 9223372036854775807 then ((ip_Bytes.f k (wrap64 (8 + (((((((t154 ++ t155) ++ t156) ++ t157) ++ t158) ++ t159) ++ a0_5).size : Int))) 2).bind fun t162 => (if (t160 ++ t161).size + t162.size ≤ 9223372036854775807 then ((ip_Bytes.f k 0 2).bind fun t163 => (if ((t160 ++ t161) ++ t162).size + t163.size ≤ 9223372036854775807 then (if (((t160 ++ t161) ++ t162) ++ t163).size + ((((((t154 ++ t155) ++ t156) ++ t157) ++ t158) ++ t159) ++ a0_5).size ≤ 9223372036854775807 then ((ip_Put.f k a0_0 a0_1 17 64 0 ((((t160 ++ t161) ++ t162) ++ t163) ++ ((((((t154 ++ t155) ++ t156) ++ t157) ++ t158) ++ t159) ++ a0_5))).bind fun bt164 => (some (bt164.1, bt164.2))) else (none)) else (none))) else (none))) else (none)))) else (none)) else (none))) else (none))) else (none))) else (none))) else (none))))) else (some ((⟨#[]⟩ : ByteArray), 600)))
theorem gue_Push.mono : ∀ a0 a1 a2 a3 a4 a5 k, LeO (gue_Push.f k a0 a1 a2 a3 a4 a5) (gue_Push.f (k + 1) a0 a1 a2 a3 a4 a5) := by
  intro a0 a1 a2 a3 a4 a5 k
  unfold gue_Push.f
  repeat' first
      | (with_reducible exact ip_Bytes.mono _ _ _)
      | (with_reducible exact ip_Put.mono _ _ _ _ _ _ _)
      | (with_reducible exact LeO.refl _)
      | (with_reducible exact LeO.none _)
      | (with_reducible refine LeO.ite ?_ ?_)
      | (with_reducible refine LeO.bind ?_ (fun _ => ?_))
      | exact ip_Bytes.mono _ _ _
      | exact ip_Put.mono _ _ _ _ _ _ _
      | exact LeO.none _
      | refine LeO.ite ?_ ?_
      | refine LeO.bind ?_ (fun _ => ?_)
def gue_Push.T5 : Bool × List (List Nat × List Nat) := (true, [([], []), ([], []), ([1], [1]), ([2, 0], [2]), ([0, 3], [0, 3]), ([], []), ([5], [5]), ([6, 3], [6]), ([4, 7], [4, 7]), ([], []), ([9], [9]), ([10, 7], [10]), ([8, 11], [8, 11]), ([], []), ([13], [13]), ([14], [14]), ([15, 11], [15]), ([12, 16], [12, 16]), ([16], []), ([17, 18], [17, 18]), ([], []), ([20], [20]), ([19, 21], [19, 21]), ([22, 18, 0, 1, 2, 3, 4, 5, 6, 7, 8, 9, 10, 11, 12, 13, 14, 15, 16, 17, 18, 19, 20, 21, 22], [22])])
def gue_Push.B5 : List Nat := [0, 0, 2, 7, 15, 0, 32, 111, 255, 0, 512, 1775, 4095, 0, 8192, 24576, 61167, 131071, 126703, 524287, 0, 1048576, 4194303, 8388607]
theorem gue_Push.tab5 : rtab .any (opsOf Try.f21 5) = gue_Push.T5 := by kernel_rfl
theorem gue_Push.bits5 : waitsOk gue_Push.T5.2 gue_Push.B5 = true := by kernel_rfl
set_option maxHeartbeats 8000000 in
set_option maxRecDepth 100000 in
theorem gue_Push.calls (k : Nat) (a0_0 : Int) (a0_1 : Int) (a0_2 : Int) (a0_3 : Int) (a0_4 : Int) (a0_5 : ByteArray) (r1 : ByteArray) (r2 : Int) (w : World) (h : gue_Push.f k a0_0 a0_1 a0_2 a0_3 a0_4 a0_5 = some (r1, r2)) :
    Calls Try.prog 21 #[.agg #[.int .i64 a0_0, .int .i64 a0_1, .int .i64 a0_2, .int .i64 a0_3, .int .i64 a0_4, .string a0_5]] w fun e w' => e = .returned (.tuple #[.string r1, .int .i64 r2]) ∧ Below w.heap.size w w' := by
  have hu23 := Try.underlying23
  have hu72 := Try.underlying72
  have HB := Aside0.mk (Below.refl w.heap.size w)
  have H : ((gue_May.f a0_0 a0_1 a0_2 a0_3 a0_4 a0_5).bind fun t153 => (if t153 = true then (if (wrap64 (36 + (a0_5.size : Int))) > 360 then (some ((⟨#[]⟩ : ByteArray), 601)) else ((ip_Bytes.f k 0 1).bind fun t154 => ((ip_Bytes.f k a0_2 1).bind fun t155 => (if t154.size + t155.size ≤ 9223372036854775807 then ((ip_Bytes.f k a0_3 1).bind fun t156 => (if (t154 ++ t155).size + t156.size ≤ 9223372036854775807 then ((ip_Bytes.f k a0_4 1).bind fun t157 => (if ((t154 ++ t155) ++ t156).size + t157.size ≤ 9223372036854775807 then ((ip_Bytes.f k (a0_5.size : Int) 2).bind fun t158 => (if (((t154 ++ t155) ++ t156) ++ t157).size + t158.size ≤ 9223372036854775807 then ((ip_Bytes.f k 0 2).bind fun t159 => (if ((((t154 ++ t155) ++ t156) ++ t157) ++ t158).size + t159.size ≤ 9223372036854775807 then (if (((((t154 ++ t155) ++ t156) ++ t157) ++ t158) ++ t159).size + a0_5.size ≤ 9223372036854775807 then ((ip_Bytes.f k 61440 2).bind fun t160 => ((ip_Bytes.f k 6080 2).bind fun t161 => (if t160.size + t161.size ≤ 9223372036854775807 then ((ip_Bytes.f k (wrap64 (8 + (((((((t154 ++ t155) ++ t156) ++ t157) ++ t158) ++ t159) ++ a0_5).size : Int))) 2).bind fun t162 => (if (t160 ++ t161).size + t162.size ≤ 9223372036854775807 then ((ip_Bytes.f k 0 2).bind fun t163 => (if ((t160 ++ t161) ++ t162).size + t163.size ≤ 9223372036854775807 then (if (((t160 ++ t161) ++ t162) ++ t163).size + ((((((t154 ++ t155) ++ t156) ++ t157) ++ t158) ++ t159) ++ a0_5).size ≤ 9223372036854775807 then ((ip_Put.f k a0_0 a0_1 17 64 0 ((((t160 ++ t161) ++ t162) ++ t163) ++ ((((((t154 ++ t155) ++ t156) ++ t157) ++ t158) ++ t159) ++ a0_5))).bind fun bt164 => (some (bt164.1, bt164.2))) else (none)) else (none))) else (none))) else (none)))) else (none)) else (none))) else (none))) else (none))) else (none))) else (none))))) else (some ((⟨#[]⟩ : ByteArray), 600)))) = some (r1, r2) := h
  clear h
  replace H := Option.bind_eq_some_iff.mp H
  obtain ⟨t153, A20, H⟩ := H
  replace H : (if t153 = true then (if (wrap64 (36 + (a0_5.size : Int))) > 360 then (some ((⟨#[]⟩ : ByteArray), 601)) else ((ip_Bytes.f k 0 1).bind fun t154 => ((ip_Bytes.f k a0_2 1).bind fun t155 => (if t154.size + t155.size ≤ 9223372036854775807 then ((ip_Bytes.f k a0_3 1).bind fun t156 => (if (t154 ++ t155).size + t156.size ≤ 9223372036854775807 then ((ip_Bytes.f k a0_4 1).bind fun t157 => (if ((t154 ++ t155) ++ t156).size + t157.size ≤ 9223372036854775807 then ((ip_Bytes.f k (a0_5.size : Int) 2).bind fun t158 => (if (((t154 ++ t155) ++ t156) ++ t157).size + t158.size ≤ 9223372036854775807 then ((ip_Bytes.f k 0 2).bind fun t159 => (if ((((t154 ++ t155) ++ t156) ++ t157) ++ t158).size + t159.size ≤ 9223372036854775807 then (if (((((t154 ++ t155) ++ t156) ++ t157) ++ t158) ++ t159).size + a0_5.size ≤ 9223372036854775807 then ((ip_Bytes.f k 61440 2).bind fun t160 => ((ip_Bytes.f k 6080 2).bind fun t161 => (if t160.size + t161.size ≤ 9223372036854775807 then ((ip_Bytes.f k (wrap64 (8 + (((((((t154 ++ t155) ++ t156) ++ t157) ++ t158) ++ t159) ++ a0_5).size : Int))) 2).bind fun t162 => (if (t160 ++ t161).size + t162.size ≤ 9223372036854775807 then ((ip_Bytes.f k 0 2).bind fun t163 => (if ((t160 ++ t161) ++ t162).size + t163.size ≤ 9223372036854775807 then (if (((t160 ++ t161) ++ t162) ++ t163).size + ((((((t154 ++ t155) ++ t156) ++ t157) ++ t158) ++ t159) ++ a0_5).size ≤ 9223372036854775807 then ((ip_Put.f k a0_0 a0_1 17 64 0 ((((t160 ++ t161) ++ t162) ++ t163) ++ ((((((t154 ++ t155) ++ t156) ++ t157) ++ t158) ++ t159) ++ a0_5))).bind fun bt164 => (some (bt164.1, bt164.2))) else (none)) else (none))) else (none))) else (none)))) else (none)) else (none))) else (none))) else (none))) else (none))) else (none))))) else (some ((⟨#[]⟩ : ByteArray), 600))) = some (r1, r2) := H
  have A2 := Aside0.mk A20
  clear A20
  by_cases c3 : t153 = true
  · subst c3
    have H1 : (if (wrap64 (36 + (a0_5.size : Int))) > 360 then (some ((⟨#[]⟩ : ByteArray), 601)) else ((ip_Bytes.f k 0 1).bind fun t154 => ((ip_Bytes.f k a0_2 1).bind fun t155 => (if t154.size + t155.size ≤ 9223372036854775807 then ((ip_Bytes.f k a0_3 1).bind fun t156 => (if (t154 ++ t155).size + t156.size ≤ 9223372036854775807 then ((ip_Bytes.f k a0_4 1).bind fun t157 => (if ((t154 ++ t155) ++ t156).size + t157.size ≤ 9223372036854775807 then ((ip_Bytes.f k (a0_5.size : Int) 2).bind fun t158 => (if (((t154 ++ t155) ++ t156) ++ t157).size + t158.size ≤ 9223372036854775807 then ((ip_Bytes.f k 0 2).bind fun t159 => (if ((((t154 ++ t155) ++ t156) ++ t157) ++ t158).size + t159.size ≤ 9223372036854775807 then (if (((((t154 ++ t155) ++ t156) ++ t157) ++ t158) ++ t159).size + a0_5.size ≤ 9223372036854775807 then ((ip_Bytes.f k 61440 2).bind fun t160 => ((ip_Bytes.f k 6080 2).bind fun t161 => (if t160.size + t161.size ≤ 9223372036854775807 then ((ip_Bytes.f k (wrap64 (8 + (((((((t154 ++ t155) ++ t156) ++ t157) ++ t158) ++ t159) ++ a0_5).size : Int))) 2).bind fun t162 => (if (t160 ++ t161).size + t162.size ≤ 9223372036854775807 then ((ip_Bytes.f k 0 2).bind fun t163 => (if ((t160 ++ t161) ++ t162).size + t163.size ≤ 9223372036854775807 then (if (((t160 ++ t161) ++ t162) ++ t163).size + ((((((t154 ++ t155) ++ t156) ++ t157) ++ t158) ++ t159) ++ a0_5).size ≤ 9223372036854775807 then ((ip_Put.f k a0_0 a0_1 17 64 0 ((((t160 ++ t161) ++ t162) ++ t163) ++ ((((((t154 ++ t155) ++ t156) ++ t157) ++ t158) ++ t159) ++ a0_5))).bind fun bt164 => (some (bt164.1, bt164.2))) else (none)) else (none))) else (none))) else (none)))) else (none)) else (none))) else (none))) else (none))) else (none))) else (none))))) = some (r1, r2) := by rw [if_pos rfl] at H; exact H
    clear H
    have H := H1
    clear H1
    by_cases c4 : (wrap64 (36 + (a0_5.size : Int))) > 360
    · rw [if_pos c4] at H
      have c4b0 : decide (360 < (wrap64 (36 + (a0_5.size : Int)))) = true := decide_eq_true c4
      clear c4
      simp only [Option.some.injEq, Prod.mk.injEq] at H
      obtain ⟨rfl, rfl⟩ := H
      go_enter Try.func21, Try.ntmps21
      go_wp2_with (first | ((with_reducible refine gate_dst (N := 1) rfl ?_); refine box_event ?hg (N := 1) ?hd (cs := #[.int .i64 a0_0, .int .i64 a0_1, .int .i64 a0_2, .int .i64 a0_3, .int .i64 a0_4, .string a0_5]) (t := 23) ?hr ?_; (case hd => rfl); (case hg => rfl); (case hr => first | (go_simp; done) | (go_simp; rfl)); intro gb152 hg w5 hbox hb; have n0_ := Aside0.mk (below_step (by repeat (first | (with_reducible first | exact HB.out | apply below_alloc | apply pw_below_drewN | apply below_drew1) | exact HB.out)) hb); have n1_ := Aside0.mk (hbox); have n2_ := Aside0.mk ((by rw [hg]; exact (below_size (by repeat (first | (with_reducible first | exact HB.out | apply below_alloc | apply pw_below_drewN | apply below_drew1) | exact HB.out))) : w.heap.size ≤ gb152)); have n3_ := Aside0.mk ((by rw [hg]; exact (below_size (by repeat (first | (with_reducible first | exact HB.out | apply below_alloc | apply pw_below_drewN | apply below_drew1) | exact HB.out))) : w.heap.size ≤ gb152)); clear HB; have HB := n0_; have BK152 := n1_; have GW152 := n2_; have GE152 := n3_; clear n0_ n1_ n2_ n3_; clear hb hbox hg; have hcz6_0 : w5.cell? ⟨gb152, 0, none⟩ = some (.int .i64 a0_0) := (blk_cell BK152.out 0).trans rfl; have hcz6_1 : w5.cell? ⟨gb152, 1, none⟩ = some (.int .i64 a0_1) := (blk_cell BK152.out 1).trans rfl; have hcz6_2 : w5.cell? ⟨gb152, 2, none⟩ = some (.int .i64 a0_2) := (blk_cell BK152.out 2).trans rfl; have hcz6_3 : w5.cell? ⟨gb152, 3, none⟩ = some (.int .i64 a0_3) := (blk_cell BK152.out 3).trans rfl; have hcz6_4 : w5.cell? ⟨gb152, 4, none⟩ = some (.int .i64 a0_4) := (blk_cell BK152.out 4).trans rfl; have hcz6_5 : w5.cell? ⟨gb152, 5, none⟩ = some (.string a0_5) := (blk_cell BK152.out 5).trans rfl; have hfz6_0 := blk_frozen BK152.out 0; have hfz6_1 := blk_frozen BK152.out 1; have hfz6_2 := blk_frozen BK152.out 2; have hfz6_3 := blk_frozen BK152.out 3; have hfz6_4 := blk_frozen BK152.out 4; have hfz6_5 := blk_frozen BK152.out 5) | ((with_reducible refine gate_callee (f := 26) rfl ?_); refine goesL_ (some 8) rfl rfl Try.func26 (by kernel_rfl) rfl #[.agg #[.int .i64 a0_0, .int .i64 a0_1, .int .i64 a0_2, .int .i64 a0_3, .int .i64 a0_4, .string a0_5]] rfl (by (try simp only [List.map_toArray, List.map_cons, List.map_nil]); first | done | rfl | (simp only [List.length_drop, List.length_take]; rfl)) ?_; (with_reducible refine (gue_May.calls a0_0 a0_1 a0_2 a0_3 a0_4 a0_5 true _ A2.out).mono ?_); rintro e w7 ⟨rfl, hb⟩; refine ⟨_, rfl, ?_⟩; have n0_ := Aside0.mk (blk_below (g := gb152) (o := .cells #[.int .i64 a0_0, .int .i64 a0_1, .int .i64 a0_2, .int .i64 a0_3, .int .i64 a0_4, .string a0_5] 23 (0, 0)) (by (with_reducible repeat (first | refine blk_drewN ?_ _ | refine blk_drew ?_ | refine blk_alloc ?_ _)); exact BK152.out) hb); have n1_ := Aside0.mk (below_step (by repeat (first | (with_reducible first | exact HB.out | apply below_alloc | apply pw_below_drewN | apply below_drew1 | refine below_set ?_ GE152.out) | exact HB.out)) hb); clear BK152; clear HB; have BK152 := n0_; have HB := n1_; clear n0_ n1_; (try clear hb); (try clear hb2); (try clear hk); (try clear hi); have hcz8_0 : w7.cell? ⟨gb152, 0, none⟩ = some (.int .i64 a0_0) := (blk_cell BK152.out 0).trans rfl; have hcz8_1 : w7.cell? ⟨gb152, 1, none⟩ = some (.int .i64 a0_1) := (blk_cell BK152.out 1).trans rfl; have hcz8_2 : w7.cell? ⟨gb152, 2, none⟩ = some (.int .i64 a0_2) := (blk_cell BK152.out 2).trans rfl; have hcz8_3 : w7.cell? ⟨gb152, 3, none⟩ = some (.int .i64 a0_3) := (blk_cell BK152.out 3).trans rfl; have hcz8_4 : w7.cell? ⟨gb152, 4, none⟩ = some (.int .i64 a0_4) := (blk_cell BK152.out 4).trans rfl; have hcz8_5 : w7.cell? ⟨gb152, 5, none⟩ = some (.string a0_5) := (blk_cell BK152.out 5).trans rfl; have hfz8_0 := blk_frozen BK152.out 0; have hfz8_1 := blk_frozen BK152.out 1; have hfz8_2 := blk_frozen BK152.out 2; have hfz8_3 := blk_frozen BK152.out 3; have hfz8_4 := blk_frozen BK152.out 4; have hfz8_5 := blk_frozen BK152.out 5))
      go_ret2
      exact ⟨by first | rfl | (simp [errW_none, errW_some] <;> rfl) | (simp [*, errW_none, errW_some] <;> rfl), by repeat (first | (with_reducible first | exact HB.out | apply below_alloc | apply pw_below_drewN | apply below_drew1 | refine below_set ?_ GE152.out) | exact HB.out)⟩
    · rw [if_neg c4] at H
      have c4b0 : decide (360 < (wrap64 (36 + (a0_5.size : Int)))) = false := decide_eq_false c4
      clear c4
      replace H := Option.bind_eq_some_iff.mp H
      obtain ⟨t154, A90, H⟩ := H
      replace H : ((ip_Bytes.f k a0_2 1).bind fun t155 => (if t154.size + t155.size ≤ 9223372036854775807 then ((ip_Bytes.f k a0_3 1).bind fun t156 => (if (t154 ++ t155).size + t156.size ≤ 9223372036854775807 then ((ip_Bytes.f k a0_4 1).bind fun t157 => (if ((t154 ++ t155) ++ t156).size + t157.size ≤ 9223372036854775807 then ((ip_Bytes.f k (a0_5.size : Int) 2).bind fun t158 => (if (((t154 ++ t155) ++ t156) ++ t157).size + t158.size ≤ 9223372036854775807 then ((ip_Bytes.f k 0 2).bind fun t159 => (if ((((t154 ++ t155) ++ t156) ++ t157) ++ t158).size + t159.size ≤ 9223372036854775807 then (if (((((t154 ++ t155) ++ t156) ++ t157) ++ t158) ++ t159).size + a0_5.size ≤ 9223372036854775807 then ((ip_Bytes.f k 61440 2).bind fun t160 => ((ip_Bytes.f k 6080 2).bind fun t161 => (if t160.size + t161.size ≤ 9223372036854775807 then ((ip_Bytes.f k (wrap64 (8 + (((((((t154 ++ t155) ++ t156) ++ t157) ++ t158) ++ t159) ++ a0_5).size : Int))) 2).bind fun t162 => (if (t160 ++ t161).size + t162.size ≤ 9223372036854775807 then ((ip_Bytes.f k 0 2).bind fun t163 => (if ((t160 ++ t161) ++ t162).size + t163.size ≤ 9223372036854775807 then (if (((t160 ++ t161) ++ t162) ++ t163).size + ((((((t154 ++ t155) ++ t156) ++ t157) ++ t158) ++ t159) ++ a0_5).size ≤ 9223372036854775807 then ((ip_Put.f k a0_0 a0_1 17 64 0 ((((t160 ++ t161) ++ t162) ++ t163) ++ ((((((t154 ++ t155) ++ t156) ++ t157) ++ t158) ++ t159) ++ a0_5))).bind fun bt164 => (some (bt164.1, bt164.2))) else (none)) else (none))) else (none))) else (none)))) else (none)) else (none))) else (none))) else (none))) else (none))) else (none))) = some (r1, r2) := H
      have A9 := Aside0.mk A90
      clear A90
      replace H := Option.bind_eq_some_iff.mp H
      obtain ⟨t155, A100, H⟩ := H
      replace H : (if t154.size + t155.size ≤ 9223372036854775807 then ((ip_Bytes.f k a0_3 1).bind fun t156 => (if (t154 ++ t155).size + t156.size ≤ 9223372036854775807 then ((ip_Bytes.f k a0_4 1).bind fun t157 => (if ((t154 ++ t155) ++ t156).size + t157.size ≤ 9223372036854775807 then ((ip_Bytes.f k (a0_5.size : Int) 2).bind fun t158 => (if (((t154 ++ t155) ++ t156) ++ t157).size + t158.size ≤ 9223372036854775807 then ((ip_Bytes.f k 0 2).bind fun t159 => (if ((((t154 ++ t155) ++ t156) ++ t157) ++ t158).size + t159.size ≤ 9223372036854775807 then (if (((((t154 ++ t155) ++ t156) ++ t157) ++ t158) ++ t159).size + a0_5.size ≤ 9223372036854775807 then ((ip_Bytes.f k 61440 2).bind fun t160 => ((ip_Bytes.f k 6080 2).bind fun t161 => (if t160.size + t161.size ≤ 9223372036854775807 then ((ip_Bytes.f k (wrap64 (8 + (((((((t154 ++ t155) ++ t156) ++ t157) ++ t158) ++ t159) ++ a0_5).size : Int))) 2).bind fun t162 => (if (t160 ++ t161).size + t162.size ≤ 9223372036854775807 then ((ip_Bytes.f k 0 2).bind fun t163 => (if ((t160 ++ t161) ++ t162).size + t163.size ≤ 9223372036854775807 then (if (((t160 ++ t161) ++ t162) ++ t163).size + ((((((t154 ++ t155) ++ t156) ++ t157) ++ t158) ++ t159) ++ a0_5).size ≤ 9223372036854775807 then ((ip_Put.f k a0_0 a0_1 17 64 0 ((((t160 ++ t161) ++ t162) ++ t163) ++ ((((((t154 ++ t155) ++ t156) ++ t157) ++ t158) ++ t159) ++ a0_5))).bind fun bt164 => (some (bt164.1, bt164.2))) else (none)) else (none))) else (none))) else (none)))) else (none)) else (none))) else (none))) else (none))) else (none))) else (none)) = some (r1, r2) := H
      have A10 := Aside0.mk A100
      clear A100
      by_cases c11 : t154.size + t155.size ≤ 9223372036854775807
      · rw [if_pos c11] at H
        have c11b0 := eq_true c11
        have c11b1 : decide (t154.size + t155.size ≤ 9223372036854775807) = true := decide_eq_true c11
        try have c11b2 : (9223372036854775807 < t154.size + t155.size) = False := eq_false (Nat.not_lt.2 c11)
        replace H := Option.bind_eq_some_iff.mp H
        obtain ⟨t156, A120, H⟩ := H
        replace H : (if (t154 ++ t155).size + t156.size ≤ 9223372036854775807 then ((ip_Bytes.f k a0_4 1).bind fun t157 => (if ((t154 ++ t155) ++ t156).size + t157.size ≤ 9223372036854775807 then ((ip_Bytes.f k (a0_5.size : Int) 2).bind fun t158 => (if (((t154 ++ t155) ++ t156) ++ t157).size + t158.size ≤ 9223372036854775807 then ((ip_Bytes.f k 0 2).bind fun t159 => (if ((((t154 ++ t155) ++ t156) ++ t157) ++ t158).size + t159.size ≤ 9223372036854775807 then (if (((((t154 ++ t155) ++ t156) ++ t157) ++ t158) ++ t159).size + a0_5.size ≤ 9223372036854775807 then ((ip_Bytes.f k 61440 2).bind fun t160 => ((ip_Bytes.f k 6080 2).bind fun t161 => (if t160.size + t161.size ≤ 9223372036854775807 then ((ip_Bytes.f k (wrap64 (8 + (((((((t154 ++ t155) ++ t156) ++ t157) ++ t158) ++ t159) ++ a0_5).size : Int))) 2).bind fun t162 => (if (t160 ++ t161).size + t162.size ≤ 9223372036854775807 then ((ip_Bytes.f k 0 2).bind fun t163 => (if ((t160 ++ t161) ++ t162).size + t163.size ≤ 9223372036854775807 then (if (((t160 ++ t161) ++ t162) ++ t163).size + ((((((t154 ++ t155) ++ t156) ++ t157) ++ t158) ++ t159) ++ a0_5).size ≤ 9223372036854775807 then ((ip_Put.f k a0_0 a0_1 17 64 0 ((((t160 ++ t161) ++ t162) ++ t163) ++ ((((((t154 ++ t155) ++ t156) ++ t157) ++ t158) ++ t159) ++ a0_5))).bind fun bt164 => (some (bt164.1, bt164.2))) else (none)) else (none))) else (none))) else (none)))) else (none)) else (none))) else (none))) else (none))) else (none)) = some (r1, r2) := H
        have A12 := Aside0.mk A120
        clear A120
        by_cases c13 : (t154 ++ t155).size + t156.size ≤ 9223372036854775807
        · rw [if_pos c13] at H
          have c13b0 := eq_true c13
          have c13b1 : decide ((t154 ++ t155).size + t156.size ≤ 9223372036854775807) = true := decide_eq_true c13
          try have c13b2 : (9223372036854775807 < (t154 ++ t155).size + t156.size) = False := eq_false (Nat.not_lt.2 c13)
          have c13z := eq_false (Nat.not_lt.mpr c13)
          (try simp only [ByteArray.size_append', ByteArray.size_mk', ByteArray.size_extract, List.size_toArray, List.length_cons, List.length_nil, Nat.reduceAdd, Nat.zero_add, Nat.sub_zero, Nat.min_self] at c13z)
          replace H := Option.bind_eq_some_iff.mp H
          obtain ⟨t157, A140, H⟩ := H
          replace H : (if ((t154 ++ t155) ++ t156).size + t157.size ≤ 9223372036854775807 then ((ip_Bytes.f k (a0_5.size : Int) 2).bind fun t158 => (if (((t154 ++ t155) ++ t156) ++ t157).size + t158.size ≤ 9223372036854775807 then ((ip_Bytes.f k 0 2).bind fun t159 => (if ((((t154 ++ t155) ++ t156) ++ t157) ++ t158).size + t159.size ≤ 9223372036854775807 then (if (((((t154 ++ t155) ++ t156) ++ t157) ++ t158) ++ t159).size + a0_5.size ≤ 9223372036854775807 then ((ip_Bytes.f k 61440 2).bind fun t160 => ((ip_Bytes.f k 6080 2).bind fun t161 => (if t160.size + t161.size ≤ 9223372036854775807 then ((ip_Bytes.f k (wrap64 (8 + (((((((t154 ++ t155) ++ t156) ++ t157) ++ t158) ++ t159) ++ a0_5).size : Int))) 2).bind fun t162 => (if (t160 ++ t161).size + t162.size ≤ 9223372036854775807 then ((ip_Bytes.f k 0 2).bind fun t163 => (if ((t160 ++ t161) ++ t162).size + t163.size ≤ 9223372036854775807 then (if (((t160 ++ t161) ++ t162) ++ t163).size + ((((((t154 ++ t155) ++ t156) ++ t157) ++ t158) ++ t159) ++ a0_5).size ≤ 9223372036854775807 then ((ip_Put.f k a0_0 a0_1 17 64 0 ((((t160 ++ t161) ++ t162) ++ t163) ++ ((((((t154 ++ t155) ++ t156) ++ t157) ++ t158) ++ t159) ++ a0_5))).bind fun bt164 => (some (bt164.1, bt164.2))) else (none)) else (none))) else (none))) else (none)))) else (none)) else (none))) else (none))) else (none)) = some (r1, r2) := H
          have A14 := Aside0.mk A140
          clear A140
          by_cases c15 : ((t154 ++ t155) ++ t156).size + t157.size ≤ 9223372036854775807
          · rw [if_pos c15] at H
            have c15b0 := eq_true c15
            have c15b1 : decide (((t154 ++ t155) ++ t156).size + t157.size ≤ 9223372036854775807) = true := decide_eq_true c15
            try have c15b2 : (9223372036854775807 < ((t154 ++ t155) ++ t156).size + t157.size) = False := eq_false (Nat.not_lt.2 c15)
            have c15z := eq_false (Nat.not_lt.mpr c15)
            (try simp only [ByteArray.size_append', ByteArray.size_mk', ByteArray.size_extract, List.size_toArray, List.length_cons, List.length_nil, Nat.reduceAdd, Nat.zero_add, Nat.sub_zero, Nat.min_self] at c15z)
            replace H := Option.bind_eq_some_iff.mp H
            obtain ⟨t158, A160, H⟩ := H
            replace H : (if (((t154 ++ t155) ++ t156) ++ t157).size + t158.size ≤ 9223372036854775807 then ((ip_Bytes.f k 0 2).bind fun t159 => (if ((((t154 ++ t155) ++ t156) ++ t157) ++ t158).size + t159.size ≤ 9223372036854775807 then (if (((((t154 ++ t155) ++ t156) ++ t157) ++ t158) ++ t159).size + a0_5.size ≤ 9223372036854775807 then ((ip_Bytes.f k 61440 2).bind fun t160 => ((ip_Bytes.f k 6080 2).bind fun t161 => (if t160.size + t161.size ≤ 9223372036854775807 then ((ip_Bytes.f k (wrap64 (8 + (((((((t154 ++ t155) ++ t156) ++ t157) ++ t158) ++ t159) ++ a0_5).size : Int))) 2).bind fun t162 => (if (t160 ++ t161).size + t162.size ≤ 9223372036854775807 then ((ip_Bytes.f k 0 2).bind fun t163 => (if ((t160 ++ t161) ++ t162).size + t163.size ≤ 9223372036854775807 then (if (((t160 ++ t161) ++ t162) ++ t163).size + ((((((t154 ++ t155) ++ t156) ++ t157) ++ t158) ++ t159) ++ a0_5).size ≤ 9223372036854775807 then ((ip_Put.f k a0_0 a0_1 17 64 0 ((((t160 ++ t161) ++ t162) ++ t163) ++ ((((((t154 ++ t155) ++ t156) ++ t157) ++ t158) ++ t159) ++ a0_5))).bind fun bt164 => (some (bt164.1, bt164.2))) else (none)) else (none))) else (none))) else (none)))) else (none)) else (none))) else (none)) = some (r1, r2) := H
            have A16 := Aside0.mk A160
            clear A160
            by_cases c17 : (((t154 ++ t155) ++ t156) ++ t157).size + t158.size ≤ 9223372036854775807
            · rw [if_pos c17] at H
              have c17b0 := eq_true c17
              have c17b1 : decide ((((t154 ++ t155) ++ t156) ++ t157).size + t158.size ≤ 9223372036854775807) = true := decide_eq_true c17
              try have c17b2 : (9223372036854775807 < (((t154 ++ t155) ++ t156) ++ t157).size + t158.size) = False := eq_false (Nat.not_lt.2 c17)
              have c17z := eq_false (Nat.not_lt.mpr c17)
              (try simp only [ByteArray.size_append', ByteArray.size_mk', ByteArray.size_extract, List.size_toArray, List.length_cons, List.length_nil, Nat.reduceAdd, Nat.zero_add, Nat.sub_zero, Nat.min_self] at c17z)
              replace H := Option.bind_eq_some_iff.mp H
              obtain ⟨t159, A180, H⟩ := H
              replace H : (if ((((t154 ++ t155) ++ t156) ++ t157) ++ t158).size + t159.size ≤ 9223372036854775807 then (if (((((t154 ++ t155) ++ t156) ++ t157) ++ t158) ++ t159).size + a0_5.size ≤ 9223372036854775807 then ((ip_Bytes.f k 61440 2).bind fun t160 => ((ip_Bytes.f k 6080 2).bind fun t161 => (if t160.size + t161.size ≤ 9223372036854775807 then ((ip_Bytes.f k (wrap64 (8 + (((((((t154 ++ t155) ++ t156) ++ t157) ++ t158) ++ t159) ++ a0_5).size : Int))) 2).bind fun t162 => (if (t160 ++ t161).size + t162.size ≤ 9223372036854775807 then ((ip_Bytes.f k 0 2).bind fun t163 => (if ((t160 ++ t161) ++ t162).size + t163.size ≤ 9223372036854775807 then (if (((t160 ++ t161) ++ t162) ++ t163).size + ((((((t154 ++ t155) ++ t156) ++ t157) ++ t158) ++ t159) ++ a0_5).size ≤ 9223372036854775807 then ((ip_Put.f k a0_0 a0_1 17 64 0 ((((t160 ++ t161) ++ t162) ++ t163) ++ ((((((t154 ++ t155) ++ t156) ++ t157) ++ t158) ++ t159) ++ a0_5))).bind fun bt164 => (some (bt164.1, bt164.2))) else (none)) else (none))) else (none))) else (none)))) else (none)) else (none)) = some (r1, r2) := H
              have A18 := Aside0.mk A180
              clear A180
              by_cases c19 : ((((t154 ++ t155) ++ t156) ++ t157) ++ t158).size + t159.size ≤ 9223372036854775807
              · rw [if_pos c19] at H
                have c19b0 := eq_true c19
                have c19b1 : decide (((((t154 ++ t155) ++ t156) ++ t157) ++ t158).size + t159.size ≤ 9223372036854775807) = true := decide_eq_true c19
                try have c19b2 : (9223372036854775807 < ((((t154 ++ t155) ++ t156) ++ t157) ++ t158).size + t159.size) = False := eq_false (Nat.not_lt.2 c19)
                have c19z := eq_false (Nat.not_lt.mpr c19)
                (try simp only [ByteArray.size_append', ByteArray.size_mk', ByteArray.size_extract, List.size_toArray, List.length_cons, List.length_nil, Nat.reduceAdd, Nat.zero_add, Nat.sub_zero, Nat.min_self] at c19z)
                by_cases c20 : (((((t154 ++ t155) ++ t156) ++ t157) ++ t158) ++ t159).size + a0_5.size ≤ 9223372036854775807
                · rw [if_pos c20] at H
                  have c20b0 := eq_true c20
                  have c20b1 : decide ((((((t154 ++ t155) ++ t156) ++ t157) ++ t158) ++ t159).size + a0_5.size ≤ 9223372036854775807) = true := decide_eq_true c20
                  try have c20b2 : (9223372036854775807 < (((((t154 ++ t155) ++ t156) ++ t157) ++ t158) ++ t159).size + a0_5.size) = False := eq_false (Nat.not_lt.2 c20)
                  have c20z := eq_false (Nat.not_lt.mpr c20)
                  (try simp only [ByteArray.size_append', ByteArray.size_mk', ByteArray.size_extract, List.size_toArray, List.length_cons, List.length_nil, Nat.reduceAdd, Nat.zero_add, Nat.sub_zero, Nat.min_self] at c20z)
                  replace H := Option.bind_eq_some_iff.mp H
                  obtain ⟨t160, A210, H⟩ := H
                  replace H : ((ip_Bytes.f k 6080 2).bind fun t161 => (if t160.size + t161.size ≤ 9223372036854775807 then ((ip_Bytes.f k (wrap64 (8 + (((((((t154 ++ t155) ++ t156) ++ t157) ++ t158) ++ t159) ++ a0_5).size : Int))) 2).bind fun t162 => (if (t160 ++ t161).size + t162.size ≤ 9223372036854775807 then ((ip_Bytes.f k 0 2).bind fun t163 => (if ((t160 ++ t161) ++ t162).size + t163.size ≤ 9223372036854775807 then (if (((t160 ++ t161) ++ t162) ++ t163).size + ((((((t154 ++ t155) ++ t156) ++ t157) ++ t158) ++ t159) ++ a0_5).size ≤ 9223372036854775807 then ((ip_Put.f k a0_0 a0_1 17 64 0 ((((t160 ++ t161) ++ t162) ++ t163) ++ ((((((t154 ++ t155) ++ t156) ++ t157) ++ t158) ++ t159) ++ a0_5))).bind fun bt164 => (some (bt164.1, bt164.2))) else (none)) else (none))) else (none))) else (none))) = some (r1, r2) := H
                  have A21 := Aside0.mk A210
                  clear A210
                  replace H := Option.bind_eq_some_iff.mp H
                  obtain ⟨t161, A220, H⟩ := H
                  replace H : (if t160.size + t161.size ≤ 9223372036854775807 then ((ip_Bytes.f k (wrap64 (8 + (((((((t154 ++ t155) ++ t156) ++ t157) ++ t158) ++ t159) ++ a0_5).size : Int))) 2).bind fun t162 => (if (t160 ++ t161).size + t162.size ≤ 9223372036854775807 then ((ip_Bytes.f k 0 2).bind fun t163 => (if ((t160 ++ t161) ++ t162).size + t163.size ≤ 9223372036854775807 then (if (((t160 ++ t161) ++ t162) ++ t163).size + ((((((t154 ++ t155) ++ t156) ++ t157) ++ t158) ++ t159) ++ a0_5).size ≤ 9223372036854775807 then ((ip_Put.f k a0_0 a0_1 17 64 0 ((((t160 ++ t161) ++ t162) ++ t163) ++ ((((((t154 ++ t155) ++ t156) ++ t157) ++ t158) ++ t159) ++ a0_5))).bind fun bt164 => (some (bt164.1, bt164.2))) else (none)) else (none))) else (none))) else (none)) = some (r1, r2) := H
                  have A22 := Aside0.mk A220
                  clear A220
                  by_cases c23 : t160.size + t161.size ≤ 9223372036854775807
                  · rw [if_pos c23] at H
                    have c23b0 := eq_true c23
                    have c23b1 : decide (t160.size + t161.size ≤ 9223372036854775807) = true := decide_eq_true c23
                    try have c23b2 : (9223372036854775807 < t160.size + t161.size) = False := eq_false (Nat.not_lt.2 c23)
                    replace H := Option.bind_eq_some_iff.mp H
                    obtain ⟨t162, A240, H⟩ := H
                    replace H : (if (t160 ++ t161).size + t162.size ≤ 9223372036854775807 then ((ip_Bytes.f k 0 2).bind fun t163 => (if ((t160 ++ t161) ++ t162).size + t163.size ≤ 9223372036854775807 then (if (((t160 ++ t161) ++ t162) ++ t163).size + ((((((t154 ++ t155) ++ t156) ++ t157) ++ t158) ++ t159) ++ a0_5).size ≤ 9223372036854775807 then ((ip_Put.f k a0_0 a0_1 17 64 0 ((((t160 ++ t161) ++ t162) ++ t163) ++ ((((((t154 ++ t155) ++ t156) ++ t157) ++ t158) ++ t159) ++ a0_5))).bind fun bt164 => (some (bt164.1, bt164.2))) else (none)) else (none))) else (none)) = some (r1, r2) := H
                    have A24 := Aside0.mk A240
                    clear A240
                    by_cases c25 : (t160 ++ t161).size + t162.size ≤ 9223372036854775807
                    · rw [if_pos c25] at H
                      have c25b0 := eq_true c25
                      have c25b1 : decide ((t160 ++ t161).size + t162.size ≤ 9223372036854775807) = true := decide_eq_true c25
                      try have c25b2 : (9223372036854775807 < (t160 ++ t161).size + t162.size) = False := eq_false (Nat.not_lt.2 c25)
                      have c25z := eq_false (Nat.not_lt.mpr c25)
                      (try simp only [ByteArray.size_append', ByteArray.size_mk', ByteArray.size_extract, List.size_toArray, List.length_cons, List.length_nil, Nat.reduceAdd, Nat.zero_add, Nat.sub_zero, Nat.min_self] at c25z)
                      replace H := Option.bind_eq_some_iff.mp H
                      obtain ⟨t163, A260, H⟩ := H
                      replace H : (if ((t160 ++ t161) ++ t162).size + t163.size ≤ 9223372036854775807 then (if (((t160 ++ t161) ++ t162) ++ t163).size + ((((((t154 ++ t155) ++ t156) ++ t157) ++ t158) ++ t159) ++ a0_5).size ≤ 9223372036854775807 then ((ip_Put.f k a0_0 a0_1 17 64 0 ((((t160 ++ t161) ++ t162) ++ t163) ++ ((((((t154 ++ t155) ++ t156) ++ t157) ++ t158) ++ t159) ++ a0_5))).bind fun bt164 => (some (bt164.1, bt164.2))) else (none)) else (none)) = some (r1, r2) := H
                      have A26 := Aside0.mk A260
                      clear A260
                      by_cases c27 : ((t160 ++ t161) ++ t162).size + t163.size ≤ 9223372036854775807
                      · rw [if_pos c27] at H
                        have c27b0 := eq_true c27
                        have c27b1 : decide (((t160 ++ t161) ++ t162).size + t163.size ≤ 9223372036854775807) = true := decide_eq_true c27
                        try have c27b2 : (9223372036854775807 < ((t160 ++ t161) ++ t162).size + t163.size) = False := eq_false (Nat.not_lt.2 c27)
                        have c27z := eq_false (Nat.not_lt.mpr c27)
                        (try simp only [ByteArray.size_append', ByteArray.size_mk', ByteArray.size_extract, List.size_toArray, List.length_cons, List.length_nil, Nat.reduceAdd, Nat.zero_add, Nat.sub_zero, Nat.min_self] at c27z)
                        by_cases c28 : (((t160 ++ t161) ++ t162) ++ t163).size + ((((((t154 ++ t155) ++ t156) ++ t157) ++ t158) ++ t159) ++ a0_5).size ≤ 9223372036854775807
                        · rw [if_pos c28] at H
                          have c28b0 := eq_true c28
                          have c28b1 : decide ((((t160 ++ t161) ++ t162) ++ t163).size + ((((((t154 ++ t155) ++ t156) ++ t157) ++ t158) ++ t159) ++ a0_5).size ≤ 9223372036854775807) = true := decide_eq_true c28
                          try have c28b2 : (9223372036854775807 < (((t160 ++ t161) ++ t162) ++ t163).size + ((((((t154 ++ t155) ++ t156) ++ t157) ++ t158) ++ t159) ++ a0_5).size) = False := eq_false (Nat.not_lt.2 c28)
                          have c28z := eq_false (Nat.not_lt.mpr c28)
                          (try simp only [ByteArray.size_append', ByteArray.size_mk', ByteArray.size_extract, List.size_toArray, List.length_cons, List.length_nil, Nat.reduceAdd, Nat.zero_add, Nat.sub_zero, Nat.min_self] at c28z)
                          replace H := Option.bind_eq_some_iff.mp H
                          obtain ⟨⟨t164, t165⟩, A290, H⟩ := H
                          replace H : (some (t164, t165)) = some (r1, r2) := H
                          have A29 := Aside0.mk A290
                          clear A290
                          simp only [Option.some.injEq, Prod.mk.injEq] at H
                          obtain ⟨rfl, rfl⟩ := H
                          go_enter Try.func21, Try.ntmps21
                          try go_wp2_with (first | ((with_reducible refine gate_dst (N := 1) rfl ?_); refine box_event ?hg (N := 1) ?hd (cs := #[.int .i64 a0_0, .int .i64 a0_1, .int .i64 a0_2, .int .i64 a0_3, .int .i64 a0_4, .string a0_5]) (t := 23) ?hr ?_; (case hd => rfl); (case hg => rfl); (case hr => first | (go_simp; done) | (go_simp; rfl)); intro gb152 hg w30 hbox hb; have n0_ := Aside0.mk (below_step (by repeat (first | (with_reducible first | exact HB.out | apply below_alloc | apply pw_below_drewN | apply below_drew1) | exact HB.out)) hb); have n1_ := Aside0.mk (hbox); have n2_ := Aside0.mk ((by rw [hg]; exact (below_size (by repeat (first | (with_reducible first | exact HB.out | apply below_alloc | apply pw_below_drewN | apply below_drew1) | exact HB.out))) : w.heap.size ≤ gb152)); have n3_ := Aside0.mk ((by rw [hg]; exact (below_size (by repeat (first | (with_reducible first | exact HB.out | apply below_alloc | apply pw_below_drewN | apply below_drew1) | exact HB.out))) : w.heap.size ≤ gb152)); clear HB; have HB := n0_; have BK152 := n1_; have GW152 := n2_; have GE152 := n3_; clear n0_ n1_ n2_ n3_; clear hb hbox hg; have hcz31_0 : w30.cell? ⟨gb152, 0, none⟩ = some (.int .i64 a0_0) := (blk_cell BK152.out 0).trans rfl; have hcz31_1 : w30.cell? ⟨gb152, 1, none⟩ = some (.int .i64 a0_1) := (blk_cell BK152.out 1).trans rfl; have hcz31_2 : w30.cell? ⟨gb152, 2, none⟩ = some (.int .i64 a0_2) := (blk_cell BK152.out 2).trans rfl; have hcz31_3 : w30.cell? ⟨gb152, 3, none⟩ = some (.int .i64 a0_3) := (blk_cell BK152.out 3).trans rfl; have hcz31_4 : w30.cell? ⟨gb152, 4, none⟩ = some (.int .i64 a0_4) := (blk_cell BK152.out 4).trans rfl; have hcz31_5 : w30.cell? ⟨gb152, 5, none⟩ = some (.string a0_5) := (blk_cell BK152.out 5).trans rfl; have hfz31_0 := blk_frozen BK152.out 0; have hfz31_1 := blk_frozen BK152.out 1; have hfz31_2 := blk_frozen BK152.out 2; have hfz31_3 := blk_frozen BK152.out 3; have hfz31_4 := blk_frozen BK152.out 4; have hfz31_5 := blk_frozen BK152.out 5) | ((with_reducible refine gate_callee (f := 26) rfl ?_); refine goesL_ (some 8) rfl rfl Try.func26 (by kernel_rfl) rfl #[.agg #[.int .i64 a0_0, .int .i64 a0_1, .int .i64 a0_2, .int .i64 a0_3, .int .i64 a0_4, .string a0_5]] rfl (by (try simp only [List.map_toArray, List.map_cons, List.map_nil]); first | done | rfl | (simp only [List.length_drop, List.length_take]; rfl)) ?_; (with_reducible refine (gue_May.calls a0_0 a0_1 a0_2 a0_3 a0_4 a0_5 true _ A2.out).mono ?_); rintro e w32 ⟨rfl, hb⟩; refine ⟨_, rfl, ?_⟩; have n0_ := Aside0.mk (blk_below (g := gb152) (o := .cells #[.int .i64 a0_0, .int .i64 a0_1, .int .i64 a0_2, .int .i64 a0_3, .int .i64 a0_4, .string a0_5] 23 (0, 0)) (by (with_reducible repeat (first | refine blk_drewN ?_ _ | refine blk_drew ?_ | refine blk_alloc ?_ _)); exact BK152.out) hb); have n1_ := Aside0.mk (below_step (by repeat (first | (with_reducible first | exact HB.out | apply below_alloc | apply pw_below_drewN | apply below_drew1 | refine below_set ?_ GE152.out) | exact HB.out)) hb); clear BK152; clear HB; have BK152 := n0_; have HB := n1_; clear n0_ n1_; (try clear hb); (try clear hb2); (try clear hk); (try clear hi); have hcz33_0 : w32.cell? ⟨gb152, 0, none⟩ = some (.int .i64 a0_0) := (blk_cell BK152.out 0).trans rfl; have hcz33_1 : w32.cell? ⟨gb152, 1, none⟩ = some (.int .i64 a0_1) := (blk_cell BK152.out 1).trans rfl; have hcz33_2 : w32.cell? ⟨gb152, 2, none⟩ = some (.int .i64 a0_2) := (blk_cell BK152.out 2).trans rfl; have hcz33_3 : w32.cell? ⟨gb152, 3, none⟩ = some (.int .i64 a0_3) := (blk_cell BK152.out 3).trans rfl; have hcz33_4 : w32.cell? ⟨gb152, 4, none⟩ = some (.int .i64 a0_4) := (blk_cell BK152.out 4).trans rfl; have hcz33_5 : w32.cell? ⟨gb152, 5, none⟩ = some (.string a0_5) := (blk_cell BK152.out 5).trans rfl; have hfz33_0 := blk_frozen BK152.out 0; have hfz33_1 := blk_frozen BK152.out 1; have hfz33_2 := blk_frozen BK152.out 2; have hfz33_3 := blk_frozen BK152.out 3; have hfz33_4 := blk_frozen BK152.out 4; have hfz33_5 := blk_frozen BK152.out 5))
                          have n0_ := Aside0.mk (blk_drew BK152.out)
                          have n1_ := Aside0.mk (below_drew1 HB.out)
                          clear BK152
                          clear HB
                          have BK152 := n0_
                          have HB := n1_
                          clear n0_ n1_
                          refine start_ (n := 24) (S := fun w' => w'.cell? ⟨gb152, 0, none⟩ = some (.int .i64 a0_0) ∧ w'.cell? ⟨gb152, 1, none⟩ = some (.int .i64 a0_1) ∧ w'.cell? ⟨gb152, 2, none⟩ = some (.int .i64 a0_2) ∧ w'.cell? ⟨gb152, 3, none⟩ = some (.int .i64 a0_3) ∧ w'.cell? ⟨gb152, 4, none⟩ = some (.int .i64 a0_4) ∧ w'.cell? ⟨gb152, 5, none⟩ = some (.string a0_5)) (ds := []) #[false, false, false, false, false, false, false, false, false, false, false, false, false, false, false, false, false, false, false, false, false, false, false, false] (by kernel_rfl) rfl rfl ⟨(blk_cell BK152.out 0).trans rfl, (blk_cell BK152.out 1).trans rfl, (blk_cell BK152.out 2).trans rfl, (blk_cell BK152.out 3).trans rfl, (blk_cell BK152.out 4).trans rfl, (blk_cell BK152.out 5).trans rfl⟩ (fun hHeld => ?_); refine with_tabW gue_Push.tab5 gue_Push.bits5 (fun HT_ HW_ => ?_)
                          generalize w32.drew = w34 at BK152 HB hHeld ⊢
                          refine pure_ (i := 1) (N := some 17) (v := ?_) (a' := ?_) #[false, true, false, false, false, false, false, false, false, false, false, false, false, false, false, false, false, false, false, false, false, false, false, false] rfl rfl (any_of HT_.out (by kernel_rfl)) (fun _ _ _ h => h) (Or.inl ⟨by rfl, ?_⟩) ?_ ?_
                          rotate_left
                          · intro w'
                            go_simp
                            with_reducible rfl
                          rotate_left
                          · simp only [Act.put, List.setIfInBounds_toArray, List.set_cons_zero, List.set_cons_succ, i64_w, i32_w]
                            rfl
                          refine pure_ (i := 5) (N := some 21) (v := ?_) (a' := ?_) #[false, true, false, false, false, true, false, false, false, false, false, false, false, false, false, false, false, false, false, false, false, false, false, false] rfl rfl (any_of HT_.out (by kernel_rfl)) (fun _ _ _ h => h) (Or.inl ⟨by rfl, ?_⟩) ?_ ?_
                          rotate_left
                          · intro w'
                            go_simp
                            with_reducible rfl
                          rotate_left
                          · simp only [Act.put, List.setIfInBounds_toArray, List.set_cons_zero, List.set_cons_succ, i64_w, i32_w]
                            rfl
                          refine pure_ (i := 9) (N := some 25) (v := ?_) (a' := ?_) #[false, true, false, false, false, true, false, false, false, true, false, false, false, false, false, false, false, false, false, false, false, false, false, false] rfl rfl (any_of HT_.out (by kernel_rfl)) (fun _ _ _ h => h) (Or.inl ⟨by rfl, ?_⟩) ?_ ?_
                          rotate_left
                          · intro w'
                            go_simp
                            with_reducible rfl
                          rotate_left
                          · simp only [Act.put, List.setIfInBounds_toArray, List.set_cons_zero, List.set_cons_succ, i64_w, i32_w]
                            rfl
                          refine pure_ (i := 13) (N := some 29) (v := ?_) (a' := ?_) #[false, true, false, false, false, true, false, false, false, true, false, false, false, true, false, false, false, false, false, false, false, false, false, false] rfl rfl (any_of HT_.out (by kernel_rfl)) (fun _ _ _ h => h) (Or.inl ⟨by rfl, ?_⟩) ?_ ?_
                          rotate_left
                          · intro w'
                            go_simp
                            with_reducible rfl
                          rotate_left
                          · simp only [Act.put, List.setIfInBounds_toArray, List.set_cons_zero, List.set_cons_succ, i64_w, i32_w]
                            rfl
                          refine pure_ (i := 20) (N := some 36) (v := ?_) (a' := ?_) #[false, true, false, false, false, true, false, false, false, true, false, false, false, true, false, false, false, false, false, false, true, false, false, false] rfl rfl (any_of HT_.out (by kernel_rfl)) (fun _ _ _ h => h) (Or.inl ⟨by rfl, ?_⟩) ?_ ?_
                          rotate_left
                          · intro w'
                            go_simp
                            with_reducible rfl
                          rotate_left
                          · simp only [Act.put, List.setIfInBounds_toArray, List.set_cons_zero, List.set_cons_succ, i64_w, i32_w]
                            rfl
                          refine take_ (i := 2) (N := some 18) (v := ?_) (a' := ?_) #[false, true, true, false, false, true, false, false, false, true, false, false, false, true, false, false, false, false, false, false, true, false, false, false] rfl rfl (take_ofW HT_.out HW_.out (by kernel_rfl)) (fun _ _ _ h => h) (Or.inl ⟨by rfl, ?_⟩) hHeld ?_ ?_
                          rotate_left
                          · rintro w' ⟨s0, s1, s2, s3, s4, s5⟩
                            go_simp
                            with_reducible rfl
                          rotate_left
                          · simp only [Act.put, List.setIfInBounds_toArray, List.set_cons_zero, List.set_cons_succ, i64_w, i32_w]
                            rfl
                          refine take_ (i := 6) (N := some 22) (v := ?_) (a' := ?_) #[false, true, true, false, false, true, true, false, false, true, false, false, false, true, false, false, false, false, false, false, true, false, false, false] rfl rfl (take_ofW HT_.out HW_.out (by kernel_rfl)) (fun _ _ _ h => h) (Or.inl ⟨by rfl, ?_⟩) hHeld ?_ ?_
                          rotate_left
                          · rintro w' ⟨s0, s1, s2, s3, s4, s5⟩
                            go_simp
                            with_reducible rfl
                          rotate_left
                          · simp only [Act.put, List.setIfInBounds_toArray, List.set_cons_zero, List.set_cons_succ, i64_w, i32_w]
                            rfl
                          refine take_ (i := 10) (N := some 26) (v := ?_) (a' := ?_) #[false, true, true, false, false, true, true, false, false, true, true, false, false, true, false, false, false, false, false, false, true, false, false, false] rfl rfl (take_ofW HT_.out HW_.out (by kernel_rfl)) (fun _ _ _ h => h) (Or.inl ⟨by rfl, ?_⟩) hHeld ?_ ?_
                          rotate_left
                          · rintro w' ⟨s0, s1, s2, s3, s4, s5⟩
                            go_simp
                            with_reducible rfl
                          rotate_left
                          · simp only [Act.put, List.setIfInBounds_toArray, List.set_cons_zero, List.set_cons_succ, i64_w, i32_w]
                            rfl
                          refine take_ (i := 14) (N := some 30) (v := ?_) (a' := ?_) #[false, true, true, false, false, true, true, false, false, true, true, false, false, true, true, false, false, false, false, false, true, false, false, false] rfl rfl (take_ofW HT_.out HW_.out (by kernel_rfl)) (fun _ _ _ h => h) (Or.inl ⟨by rfl, ?_⟩) hHeld ?_ ?_
                          rotate_left
                          · rintro w' ⟨s0, s1, s2, s3, s4, s5⟩
                            go_simp
                            with_reducible rfl
                          rotate_left
                          · simp only [Act.put, List.setIfInBounds_toArray, List.set_cons_zero, List.set_cons_succ, i64_w, i32_w]
                            rfl
                          refine pure_ (i := 15) (N := some 31) (v := ?_) (a' := ?_) #[false, true, true, false, false, true, true, false, false, true, true, false, false, true, true, true, false, false, false, false, true, false, false, false] rfl rfl (any_of HT_.out (by kernel_rfl)) (fun _ _ _ h => h) (Or.inl ⟨by rfl, ?_⟩) ?_ ?_
                          rotate_left
                          · intro w'
                            go_simp
                            with_reducible rfl
                          rotate_left
                          · simp only [Act.put, List.setIfInBounds_toArray, List.set_cons_zero, List.set_cons_succ, i64_w, i32_w]
                            rfl
                          refine take_ (i := 21) (N := some 37) (v := ?_) (a' := ?_) #[false, true, true, false, false, true, true, false, false, true, true, false, false, true, true, true, false, false, false, false, true, true, false, false] rfl rfl (take_ofW HT_.out HW_.out (by kernel_rfl)) (fun _ _ _ h => h) (Or.inl ⟨by rfl, ?_⟩) hHeld ?_ ?_
                          rotate_left
                          · rintro w' ⟨s0, s1, s2, s3, s4, s5⟩
                            go_simp
                            with_reducible rfl
                          rotate_left
                          · simp only [Act.put, List.setIfInBounds_toArray, List.set_cons_zero, List.set_cons_succ, i64_w, i32_w]
                            rfl
                          refine one_ (i := 0) (N := some 16) #[true, true, true, false, false, true, true, false, false, true, true, false, false, true, true, true, false, false, false, false, true, true, false, false] rfl rfl (one_of HT_.out (by kernel_rfl)) (by decide) (fun K hK => ?_)
                          refine goes_ Try.func50 (by kernel_rfl) rfl #[.int .i64 0, .int .i64 1] (by rfl) rfl rfl (by (try simp only [List.map_toArray, List.map_cons, List.map_nil]); first | done | rfl | (simp only [List.length_drop, List.length_take]; rfl)) ?_
                          with_reducible refine (ip_Bytes.calls k 0 1 t154 _ A9.out).mono ?_
                          rintro e w35 ⟨rfl, hb⟩
                          refine ⟨_, rfl, ?_⟩
                          have n0_ := Aside0.mk (blk_below (g := gb152) (o := .cells #[.int .i64 a0_0, .int .i64 a0_1, .int .i64 a0_2, .int .i64 a0_3, .int .i64 a0_4, .string a0_5] 23 (0, 0)) (by (with_reducible repeat (first | refine blk_drewN ?_ _ | refine blk_drew ?_ | refine blk_alloc ?_ _)); exact BK152.out) hb)
                          have n1_ := Aside0.mk (below_step (by repeat (first | (with_reducible first | exact HB.out | apply below_alloc | apply pw_below_drewN | apply below_drew1 | refine below_set ?_ GE152.out) | exact HB.out)) hb)
                          clear BK152
                          clear HB
                          have BK152 := n0_
                          have HB := n1_
                          clear n0_ n1_
                          (try clear hb)
                          (try clear hb2)
                          (try clear hk)
                          (try clear hi)
                          refine hK.out _ _ ⟨(blk_cell BK152.out 0).trans rfl, (blk_cell BK152.out 1).trans rfl, (blk_cell BK152.out 2).trans rfl, (blk_cell BK152.out 3).trans rfl, (blk_cell BK152.out 4).trans rfl, (blk_cell BK152.out 5).trans rfl⟩ (fun hHeld => ?_)
                          clear hK K
                          refine norm_ (a' := ?_) ?_ ?_
                          rotate_left
                          · show Act.put _ (some 16) _ = _
                            simp only [Act.put, List.setIfInBounds_toArray, List.set_cons_zero, List.set_cons_succ, i64_w, i32_w]
                            rfl
                          refine one_ (i := 3) (N := some 19) #[true, true, true, true, false, true, true, false, false, true, true, false, false, true, true, true, false, false, false, false, true, true, false, false] rfl rfl (one_of HT_.out (by kernel_rfl)) (by decide) (fun K hK => ?_)
                          refine goes_ Try.func50 (by kernel_rfl) rfl #[.int .i64 a0_2, .int .i64 1] (by rfl) rfl rfl (by (try simp only [List.map_toArray, List.map_cons, List.map_nil]); first | done | rfl | (simp only [List.length_drop, List.length_take]; rfl)) ?_
                          with_reducible refine (ip_Bytes.calls k a0_2 1 t155 _ A10.out).mono ?_
                          rintro e w36 ⟨rfl, hb⟩
                          refine ⟨_, rfl, ?_⟩
                          have n0_ := Aside0.mk (blk_below (g := gb152) (o := .cells #[.int .i64 a0_0, .int .i64 a0_1, .int .i64 a0_2, .int .i64 a0_3, .int .i64 a0_4, .string a0_5] 23 (0, 0)) (by (with_reducible repeat (first | refine blk_drewN ?_ _ | refine blk_drew ?_ | refine blk_alloc ?_ _)); exact BK152.out) hb)
                          have n1_ := Aside0.mk (below_step (by repeat (first | (with_reducible first | exact HB.out | apply below_alloc | apply pw_below_drewN | apply below_drew1 | refine below_set ?_ GE152.out) | exact HB.out)) hb)
                          clear BK152
                          clear HB
                          have BK152 := n0_
                          have HB := n1_
                          clear n0_ n1_
                          (try clear hb)
                          (try clear hb2)
                          (try clear hk)
                          (try clear hi)
                          refine hK.out _ _ ⟨(blk_cell BK152.out 0).trans rfl, (blk_cell BK152.out 1).trans rfl, (blk_cell BK152.out 2).trans rfl, (blk_cell BK152.out 3).trans rfl, (blk_cell BK152.out 4).trans rfl, (blk_cell BK152.out 5).trans rfl⟩ (fun hHeld => ?_)
                          clear hK K
                          refine norm_ (a' := ?_) ?_ ?_
                          rotate_left
                          · show Act.put _ (some 19) _ = _
                            simp only [Act.put, List.setIfInBounds_toArray, List.set_cons_zero, List.set_cons_succ, i64_w, i32_w]
                            rfl
                          refine pure_ (i := 4) (N := some 20) (v := ?_) (a' := ?_) #[true, true, true, true, true, true, true, false, false, true, true, false, false, true, true, true, false, false, false, false, true, true, false, false] rfl rfl (any_of HT_.out (by kernel_rfl)) (fun _ _ _ h => h) (Or.inl ⟨by rfl, ?_⟩) ?_ ?_
                          rotate_left
                          · intro w'
                            go_simp
                            with_reducible rfl
                          rotate_left
                          · simp only [Act.put, List.setIfInBounds_toArray, List.set_cons_zero, List.set_cons_succ, i64_w, i32_w]
                            rfl
                          refine one_ (i := 7) (N := some 23) #[true, true, true, true, true, true, true, true, false, true, true, false, false, true, true, true, false, false, false, false, true, true, false, false] rfl rfl (one_of HT_.out (by kernel_rfl)) (by decide) (fun K hK => ?_)
                          refine goes_ Try.func50 (by kernel_rfl) rfl #[.int .i64 a0_3, .int .i64 1] (by rfl) rfl rfl (by (try simp only [List.map_toArray, List.map_cons, List.map_nil]); first | done | rfl | (simp only [List.length_drop, List.length_take]; rfl)) ?_
                          with_reducible refine (ip_Bytes.calls k a0_3 1 t156 _ A12.out).mono ?_
                          rintro e w37 ⟨rfl, hb⟩
                          refine ⟨_, rfl, ?_⟩
                          have n0_ := Aside0.mk (blk_below (g := gb152) (o := .cells #[.int .i64 a0_0, .int .i64 a0_1, .int .i64 a0_2, .int .i64 a0_3, .int .i64 a0_4, .string a0_5] 23 (0, 0)) (by (with_reducible repeat (first | refine blk_drewN ?_ _ | refine blk_drew ?_ | refine blk_alloc ?_ _)); exact BK152.out) hb)
                          have n1_ := Aside0.mk (below_step (by repeat (first | (with_reducible first | exact HB.out | apply below_alloc | apply pw_below_drewN | apply below_drew1 | refine below_set ?_ GE152.out) | exact HB.out)) hb)
                          clear BK152
                          clear HB
                          have BK152 := n0_
                          have HB := n1_
                          clear n0_ n1_
                          (try clear hb)
                          (try clear hb2)
                          (try clear hk)
                          (try clear hi)
                          refine hK.out _ _ ⟨(blk_cell BK152.out 0).trans rfl, (blk_cell BK152.out 1).trans rfl, (blk_cell BK152.out 2).trans rfl, (blk_cell BK152.out 3).trans rfl, (blk_cell BK152.out 4).trans rfl, (blk_cell BK152.out 5).trans rfl⟩ (fun hHeld => ?_)
                          clear hK K
                          refine norm_ (a' := ?_) ?_ ?_
                          rotate_left
                          · show Act.put _ (some 23) _ = _
                            simp only [Act.put, List.setIfInBounds_toArray, List.set_cons_zero, List.set_cons_succ, i64_w, i32_w]
                            rfl
                          refine pure_ (i := 8) (N := some 24) (v := ?_) (a' := ?_) #[true, true, true, true, true, true, true, true, true, true, true, false, false, true, true, true, false, false, false, false, true, true, false, false] rfl rfl (any_of HT_.out (by kernel_rfl)) (fun _ _ _ h => h) (Or.inl ⟨by rfl, ?_⟩) ?_ ?_
                          rotate_left
                          · intro w'
                            go_simp
                            with_reducible rfl
                          rotate_left
                          · simp only [Act.put, List.setIfInBounds_toArray, List.set_cons_zero, List.set_cons_succ, i64_w, i32_w]
                            rfl
                          refine one_ (i := 11) (N := some 27) #[true, true, true, true, true, true, true, true, true, true, true, true, false, true, true, true, false, false, false, false, true, true, false, false] rfl rfl (one_of HT_.out (by kernel_rfl)) (by decide) (fun K hK => ?_)
                          refine goes_ Try.func50 (by kernel_rfl) rfl #[.int .i64 a0_4, .int .i64 1] (by rfl) rfl rfl (by (try simp only [List.map_toArray, List.map_cons, List.map_nil]); first | done | rfl | (simp only [List.length_drop, List.length_take]; rfl)) ?_
                          with_reducible refine (ip_Bytes.calls k a0_4 1 t157 _ A14.out).mono ?_
                          rintro e w38 ⟨rfl, hb⟩
                          refine ⟨_, rfl, ?_⟩
                          have n0_ := Aside0.mk (blk_below (g := gb152) (o := .cells #[.int .i64 a0_0, .int .i64 a0_1, .int .i64 a0_2, .int .i64 a0_3, .int .i64 a0_4, .string a0_5] 23 (0, 0)) (by (with_reducible repeat (first | refine blk_drewN ?_ _ | refine blk_drew ?_ | refine blk_alloc ?_ _)); exact BK152.out) hb)
                          have n1_ := Aside0.mk (below_step (by repeat (first | (with_reducible first | exact HB.out | apply below_alloc | apply pw_below_drewN | apply below_drew1 | refine below_set ?_ GE152.out) | exact HB.out)) hb)
                          clear BK152
                          clear HB
                          have BK152 := n0_
                          have HB := n1_
                          clear n0_ n1_
                          (try clear hb)
                          (try clear hb2)
                          (try clear hk)
                          (try clear hi)
                          refine hK.out _ _ ⟨(blk_cell BK152.out 0).trans rfl, (blk_cell BK152.out 1).trans rfl, (blk_cell BK152.out 2).trans rfl, (blk_cell BK152.out 3).trans rfl, (blk_cell BK152.out 4).trans rfl, (blk_cell BK152.out 5).trans rfl⟩ (fun hHeld => ?_)
                          clear hK K
                          refine norm_ (a' := ?_) ?_ ?_
                          rotate_left
                          · show Act.put _ (some 27) _ = _
                            simp only [Act.put, List.setIfInBounds_toArray, List.set_cons_zero, List.set_cons_succ, i64_w, i32_w]
                            rfl
                          refine pure_ (i := 12) (N := some 28) (v := ?_) (a' := ?_) #[true, true, true, true, true, true, true, true, true, true, true, true, true, true, true, true, false, false, false, false, true, true, false, false] rfl rfl (any_of HT_.out (by kernel_rfl)) (fun _ _ _ h => h) (Or.inl ⟨by rfl, ?_⟩) ?_ ?_
                          rotate_left
                          · intro w'
                            go_simp
                            with_reducible rfl
                          rotate_left
                          · simp only [Act.put, List.setIfInBounds_toArray, List.set_cons_zero, List.set_cons_succ, i64_w, i32_w]
                            rfl
                          refine one_ (i := 16) (N := some 32) #[true, true, true, true, true, true, true, true, true, true, true, true, true, true, true, true, true, false, false, false, true, true, false, false] rfl rfl (one_of HT_.out (by kernel_rfl)) (by decide) (fun K hK => ?_)
                          refine goes_ Try.func50 (by kernel_rfl) rfl #[.int .i64 (a0_5.size : Int), .int .i64 2] (by rfl) rfl rfl (by (try simp only [List.map_toArray, List.map_cons, List.map_nil]); first | done | rfl | (simp only [List.length_drop, List.length_take]; rfl)) ?_
                          with_reducible refine (ip_Bytes.calls k (a0_5.size : Int) 2 t158 _ A16.out).mono ?_
                          rintro e w39 ⟨rfl, hb⟩
                          refine ⟨_, rfl, ?_⟩
                          have n0_ := Aside0.mk (blk_below (g := gb152) (o := .cells #[.int .i64 a0_0, .int .i64 a0_1, .int .i64 a0_2, .int .i64 a0_3, .int .i64 a0_4, .string a0_5] 23 (0, 0)) (by (with_reducible repeat (first | refine blk_drewN ?_ _ | refine blk_drew ?_ | refine blk_alloc ?_ _)); exact BK152.out) hb)
                          have n1_ := Aside0.mk (below_step (by repeat (first | (with_reducible first | exact HB.out | apply below_alloc | apply pw_below_drewN | apply below_drew1 | refine below_set ?_ GE152.out) | exact HB.out)) hb)
                          clear BK152
                          clear HB
                          have BK152 := n0_
                          have HB := n1_
                          clear n0_ n1_
                          (try clear hb)
                          (try clear hb2)
                          (try clear hk)
                          (try clear hi)
                          refine hK.out _ _ ⟨(blk_cell BK152.out 0).trans rfl, (blk_cell BK152.out 1).trans rfl, (blk_cell BK152.out 2).trans rfl, (blk_cell BK152.out 3).trans rfl, (blk_cell BK152.out 4).trans rfl, (blk_cell BK152.out 5).trans rfl⟩ (fun hHeld => ?_)
                          clear hK K
                          refine norm_ (a' := ?_) ?_ ?_
                          rotate_left
                          · show Act.put _ (some 32) _ = _
                            simp only [Act.put, List.setIfInBounds_toArray, List.set_cons_zero, List.set_cons_succ, i64_w, i32_w]
                            rfl
                          refine pure_ (i := 17) (N := some 33) (v := ?_) (a' := ?_) #[true, true, true, true, true, true, true, true, true, true, true, true, true, true, true, true, true, true, false, false, true, true, false, false] rfl rfl (any_of HT_.out (by kernel_rfl)) (fun _ _ _ h => h) (Or.inl ⟨by rfl, ?_⟩) ?_ ?_
                          rotate_left
                          · intro w'
                            go_simp
                            with_reducible rfl
                          rotate_left
                          · simp only [Act.put, List.setIfInBounds_toArray, List.set_cons_zero, List.set_cons_succ, i64_w, i32_w]
                            rfl
                          refine one_ (i := 18) (N := some 34) #[true, true, true, true, true, true, true, true, true, true, true, true, true, true, true, true, true, true, true, false, true, true, false, false] rfl rfl (one_of HT_.out (by kernel_rfl)) (by decide) (fun K hK => ?_)
                          refine goes_ Try.func50 (by kernel_rfl) rfl #[.int .i64 0, .int .i64 2] (by rfl) rfl rfl (by (try simp only [List.map_toArray, List.map_cons, List.map_nil]); first | done | rfl | (simp only [List.length_drop, List.length_take]; rfl)) ?_
                          with_reducible refine (ip_Bytes.calls k 0 2 t159 _ A18.out).mono ?_
                          rintro e w40 ⟨rfl, hb⟩
                          refine ⟨_, rfl, ?_⟩
                          have n0_ := Aside0.mk (blk_below (g := gb152) (o := .cells #[.int .i64 a0_0, .int .i64 a0_1, .int .i64 a0_2, .int .i64 a0_3, .int .i64 a0_4, .string a0_5] 23 (0, 0)) (by (with_reducible repeat (first | refine blk_drewN ?_ _ | refine blk_drew ?_ | refine blk_alloc ?_ _)); exact BK152.out) hb)
                          have n1_ := Aside0.mk (below_step (by repeat (first | (with_reducible first | exact HB.out | apply below_alloc | apply pw_below_drewN | apply below_drew1 | refine below_set ?_ GE152.out) | exact HB.out)) hb)
                          clear BK152
                          clear HB
                          have BK152 := n0_
                          have HB := n1_
                          clear n0_ n1_
                          (try clear hb)
                          (try clear hb2)
                          (try clear hk)
                          (try clear hi)
                          refine hK.out _ _ ⟨(blk_cell BK152.out 0).trans rfl, (blk_cell BK152.out 1).trans rfl, (blk_cell BK152.out 2).trans rfl, (blk_cell BK152.out 3).trans rfl, (blk_cell BK152.out 4).trans rfl, (blk_cell BK152.out 5).trans rfl⟩ (fun hHeld => ?_)
                          clear hK K
                          refine norm_ (a' := ?_) ?_ ?_
                          rotate_left
                          · show Act.put _ (some 34) _ = _
                            simp only [Act.put, List.setIfInBounds_toArray, List.set_cons_zero, List.set_cons_succ, i64_w, i32_w]
                            rfl
                          refine pure_ (i := 19) (N := some 35) (v := ?_) (a' := ?_) #[true, true, true, true, true, true, true, true, true, true, true, true, true, true, true, true, true, true, true, true, true, true, false, false] rfl rfl (any_of HT_.out (by kernel_rfl)) (fun _ _ _ h => h) (Or.inl ⟨by rfl, ?_⟩) ?_ ?_
                          rotate_left
                          · intro w'
                            go_simp
                            with_reducible rfl
                          rotate_left
                          · simp only [Act.put, List.setIfInBounds_toArray, List.set_cons_zero, List.set_cons_succ, i64_w, i32_w]
                            rfl
                          refine pure_ (i := 22) (N := some 38) (v := ?_) (a' := ?_) #[true, true, true, true, true, true, true, true, true, true, true, true, true, true, true, true, true, true, true, true, true, true, true, false] rfl rfl (any_of HT_.out (by kernel_rfl)) (fun _ _ _ h => h) (Or.inl ⟨by rfl, ?_⟩) ?_ ?_
                          rotate_left
                          · intro w'
                            go_simp
                            with_reducible rfl
                          rotate_left
                          · simp only [Act.put, List.setIfInBounds_toArray, List.set_cons_zero, List.set_cons_succ, i64_w, i32_w]
                            rfl
                          refine pure_ (i := 23) (N := some 4) (v := ?_) (a' := ?_) #[true, true, true, true, true, true, true, true, true, true, true, true, true, true, true, true, true, true, true, true, true, true, true, true] rfl rfl (any_of HT_.out (by kernel_rfl)) (fun _ _ _ h => h) (Or.inl ⟨by rfl, ?_⟩) ?_ ?_
                          rotate_left
                          · intro w'
                            go_simp
                            with_reducible rfl
                          rotate_left
                          · simp only [Act.put, List.setIfInBounds_toArray, List.set_cons_zero, List.set_cons_succ, i64_w, i32_w]
                            rfl
                          refine done_ (done_of HT_.out (by kernel_rfl)) ?_
                          try go_wp2_with (first | ((with_reducible refine gate_callee (f := 50) rfl ?_); refine goesL_ (some 39) rfl rfl Try.func50 (by kernel_rfl) rfl #[.int .i64 61440, .int .i64 2] rfl (by (try simp only [List.map_toArray, List.map_cons, List.map_nil]); first | done | rfl | (simp only [List.length_drop, List.length_take]; rfl)) ?_; (with_reducible refine (ip_Bytes.calls k 61440 2 t160 _ A21.out).mono ?_); rintro e w41 ⟨rfl, hb⟩; refine ⟨_, rfl, ?_⟩; have n0_ := Aside0.mk (blk_below (g := gb152) (o := .cells #[.int .i64 a0_0, .int .i64 a0_1, .int .i64 a0_2, .int .i64 a0_3, .int .i64 a0_4, .string a0_5] 23 (0, 0)) (by (with_reducible repeat (first | refine blk_drewN ?_ _ | refine blk_drew ?_ | refine blk_alloc ?_ _)); exact BK152.out) hb); have n1_ := Aside0.mk (below_step (by repeat (first | (with_reducible first | exact HB.out | apply below_alloc | apply pw_below_drewN | apply below_drew1 | refine below_set ?_ GE152.out) | exact HB.out)) hb); clear BK152; clear HB; have BK152 := n0_; have HB := n1_; clear n0_ n1_; (try clear hb); (try clear hb2); (try clear hk); (try clear hi)) | ((with_reducible refine gate_callee (f := 50) rfl ?_); refine goesL_ (some 40) rfl rfl Try.func50 (by kernel_rfl) rfl #[.int .i64 6080, .int .i64 2] rfl (by (try simp only [List.map_toArray, List.map_cons, List.map_nil]); first | done | rfl | (simp only [List.length_drop, List.length_take]; rfl)) ?_; (with_reducible refine (ip_Bytes.calls k 6080 2 t161 _ A22.out).mono ?_); rintro e w42 ⟨rfl, hb⟩; refine ⟨_, rfl, ?_⟩; have n0_ := Aside0.mk (blk_below (g := gb152) (o := .cells #[.int .i64 a0_0, .int .i64 a0_1, .int .i64 a0_2, .int .i64 a0_3, .int .i64 a0_4, .string a0_5] 23 (0, 0)) (by (with_reducible repeat (first | refine blk_drewN ?_ _ | refine blk_drew ?_ | refine blk_alloc ?_ _)); exact BK152.out) hb); have n1_ := Aside0.mk (below_step (by repeat (first | (with_reducible first | exact HB.out | apply below_alloc | apply pw_below_drewN | apply below_drew1 | refine below_set ?_ GE152.out) | exact HB.out)) hb); clear BK152; clear HB; have BK152 := n0_; have HB := n1_; clear n0_ n1_; (try clear hb); (try clear hb2); (try clear hk); (try clear hi)) | ((with_reducible refine gate_callee (f := 50) rfl ?_); refine goesL_ (some 45) rfl rfl Try.func50 (by kernel_rfl) rfl #[.int .i64 (wrap64 (8 + ((t154.size : Int) + (t155.size : Int) + (t156.size : Int) + (t157.size : Int) + (t158.size : Int) + (t159.size : Int) + (a0_5.size : Int)))), .int .i64 2] rfl (by (try simp only [List.map_toArray, List.map_cons, List.map_nil]); first | done | rfl | (simp only [List.length_drop, List.length_take]; rfl)) ?_; (with_reducible refine (ip_Bytes.calls k (wrap64 (8 + ((t154.size : Int) + (t155.size : Int) + (t156.size : Int) + (t157.size : Int) + (t158.size : Int) + (t159.size : Int) + (a0_5.size : Int)))) 2 t162 _ (by have h_ := A24.out; simpa only [ByteArray.size_append, Int.natCast_add] using h_)).mono ?_); rintro e w43 ⟨rfl, hb⟩; refine ⟨_, rfl, ?_⟩; have n0_ := Aside0.mk (blk_below (g := gb152) (o := .cells #[.int .i64 a0_0, .int .i64 a0_1, .int .i64 a0_2, .int .i64 a0_3, .int .i64 a0_4, .string a0_5] 23 (0, 0)) (by (with_reducible repeat (first | refine blk_drewN ?_ _ | refine blk_drew ?_ | refine blk_alloc ?_ _)); exact BK152.out) hb); have n1_ := Aside0.mk (below_step (by repeat (first | (with_reducible first | exact HB.out | apply below_alloc | apply pw_below_drewN | apply below_drew1 | refine below_set ?_ GE152.out) | exact HB.out)) hb); clear BK152; clear HB; have BK152 := n0_; have HB := n1_; clear n0_ n1_; (try clear hb); (try clear hb2); (try clear hk); (try clear hi)) | ((with_reducible refine gate_callee (f := 50) rfl ?_); refine goesL_ (some 47) rfl rfl Try.func50 (by kernel_rfl) rfl #[.int .i64 0, .int .i64 2] rfl (by (try simp only [List.map_toArray, List.map_cons, List.map_nil]); first | done | rfl | (simp only [List.length_drop, List.length_take]; rfl)) ?_; (with_reducible refine (ip_Bytes.calls k 0 2 t163 _ A26.out).mono ?_); rintro e w44 ⟨rfl, hb⟩; refine ⟨_, rfl, ?_⟩; have n0_ := Aside0.mk (blk_below (g := gb152) (o := .cells #[.int .i64 a0_0, .int .i64 a0_1, .int .i64 a0_2, .int .i64 a0_3, .int .i64 a0_4, .string a0_5] 23 (0, 0)) (by (with_reducible repeat (first | refine blk_drewN ?_ _ | refine blk_drew ?_ | refine blk_alloc ?_ _)); exact BK152.out) hb); have n1_ := Aside0.mk (below_step (by repeat (first | (with_reducible first | exact HB.out | apply below_alloc | apply pw_below_drewN | apply below_drew1 | refine below_set ?_ GE152.out) | exact HB.out)) hb); clear BK152; clear HB; have BK152 := n0_; have HB := n1_; clear n0_ n1_; (try clear hb); (try clear hb2); (try clear hk); (try clear hi); have hcz45_0 : w44.cell? ⟨gb152, 0, none⟩ = some (.int .i64 a0_0) := (blk_cell BK152.out 0).trans rfl; have hcz45_1 : w44.cell? ⟨gb152, 1, none⟩ = some (.int .i64 a0_1) := (blk_cell BK152.out 1).trans rfl; have hcz45_2 : w44.cell? ⟨gb152, 2, none⟩ = some (.int .i64 a0_2) := (blk_cell BK152.out 2).trans rfl; have hcz45_3 : w44.cell? ⟨gb152, 3, none⟩ = some (.int .i64 a0_3) := (blk_cell BK152.out 3).trans rfl; have hcz45_4 : w44.cell? ⟨gb152, 4, none⟩ = some (.int .i64 a0_4) := (blk_cell BK152.out 4).trans rfl; have hcz45_5 : w44.cell? ⟨gb152, 5, none⟩ = some (.string a0_5) := (blk_cell BK152.out 5).trans rfl; have hfz45_0 := blk_frozen BK152.out 0; have hfz45_1 := blk_frozen BK152.out 1; have hfz45_2 := blk_frozen BK152.out 2; have hfz45_3 := blk_frozen BK152.out 3; have hfz45_4 := blk_frozen BK152.out 4; have hfz45_5 := blk_frozen BK152.out 5) | ((with_reducible refine gate_callee (f := 51) rfl ?_); refine goesL_ (some 57) rfl rfl Try.func51 (by kernel_rfl) rfl #[.agg #[.int .i64 a0_0, .int .i64 a0_1, .int .i64 17, .int .i64 64, .int .i64 0, .string ((((t160 ++ t161) ++ t162) ++ t163) ++ ((((((t154 ++ t155) ++ t156) ++ t157) ++ t158) ++ t159) ++ a0_5))]] rfl (by (try simp only [List.map_toArray, List.map_cons, List.map_nil]); first | done | rfl | (simp only [List.length_drop, List.length_take]; rfl)) ?_; (with_reducible refine (ip_Put.calls k a0_0 a0_1 17 64 0 ((((t160 ++ t161) ++ t162) ++ t163) ++ ((((((t154 ++ t155) ++ t156) ++ t157) ++ t158) ++ t159) ++ a0_5)) t164 t165 _ A29.out).mono ?_); rintro e w46 ⟨rfl, hb⟩; refine ⟨_, rfl, ?_⟩; have n0_ := Aside0.mk (blk_below (g := gb152) (o := .cells #[.int .i64 a0_0, .int .i64 a0_1, .int .i64 a0_2, .int .i64 a0_3, .int .i64 a0_4, .string a0_5] 23 (0, 0)) (by (with_reducible repeat (first | refine blk_drewN ?_ _ | refine blk_drew ?_ | refine blk_alloc ?_ _)); exact BK152.out) hb); have n1_ := Aside0.mk (below_step (by repeat (first | (with_reducible first | exact HB.out | apply below_alloc | apply pw_below_drewN | apply below_drew1 | refine below_set ?_ GE152.out) | exact HB.out)) hb); clear BK152; clear HB; have BK152 := n0_; have HB := n1_; clear n0_ n1_; (try clear hb); (try clear hb2); (try clear hk); (try clear hi)))
                          go_ret2
                          exact ⟨by first | rfl | (simp [errW_none, errW_some] <;> rfl) | (simp [*, errW_none, errW_some] <;> rfl), by repeat (first | (with_reducible first | exact HB.out | apply below_alloc | apply pw_below_drewN | apply below_drew1 | refine below_set ?_ GE152.out) | exact HB.out)⟩
                        · rw [if_neg c28] at H
                          exact absurd H (by simp)
                      · rw [if_neg c27] at H
                        exact absurd H (by simp)
                    · rw [if_neg c25] at H
                      exact absurd H (by simp)
                  · rw [if_neg c23] at H
                    exact absurd H (by simp)
                · rw [if_neg c20] at H
                  exact absurd H (by simp)
              · rw [if_neg c19] at H
                exact absurd H (by simp)
            · rw [if_neg c17] at H
              exact absurd H (by simp)
          · rw [if_neg c15] at H
            exact absurd H (by simp)
        · rw [if_neg c13] at H
          exact absurd H (by simp)
      · rw [if_neg c11] at H
        exact absurd H (by simp)
  · replace c3 := Bool.eq_false_iff.mpr c3
    subst c3
    have H1 : (some ((⟨#[]⟩ : ByteArray), 600)) = some (r1, r2) := by rw [if_neg (show ¬ (false = true) by decide)] at H; exact H
    clear H
    have H := H1
    clear H1
    simp only [Option.some.injEq, Prod.mk.injEq] at H
    obtain ⟨rfl, rfl⟩ := H
    go_enter Try.func21, Try.ntmps21
    go_wp2_with (first | ((with_reducible refine gate_dst (N := 1) rfl ?_); refine box_event ?hg (N := 1) ?hd (cs := #[.int .i64 a0_0, .int .i64 a0_1, .int .i64 a0_2, .int .i64 a0_3, .int .i64 a0_4, .string a0_5]) (t := 23) ?hr ?_; (case hd => rfl); (case hg => rfl); (case hr => first | (go_simp; done) | (go_simp; rfl)); intro gb152 hg w47 hbox hb; have n0_ := Aside0.mk (below_step (by repeat (first | (with_reducible first | exact HB.out | apply below_alloc | apply pw_below_drewN | apply below_drew1) | exact HB.out)) hb); have n1_ := Aside0.mk (hbox); have n2_ := Aside0.mk ((by rw [hg]; exact (below_size (by repeat (first | (with_reducible first | exact HB.out | apply below_alloc | apply pw_below_drewN | apply below_drew1) | exact HB.out))) : w.heap.size ≤ gb152)); have n3_ := Aside0.mk ((by rw [hg]; exact (below_size (by repeat (first | (with_reducible first | exact HB.out | apply below_alloc | apply pw_below_drewN | apply below_drew1) | exact HB.out))) : w.heap.size ≤ gb152)); clear HB; have HB := n0_; have BK152 := n1_; have GW152 := n2_; have GE152 := n3_; clear n0_ n1_ n2_ n3_; clear hb hbox hg; have hcz48_0 : w47.cell? ⟨gb152, 0, none⟩ = some (.int .i64 a0_0) := (blk_cell BK152.out 0).trans rfl; have hcz48_1 : w47.cell? ⟨gb152, 1, none⟩ = some (.int .i64 a0_1) := (blk_cell BK152.out 1).trans rfl; have hcz48_2 : w47.cell? ⟨gb152, 2, none⟩ = some (.int .i64 a0_2) := (blk_cell BK152.out 2).trans rfl; have hcz48_3 : w47.cell? ⟨gb152, 3, none⟩ = some (.int .i64 a0_3) := (blk_cell BK152.out 3).trans rfl; have hcz48_4 : w47.cell? ⟨gb152, 4, none⟩ = some (.int .i64 a0_4) := (blk_cell BK152.out 4).trans rfl; have hcz48_5 : w47.cell? ⟨gb152, 5, none⟩ = some (.string a0_5) := (blk_cell BK152.out 5).trans rfl; have hfz48_0 := blk_frozen BK152.out 0; have hfz48_1 := blk_frozen BK152.out 1; have hfz48_2 := blk_frozen BK152.out 2; have hfz48_3 := blk_frozen BK152.out 3; have hfz48_4 := blk_frozen BK152.out 4; have hfz48_5 := blk_frozen BK152.out 5) | ((with_reducible refine gate_callee (f := 26) rfl ?_); refine goesL_ (some 8) rfl rfl Try.func26 (by kernel_rfl) rfl #[.agg #[.int .i64 a0_0, .int .i64 a0_1, .int .i64 a0_2, .int .i64 a0_3, .int .i64 a0_4, .string a0_5]] rfl (by (try simp only [List.map_toArray, List.map_cons, List.map_nil]); first | done | rfl | (simp only [List.length_drop, List.length_take]; rfl)) ?_; (with_reducible refine (gue_May.calls a0_0 a0_1 a0_2 a0_3 a0_4 a0_5 false _ A2.out).mono ?_); rintro e w49 ⟨rfl, hb⟩; refine ⟨_, rfl, ?_⟩; have n0_ := Aside0.mk (blk_below (g := gb152) (o := .cells #[.int .i64 a0_0, .int .i64 a0_1, .int .i64 a0_2, .int .i64 a0_3, .int .i64 a0_4, .string a0_5] 23 (0, 0)) (by (with_reducible repeat (first | refine blk_drewN ?_ _ | refine blk_drew ?_ | refine blk_alloc ?_ _)); exact BK152.out) hb); have n1_ := Aside0.mk (below_step (by repeat (first | (with_reducible first | exact HB.out | apply below_alloc | apply pw_below_drewN | apply below_drew1 | refine below_set ?_ GE152.out) | exact HB.out)) hb); clear BK152; clear HB; have BK152 := n0_; have HB := n1_; clear n0_ n1_; (try clear hb); (try clear hb2); (try clear hk); (try clear hi)))
    go_ret2
    exact ⟨by first | rfl | (simp [errW_none, errW_some] <;> rfl) | (simp [*, errW_none, errW_some] <;> rfl), by repeat (first | (with_reducible first | exact HB.out | apply below_alloc | apply pw_below_drewN | apply below_drew1 | refine below_set ?_ GE152.out) | exact HB.out)⟩

end Go.Proofs.Ytobhmonmeocfmaa.PA
