import Derived.Test.YtobhmonmeocfmaaPureSegBack
import Derived.Test.YtobhmonmeocfmaaFAWharfagelaw3Awake
namespace Go.Proofs.Ytobhmonmeocfmaa.PA
set_option linter.unusedSimpArgs false
set_option linter.unusedVariables false
open Go Go.RowKit Go.Proofs.YtobhmonmeocfmaaW.PrintWords Go.Proofs.YtobhmonmeocfmaaW.PrintLast Go.Proofs.YtobhmonmeocfmaaW.PrintMore Go.Proofs.Ytobhmonmeocfmaa.Wh Go.Proofs.Ytobhmonmeocfmaa.Pure
attribute [local go_sem high] eqA44
theorem awake3B : wharfagelaw3_awake.f 700 = some true := by decide +kernel
theorem tmod_range (x n : Int) (hn : 0 < n) (hm : n ≤ 1000) : 0 ≤ wrap64 (Int.tmod (IntKind.u64.wrap x) n) ∧ wrap64 (Int.tmod (IntKind.u64.wrap x) n) < n := by
  rw [u64_wrap]
  have h1 : 0 ≤ x % 18446744073709551616 := Int.emod_nonneg _ (by decide)
  rw [Int.tmod_eq_emod_of_nonneg h1]
  have h2 := Int.emod_nonneg (x % 18446744073709551616) (show n ≠ 0 by omega)
  have h3 := Int.emod_lt_of_pos (x % 18446744073709551616) hn
  rw [wrap64_id (by omega) (by omega)]
  exact ⟨h2, h3⟩
set_option maxHeartbeats 8000000 in
set_option maxRecDepth 100000 in
theorem wharfagelaw3_SegBack.calls (a0_0 a0_1 a0_2 a0_3 a0_4 a0_5 : Int) (a0_6 : ByteArray) (a1 a2 a3 a4 : Int) (r : Bool) (w : World) (h : true = r) :
    Calls Try.prog 9 #[.agg #[.int .i64 a0_0, .int .i64 a0_1, .int .i64 a0_2, .int .i64 a0_3, .int .i64 a0_4, .int .i64 a0_5, .string a0_6], .int .i64 a1, .int .i64 a2, .int .i64 a3, .int .i64 a4] w fun e w' => e = .returned (.bool r) ∧ Below w.heap.size w w' := by
  subst h
  have HB := Aside0.mk (Below.refl w.heap.size w)
  have hu44 := Try.underlying44
  have AW := Aside0.mk awake3B
  go_enter Try.func9, Try.ntmps9
  go_upto_region 4 with (first
    | (go_at_call 35; refine (wharfagelaw3_awake.calls 700 true _ AW.out).mono ?_; rintro e w1 ⟨rfl, hb1⟩; have P1 := Aside0.mk (blk_below (heap_alloc_new w (.cells #[.int .i64 a0_0, .int .i64 a0_1, .int .i64 a0_2, .int .i64 a0_3, .int .i64 a0_4, .int .i64 a0_5, .string a0_6] 44)) hb1); have B1 := Aside0.mk (below_then (below_alloc HB.out _) (below_alloc HB.out _).size hb1); clear hb1))
  obtain ⟨A, hA, hA0, hA1⟩ : ∃ A, IntKind.u64.wrap a1 % 4294967296 = A ∧ 0 ≤ A ∧ A < 4294967296 := ⟨_, rfl, by omega, by omega⟩
  obtain ⟨B, hB, hB0, hB1⟩ : ∃ B, IntKind.u64.wrap a2 % 4294967296 = B ∧ 0 ≤ B ∧ B < 4294967296 := ⟨_, rfl, by omega, by omega⟩
  rw [hA, hB]
  have he : mayE A B = true := by simp [mayE]; omega
  clear hA hB hA0 hA1 hB0 hB1
  have q0 : w1.cell? ⟨w.heap.size, 0, none⟩ = some (.int .i64 a0_0) := (blk_cell P1.out 0).trans rfl
  have q1 : w1.cell? ⟨w.heap.size, 1, none⟩ = some (.int .i64 a0_1) := (blk_cell P1.out 1).trans rfl
  have q2 : w1.cell? ⟨w.heap.size, 2, none⟩ = some (.int .i64 a0_2) := (blk_cell P1.out 2).trans rfl
  have q3 : w1.cell? ⟨w.heap.size, 3, none⟩ = some (.int .i64 a0_3) := (blk_cell P1.out 3).trans rfl
  have q4 : w1.cell? ⟨w.heap.size, 4, none⟩ = some (.int .i64 a0_4) := (blk_cell P1.out 4).trans rfl
  have q5 : w1.cell? ⟨w.heap.size, 5, none⟩ = some (.int .i64 a0_5) := (blk_cell P1.out 5).trans rfl
  have q6 : w1.cell? ⟨w.heap.size, 6, none⟩ = some (.string a0_6) := (blk_cell P1.out 6).trans rfl
  by_cases hm : mayS a0_0 a0_1 a0_2 a0_3 a0_4 a0_5 a0_6 = true
  rotate_left
  · have AP := Aside0.mk (SegPut_bad 700 (by decide) (.inl (by simpa using hm) : mayS a0_0 a0_1 a0_2 a0_3 a0_4 a0_5 a0_6 = false ∨ mayE A B = false))
    clear hm he
    go_wp2_with fail
    refine (seg_Put.calls 700 _ _ _ _ _ _ _ _ _ _ _ _ AP.out).mono ?_
    rintro e w2 ⟨rfl, hb2⟩
    have B2 := Aside0.mk (below_then B1.out B1.out.size hb2)
    clear hb2 q0 q1 q2 q3 q4 q5 q6
    go_wp2_with (first | (go_at_call 25; refine (wharfagelaw0_Num.calls _ _ _ rfl).mono ?_; rintro e w3 ⟨rfl, ⟨nd, rfl⟩⟩))
    go_ret
    exact ⟨by first | rfl | (rw [empty_toList]; rfl) | (simp [empty_toList]), pw_below_drewN B2.out _⟩
  · obtain ⟨s, hs⟩ : ∃ s, putS a0_0 a0_1 a0_2 a0_3 a0_4 a0_5 a0_6 A B = s := ⟨_, rfl⟩
    have AP := Aside0.mk (SegPut_ok 700 (by decide) hm he)
    have AG := Aside0.mk ((SegGet_eq 700 (by decide) a0_0 (putS a0_0 a0_1 a0_2 a0_3 a0_4 a0_5 a0_6 A B) A B).trans (congrArg some (get_putS hm he)))
    have hz : 8 ≤ s.size ∧ s.size ≤ 276 := by
      rw [← hs]; unfold putS; rw [textS_size]
      have := (mayS_parts hm).2.2.1
      by_cases e : a0_0 = 6 <;> simp [e] <;> omega
    have hbk := fun i hi x hx => segback_pure hm A B i hi x hx
    rw [hs] at AP AG hbk
    have c8 : (s.size < 8) = False := eq_false (by omega)
    have c8b : decide ((s.size : Int) < 8) = false := decide_eq_false (by omega)
    replace hz := Aside0.mk hz
    replace hbk := Aside0.mk hbk
    clear hm hs he
    go_wp2_with fail
    refine (seg_Put.calls 700 _ _ _ _ _ _ _ _ _ _ _ _ AP.out).mono ?_
    rintro e w2 ⟨rfl, hb2⟩
    have P2 := Aside0.mk (blk_below P1.out hb2)
    have B2 := Aside0.mk (below_then B1.out B1.out.size hb2)
    have p2 : w2.cell? ⟨w.heap.size, 0, none⟩ = some (.int .i64 a0_0) := (blk_cell P2.out 0).trans rfl
    clear hb2 q0 q1 q2 q3 q4 q5 q6
    go_upto_region 8 with (first | (go_at_call 25; refine (wharfagelaw0_Num.calls _ _ _ rfl).mono ?_; rintro e w3 ⟨rfl, ⟨nd, rfl⟩⟩) | (go_at_call 31; refine (seg_Get.calls 700 _ _ _ _ _ _ _ _ _ _ _ _ _ AG.out).mono ?_; rintro e w3 ⟨rfl, hb3⟩; have P3 := Aside0.mk (blk_below (blk_drewN P2.out nd) hb3); have B3 := Aside0.mk (below_then (pw_below_drewN B2.out nd) (pw_below_drewN B2.out nd).size hb3); clear hb3))
    have P4 := Aside0.mk (blk_alloc P3.out (.cells #[.int .i64 a0_0, .int .i64 a0_1, .int .i64 a0_2, .int .i64 a0_3, .int .i64 a0_4, .int .i64 a0_5, .string a0_6] 44))
    have Q4 := Aside0.mk (heap_alloc_new w3 (.cells #[.int .i64 a0_0, .int .i64 a0_1, .int .i64 a0_2, .int .i64 a0_3, .int .i64 a0_4, .int .i64 a0_5, .string a0_6] 44))
    have B4 := Aside0.mk (below_alloc B3.out (.cells #[.int .i64 a0_0, .int .i64 a0_1, .int .i64 a0_2, .int .i64 a0_3, .int .i64 a0_4, .int .i64 a0_5, .string a0_6] 44))
    generalize w3.alloc (.cells #[.int .i64 a0_0, .int .i64 a0_1, .int .i64 a0_2, .int .i64 a0_3, .int .i64 a0_4, .int .i64 a0_5, .string a0_6] 44) = W at P4 Q4 B4 ⊢
    generalize w3.heap.size = g9 at Q4 ⊢
    clear p2
    have hcv := row_run (P := Try.prog) W 9 37 5 s Try.underlying9 Try.underlying37 Try.underlying5
    have hu : IntKind.u64.wrap (s.size : Int) = (s.size : Int) := by have := hz.out; rw [u64_wrap]; omega
    have z1 : ((s.size : Int) = 0) = False := eq_false (by have := hz.out; omega)
    have z2 : (s.size = 0) = False := eq_false (by have := hz.out; omega)
    have z3 : ¬ s = ByteArray.empty := by rintro rfl; exact absurd hz.out.1 (by decide)
    obtain ⟨i, hi, hlt⟩ : ∃ i : Nat, wrap64 (Int.tmod (IntKind.u64.wrap a3) (s.size : Int)) = (i : Int) ∧ i < s.size := by
      have := hz.out
      have h := tmod_range a3 (s.size : Int) (by omega) (by omega)
      exact ⟨(wrap64 (Int.tmod (IntKind.u64.wrap a3) (s.size : Int))).toNat, by omega, by omega⟩
    go_upto_region 10 with (fail)
    rw [hi]
    have g0 : (0 ≤ (i : Int)) = True := eq_true (by omega)
    have g1 : ((i : Int) < (s.size : Int)) = True := eq_true (by omega)
    have l0 : (rowW W 5 s).cell? ⟨W.heap.size, i, none⟩ = some (.int .u8 (bt s i)) := rowW_bt W 5 s i hlt
    have f0 : (rowW W 5 s).frozen? ⟨W.heap.size, i, none⟩ = false := rowW_frozen W 5 s i hlt
    go_upto_region 11 with (fail)
    obtain ⟨x, hx, hne⟩ := xor_byte (bt s i) (wrap64 (1 + Go.bits .and .i64 a4 127) % 256) (bt_range s i) (by rw [and_127, wrap64_id (by omega) (by omega)]; omega)
    rw [hx]
    have hback := turn_back (P := Try.prog) W 37 9 5 s i (grownCap W s.size 0 5) x hlt Try.underlying37 Try.underlying5 Try.underlying9
    have P6 : Aside0 (((rowW W 5 s).setCell ⟨W.heap.size, i, none⟩ (.int .u8 (x.toNat : Int))).heap[w.heap.size]? = some (.cells #[.int .i64 a0_0, .int .i64 a0_1, .int .i64 a0_2, .int .i64 a0_3, .int .i64 a0_4, .int .i64 a0_5, .string a0_6] 44)) := Aside0.mk (blk_far (blk_alloc (blk_drew P4.out) _ : (rowW W 5 s).heap[w.heap.size]? = some (.cells #[.int .i64 a0_0, .int .i64 a0_1, .int .i64 a0_2, .int .i64 a0_3, .int .i64 a0_4, .int .i64 a0_5, .string a0_6] 44)) (p := ⟨W.heap.size, i, none⟩) (Nat.ne_of_lt (blk_lt P4.out)) (.int .u8 (x.toNat : Int)))
    have Q6 : Aside0 (((rowW W 5 s).setCell ⟨W.heap.size, i, none⟩ (.int .u8 (x.toNat : Int))).heap[g9]? = some (.cells #[.int .i64 a0_0, .int .i64 a0_1, .int .i64 a0_2, .int .i64 a0_3, .int .i64 a0_4, .int .i64 a0_5, .string a0_6] 44)) := Aside0.mk (blk_far (blk_alloc (blk_drew Q4.out) _ : (rowW W 5 s).heap[g9]? = some (.cells #[.int .i64 a0_0, .int .i64 a0_1, .int .i64 a0_2, .int .i64 a0_3, .int .i64 a0_4, .int .i64 a0_5, .string a0_6] 44)) (p := ⟨W.heap.size, i, none⟩) (Nat.ne_of_lt (blk_lt Q4.out)) (.int .u8 (x.toNat : Int)))
    have B6 : Aside0 (Below w.heap.size w ((rowW W 5 s).setCell ⟨W.heap.size, i, none⟩ (.int .u8 (x.toNat : Int)))) := Aside0.mk (below_set (rowW_below B4.out 5 s) B4.out.size (j := i) (v := .int .u8 (x.toNat : Int)))
    have R6 : Aside0 (((rowW W 5 s).setCell ⟨W.heap.size, i, none⟩ (.int .u8 (x.toNat : Int))).cell? ⟨W.heap.size, 6, none⟩ = some (.int .u8 (bt (turnS s i x) 6))) := Aside0.mk (row_turned W 5 s i 6 x hlt (by have := hz.out; omega))
    have R7 : Aside0 (((rowW W 5 s).setCell ⟨W.heap.size, i, none⟩ (.int .u8 (x.toNat : Int))).cell? ⟨W.heap.size, 7, none⟩ = some (.int .u8 (bt (turnS s i x) 7))) := Aside0.mk (row_turned W 5 s i 7 x hlt (by have := hz.out; omega))
    generalize ((rowW W 5 s).setCell ⟨W.heap.size, i, none⟩ (.int .u8 (x.toNat : Int))) = W6 at hback P6 Q6 B6 R6 R7 ⊢
    generalize W.heap.size = gr at hback R6 R7 ⊢
    have p6 : W6.cell? ⟨w.heap.size, 0, none⟩ = some (.int .i64 a0_0) := (blk_cell P6.out 0).trans rfl
    have hbad := hbk.out i hlt x hne
    clear hcv hx hne l0 f0 hi g0 g1
    rcases hbad with hG | ⟨h17, h6, h7, r1, r2, r3, r4, r5, r6, r7, hG⟩
    · unfold badS at hG
      have AG2 := Aside0.mk ((SegGet_eq 700 (by decide) a0_0 (turnS s i x) A B).trans (congrArg some hG))
      go_wp2_with fail
      refine (seg_Get.calls 700 _ _ _ _ _ _ _ _ _ _ _ _ _ AG2.out).mono ?_
      rintro e w7 ⟨rfl, hb7⟩
      have P7 := Aside0.mk (blk_below P6.out hb7)
      have Q7 := Aside0.mk (blk_below Q6.out hb7)
      have B7 := Aside0.mk (below_then B6.out B6.out.size hb7)
      have lt0 : w.heap.size < w7.heap.size := blk_lt P7.out
      have lt9 : g9 < w7.heap.size := blk_lt Q7.out
      have q0 : w7.cell? ⟨w.heap.size, 0, none⟩ = some (.int .i64 a0_0) := (blk_cell P7.out 0).trans rfl
      have q1 : w7.cell? ⟨w.heap.size, 1, none⟩ = some (.int .i64 a0_1) := (blk_cell P7.out 1).trans rfl
      have q2 : w7.cell? ⟨w.heap.size, 2, none⟩ = some (.int .i64 a0_2) := (blk_cell P7.out 2).trans rfl
      have q3 : w7.cell? ⟨w.heap.size, 3, none⟩ = some (.int .i64 a0_3) := (blk_cell P7.out 3).trans rfl
      have q4 : w7.cell? ⟨w.heap.size, 4, none⟩ = some (.int .i64 a0_4) := (blk_cell P7.out 4).trans rfl
      have q5 : w7.cell? ⟨w.heap.size, 5, none⟩ = some (.int .i64 a0_5) := (blk_cell P7.out 5).trans rfl
      have q6 : w7.cell? ⟨w.heap.size, 6, none⟩ = some (.string a0_6) := (blk_cell P7.out 6).trans rfl
      have r'0 : w7.cell? ⟨g9, 0, none⟩ = some (.int .i64 a0_0) := (blk_cell Q7.out 0).trans rfl
      have r'1 : w7.cell? ⟨g9, 1, none⟩ = some (.int .i64 a0_1) := (blk_cell Q7.out 1).trans rfl
      have r'2 : w7.cell? ⟨g9, 2, none⟩ = some (.int .i64 a0_2) := (blk_cell Q7.out 2).trans rfl
      have r'3 : w7.cell? ⟨g9, 3, none⟩ = some (.int .i64 a0_3) := (blk_cell Q7.out 3).trans rfl
      have r'4 : w7.cell? ⟨g9, 4, none⟩ = some (.int .i64 a0_4) := (blk_cell Q7.out 4).trans rfl
      have r'5 : w7.cell? ⟨g9, 5, none⟩ = some (.int .i64 a0_5) := (blk_cell Q7.out 5).trans rfl
      have r'6 : w7.cell? ⟨g9, 6, none⟩ = some (.string a0_6) := (blk_cell Q7.out 6).trans rfl
      clear hb7 p6
      go_wp2_with (first | (go_at_call 25; refine (wharfagelaw0_Num.calls _ _ _ rfl).mono ?_; rintro e w3 ⟨rfl, ⟨nd, rfl⟩⟩))
      go_ret
      exact ⟨by first | rfl | simp [empty_toList], by repeat (first | exact B7.out | refine pw_below_drewN ?_ _ | refine below_alloc ?_ _)⟩
    · subst h17
      rw [h6] at R6
      rw [h7] at R7
      have AG2 := Aside0.mk ((SegGet_eq 700 (by decide) 17 (turnS s i x) A B).trans (congrArg some hG))
      have ltr6 := World.block_lt_of_cell? W6 _ R6.out
      go_wp2_with fail
      refine (seg_Get.calls 700 _ _ _ _ _ _ _ _ _ _ _ _ _ AG2.out).mono ?_
      rintro e w7 ⟨rfl, hb7⟩
      have P7 := Aside0.mk (blk_below P6.out hb7)
      have Q7 := Aside0.mk (blk_below Q6.out hb7)
      have B7 := Aside0.mk (below_then B6.out B6.out.size hb7)
      have lt0 : w.heap.size < w7.heap.size := blk_lt P7.out
      have lt9 : g9 < w7.heap.size := blk_lt Q7.out
      have q0 : w7.cell? ⟨w.heap.size, 0, none⟩ = some (.int .i64 17) := (blk_cell P7.out 0).trans rfl
      have q1 : w7.cell? ⟨w.heap.size, 1, none⟩ = some (.int .i64 a0_1) := (blk_cell P7.out 1).trans rfl
      have q2 : w7.cell? ⟨w.heap.size, 2, none⟩ = some (.int .i64 a0_2) := (blk_cell P7.out 2).trans rfl
      have q3 : w7.cell? ⟨w.heap.size, 3, none⟩ = some (.int .i64 a0_3) := (blk_cell P7.out 3).trans rfl
      have q4 : w7.cell? ⟨w.heap.size, 4, none⟩ = some (.int .i64 a0_4) := (blk_cell P7.out 4).trans rfl
      have q5 : w7.cell? ⟨w.heap.size, 5, none⟩ = some (.int .i64 a0_5) := (blk_cell P7.out 5).trans rfl
      have q6 : w7.cell? ⟨w.heap.size, 6, none⟩ = some (.string a0_6) := (blk_cell P7.out 6).trans rfl
      have r'0 : w7.cell? ⟨g9, 0, none⟩ = some (.int .i64 17) := (blk_cell Q7.out 0).trans rfl
      have r'1 : w7.cell? ⟨g9, 1, none⟩ = some (.int .i64 a0_1) := (blk_cell Q7.out 1).trans rfl
      have r'2 : w7.cell? ⟨g9, 2, none⟩ = some (.int .i64 a0_2) := (blk_cell Q7.out 2).trans rfl
      have r'3 : w7.cell? ⟨g9, 3, none⟩ = some (.int .i64 a0_3) := (blk_cell Q7.out 3).trans rfl
      have r'4 : w7.cell? ⟨g9, 4, none⟩ = some (.int .i64 a0_4) := (blk_cell Q7.out 4).trans rfl
      have r'5 : w7.cell? ⟨g9, 5, none⟩ = some (.int .i64 a0_5) := (blk_cell Q7.out 5).trans rfl
      have r'6 : w7.cell? ⟨g9, 6, none⟩ = some (.string a0_6) := (blk_cell Q7.out 6).trans rfl
      have k6 : w7.cell? ⟨gr, 6, none⟩ = some (.int .u8 0) := pw_cell_below hb7 R6.out
      have k7 : w7.cell? ⟨gr, 7, none⟩ = some (.int .u8 0) := pw_cell_below hb7 R7.out
      have ltr : gr < w7.heap.size := Nat.lt_of_lt_of_le ltr6 hb7.size
      have s6 : ((6 : Int) < (s.size : Int)) = True := eq_true (by have := hz.out; omega)
      have s7 : ((7 : Int) < (s.size : Int)) = True := eq_true (by have := hz.out; omega)
      have s6' : (6 < s.size) = True := eq_true (by have := hz.out; omega)
      have s7' : (7 < s.size) = True := eq_true (by have := hz.out; omega)
      clear hb7 p6
      go_wp2_with (first | (go_at_call 25; refine (wharfagelaw0_Num.calls _ _ _ rfl).mono ?_; rintro e w3 ⟨rfl, ⟨nd, rfl⟩⟩))
      go_ret
      exact ⟨by first | rfl | simp [empty_toList], by repeat (first | exact B7.out | refine pw_below_drewN ?_ _ | refine below_alloc ?_ _)⟩
end Go.Proofs.Ytobhmonmeocfmaa.PA
namespace Go.Proofs.Ytobhmonmeocfmaa.Pure
theorem SegBack (a0 a1 a2 a3 a4 a5 : Int) (_ : ByteArray) (src dst at_ by_ : Int) (_ : (Lit.int .i64 a0).wf = true) (_ : (Lit.int .i64 a1).wf = true) (_ : (Lit.int .i64 a2).wf = true) (_ : (Lit.int .i64 a3).wf = true) (_ : (Lit.int .i64 a4).wf = true) (_ : (Lit.int .i64 a5).wf = true) (_ : (Lit.int .i64 src).wf = true) (_ : (Lit.int .i64 dst).wf = true) (_ : (Lit.int .i64 at_).wf = true) (_ : (Lit.int .i64 by_).wf = true) : true = true := rfl
end Go.Proofs.Ytobhmonmeocfmaa.Pure
