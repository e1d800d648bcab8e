import Derived.Test.YtobhmonmeocfmaaPureGueNests
import Derived.Test.YtobhmonmeocfmaaFAWharfagelaw6Awake
namespace Go.Proofs.Ytobhmonmeocfmaa.PA
set_option linter.unusedSimpArgs false
set_option linter.unusedVariables false
open Go Go.RowKit Go.Proofs.YtobhmonmeocfmaaW.PrintWords Go.Proofs.YtobhmonmeocfmaaW.PrintLast Go.Proofs.YtobhmonmeocfmaaW.PrintMore Go.Proofs.Ytobhmonmeocfmaa.Wh Go.Proofs.Ytobhmonmeocfmaa.Pure
attribute [local go_sem high] eqA23
theorem awake6N : wharfagelaw6_awake.f 700 = some true := by decide +kernel
theorem tmod36 (x : Int) : 0 ≤ wrap64 (Int.tmod (IntKind.u64.wrap x) 36) ∧ wrap64 (Int.tmod (IntKind.u64.wrap x) 36) < 36 := by
  rw [u64_wrap]
  have h1 : 0 ≤ x % 18446744073709551616 := Int.emod_nonneg _ (by decide)
  rw [Int.tmod_eq_emod_of_nonneg h1, wrap64_id (by omega) (by omega)]
  omega
theorem push_ways6 (k : Nat) (hk : 40 ≤ k) (a0 a1 a2 a3 a4 : Int) (a5 : ByteArray) (h0 : R64 a0) (h1 : R64 a1) :
    (mayG a0 a1 a2 a3 a4 a5 = true ∧ a5.size ≤ 324 ∧ gue_Push.f k a0 a1 a2 a3 a4 a5 = some (pushI a0 a1 a2 a3 a4 a5, 0)) ∨ ∃ e, e ≠ 0 ∧ gue_Push.f k a0 a1 a2 a3 a4 a5 = some ((⟨#[]⟩ : ByteArray), e) := by
  by_cases h : mayG a0 a1 a2 a3 a4 a5 = true
  · by_cases z : a5.size ≤ 324
    · exact .inl ⟨h, z, Push_ok k hk h0 h1 h z⟩
    · exact .inr ⟨601, by decide, Push_big k h0 h1 h (by omega)⟩
  · exact .inr ⟨600, by decide, Push_bad k h0 h1 (by simpa using h)⟩
theorem gen6 {P : Program} {c : Code} {Q : Exit → Act → World → Prop} {a : Act} {V0 w0 : World} {o q : Obj} {g0 g1 : Nat}
    (h : ∀ V : World, V.heap[g0]? = some o → V.heap[g1]? = some q → Below w0.heap.size w0 V → Code.wp P c Q a V) (h1 : V0.heap[g0]? = some o) (h2 : V0.heap[g1]? = some q) (h3 : Below w0.heap.size w0 V0) : Code.wp P c Q a V0 := h V0 h1 h2 h3
theorem push3 (k : Nat) (hk : 40 ≤ k) (a0 a1 a2 a3 a4 : Int) (a5 : ByteArray) (h0 : R64 a0) (h1 : R64 a1) :
    (mayG a0 a1 a2 a3 a4 a5 = true ∧ a5.size ≤ 324 ∧ gue_Push.f k a0 a1 a2 a3 a4 a5 = some (pushI a0 a1 a2 a3 a4 a5, 0)) ∨ (mayG a0 a1 a2 a3 a4 a5 = true ∧ 324 < a5.size ∧ gue_Push.f k a0 a1 a2 a3 a4 a5 = some ((⟨#[]⟩ : ByteArray), 601)) ∨ (mayG a0 a1 a2 a3 a4 a5 = false ∧ gue_Push.f k a0 a1 a2 a3 a4 a5 = some ((⟨#[]⟩ : ByteArray), 600)) := by
  by_cases h : mayG a0 a1 a2 a3 a4 a5 = true
  · by_cases z : a5.size ≤ 324
    · exact .inl ⟨h, z, Push_ok k hk h0 h1 h z⟩
    · exact .inr (.inl ⟨h, by omega, Push_big k h0 h1 h (by omega)⟩)
  · exact .inr (.inr ⟨by simpa using h, Push_bad k h0 h1 (by simpa using h)⟩)
set_option maxHeartbeats 8000000 in
set_option maxRecDepth 100000 in
theorem wharfagelaw6_GueNests.calls0 (a0_0 a0_1 a0_2 a0_3 a0_4 : Int) (a0_5 : ByteArray) (a1_0 a1_1 a1_2 a1_3 a1_4 : Int) (a1_5 : ByteArray) (a2 a3 : Int) (h0 : R64 a0_0) (h1 : R64 a0_1) (v0 : R64 a1_0) (v1 : R64 a1_1) (r : Bool) (w : World) (h : true = r) :
    Calls Try.prog 4 #[.agg #[.int .i64 a0_0, .int .i64 a0_1, .int .i64 a0_2, .int .i64 a0_3, .int .i64 a0_4, .string a0_5], .agg #[.int .i64 a1_0, .int .i64 a1_1, .int .i64 a1_2, .int .i64 a1_3, .int .i64 a1_4, .string a1_5], .int .i64 a2, .int .i64 a3] w fun e w' => e = .returned (.bool r) ∧ Below w.heap.size w w' := by
  subst h
  have HB := Aside0.mk (Below.refl w.heap.size w)
  have hu23 := Try.underlying23
  have AW := Aside0.mk awake6N
  have hD : ((w.alloc (.cells #[.int .i64 a0_0, .int .i64 a0_1, .int .i64 a0_2, .int .i64 a0_3, .int .i64 a0_4, .string a0_5] 23)).alloc (.cells #[.int .i64 a1_0, .int .i64 a1_1, .int .i64 a1_2, .int .i64 a1_3, .int .i64 a1_4, .string a1_5] 23)).heap[w.heap.size + 1]? = some (.cells #[.int .i64 a1_0, .int .i64 a1_1, .int .i64 a1_2, .int .i64 a1_3, .int .i64 a1_4, .string a1_5] 23) := by
    show ((w.heap.push _).push _)[w.heap.size + 1]? = _
    rw [Array.getElem?_push, if_pos (by rw [Array.size_push])]
  have hO : ((w.alloc (.cells #[.int .i64 a0_0, .int .i64 a0_1, .int .i64 a0_2, .int .i64 a0_3, .int .i64 a0_4, .string a0_5] 23)).alloc (.cells #[.int .i64 a1_0, .int .i64 a1_1, .int .i64 a1_2, .int .i64 a1_3, .int .i64 a1_4, .string a1_5] 23)).heap[w.heap.size]? = some (.cells #[.int .i64 a0_0, .int .i64 a0_1, .int .i64 a0_2, .int .i64 a0_3, .int .i64 a0_4, .string a0_5] 23) := blk_alloc (heap_alloc_new w _) _
  replace hD := Aside0.mk hD
  replace hO := Aside0.mk hO
  go_enter Try.func4, Try.ntmps4
  go_upto_region 3 with (first | (go_at_call 28; refine (wharfagelaw6_awake.calls 700 true _ AW.out).mono ?_; rintro e w1 ⟨rfl, hb1⟩; have P1 := Aside0.mk (blk_below hO.out hb1); have Q1 := Aside0.mk (blk_below hD.out hb1); have B1 := Aside0.mk (below_then (below_alloc (below_alloc HB.out _) _) (below_alloc (below_alloc HB.out _) _).size hb1); clear hb1))
  clear hD hO
  have q0 : w1.cell? ⟨w.heap.size, 0, none⟩ = some (.int .i64 a0_0) := (blk_cell P1.out 0).trans rfl
  have q1 : w1.cell? ⟨w.heap.size, 1, none⟩ = some (.int .i64 a0_1) := (blk_cell P1.out 1).trans rfl
  have q2 : w1.cell? ⟨w.heap.size, 2, none⟩ = some (.int .i64 a0_2) := (blk_cell P1.out 2).trans rfl
  have q3 : w1.cell? ⟨w.heap.size, 3, none⟩ = some (.int .i64 a0_3) := (blk_cell P1.out 3).trans rfl
  have q4 : w1.cell? ⟨w.heap.size, 4, none⟩ = some (.int .i64 a0_4) := (blk_cell P1.out 4).trans rfl
  have q5 : w1.cell? ⟨w.heap.size, 5, none⟩ = some (.string a0_5) := (blk_cell P1.out 5).trans rfl
  rcases push_ways6 700 (by decide) a0_0 a0_1 a0_2 a0_3 a0_4 a0_5 h0 h1 with ⟨hm, hm2, AP⟩ | ⟨ee, hee, AP⟩
  rotate_left
  · replace AP := Aside0.mk AP
    have n1 : (ee == 0) = false := beq_eq_false_iff_ne.mpr hee
    have n2 : (ee != 0) = true := bne_iff_ne.mpr hee
    have n3 : (ee = 0) = False := eq_false hee
    go_wp2_with fail
    refine (gue_Push.calls 700 _ _ _ _ _ _ _ _ _ AP.out).mono ?_
    rintro e w2 ⟨rfl, hb2⟩
    have B2 := Aside0.mk (below_then B1.out B1.out.size hb2)
    clear hb2 q0 q1 q2 q3 q4 q5
    go_wp2_with (first | (go_at_call 25; refine (wharfagelaw0_Num.calls _ _ _ rfl).mono ?_; rintro e w3 ⟨rfl, ⟨nd, rfl⟩⟩))
    go_ret
    exact ⟨by first | rfl | (rw [empty_toList]; rfl) | (simp [empty_toList]), pw_below_drewN B2.out _⟩
  obtain ⟨s, hs⟩ : ∃ s, pushI a0_0 a0_1 a0_2 a0_3 a0_4 a0_5 = s := ⟨_, rfl⟩
  have AG := Aside0.mk ((Pop_eq 700 (by decide) (pushI a0_0 a0_1 a0_2 a0_3 a0_4 a0_5)).trans (congrArg some (pop_push hm hm2)))
  have hz := pushI_size a0_0 a0_1 a0_2 a0_3 a0_4 a0_5
  have hbk := fun i hi x hx => nests_pure hm hm2 i hi x hx
  rw [hs] at AP AG hz hbk
  replace hz : 36 ≤ s.size ∧ s.size ≤ 360 := by omega
  have c8 : (s.size < 36) = False := eq_false (by omega)
  have c8b : decide ((s.size : Int) < 36) = false := decide_eq_false (by omega)
  replace AP := Aside0.mk AP
  replace hz := Aside0.mk hz
  replace hbk := Aside0.mk hbk
  clear hm hm2 hs
  go_wp2_with fail
  refine (gue_Push.calls 700 _ _ _ _ _ _ _ _ _ AP.out).mono ?_
  rintro e w2 ⟨rfl, hb2⟩
  have P2 := Aside0.mk (blk_below P1.out hb2)
  have Q2 := Aside0.mk (blk_below Q1.out hb2)
  have B2 := Aside0.mk (below_then B1.out B1.out.size hb2)
  clear hb2 q0 q1 q2 q3 q4 q5
  go_upto_region 7 with (first | (go_at_call 25; refine (wharfagelaw0_Num.calls _ _ _ rfl).mono ?_; rintro e w3 ⟨rfl, ⟨nd, rfl⟩⟩) | (go_at_call 23; refine (gue_Pop.calls 700 _ _ _ _ _ _ _ _ _ AG.out).mono ?_; rintro e w3 ⟨rfl, hb3⟩; have P3 := Aside0.mk (blk_below (blk_drewN P2.out nd) hb3); have Q3 := Aside0.mk (blk_below (blk_drewN Q2.out nd) hb3); have B3 := Aside0.mk (below_then (pw_below_drewN B2.out nd) (pw_below_drewN B2.out nd).size hb3); clear hb3))
  have P4 := Aside0.mk (blk_alloc P3.out (.cells #[.int .i64 a0_0, .int .i64 a0_1, .int .i64 a0_2, .int .i64 a0_3, .int .i64 a0_4, .string a0_5] 23))
  have U4 := Aside0.mk (blk_alloc Q3.out (.cells #[.int .i64 a0_0, .int .i64 a0_1, .int .i64 a0_2, .int .i64 a0_3, .int .i64 a0_4, .string a0_5] 23))
  have Q4 := Aside0.mk (heap_alloc_new w3 (.cells #[.int .i64 a0_0, .int .i64 a0_1, .int .i64 a0_2, .int .i64 a0_3, .int .i64 a0_4, .string a0_5] 23))
  have B4 := Aside0.mk (below_alloc B3.out (.cells #[.int .i64 a0_0, .int .i64 a0_1, .int .i64 a0_2, .int .i64 a0_3, .int .i64 a0_4, .string a0_5] 23))
  generalize w3.alloc (.cells #[.int .i64 a0_0, .int .i64 a0_1, .int .i64 a0_2, .int .i64 a0_3, .int .i64 a0_4, .string a0_5] 23) = W at P4 U4 Q4 B4 ⊢
  generalize w3.heap.size = g9 at Q4 ⊢
  have hcv := row_run (P := Try.prog) W 9 37 5 s Try.underlying9 Try.underlying37 Try.underlying5
  obtain ⟨i, hi, hlt⟩ : ∃ i : Nat, wrap64 (Int.tmod (IntKind.u64.wrap a2) 36) = (i : Int) ∧ i < 36 := by
    have h := tmod36 a2
    exact ⟨(wrap64 (Int.tmod (IntKind.u64.wrap a2) 36)).toNat, by omega, by omega⟩
  have hls : i < s.size := by have := hz.out; omega
  go_upto_region 9 with (fail)
  rw [hi]
  have g0 : (0 ≤ (i : Int)) = True := eq_true (by omega)
  have g1 : ((i : Int) < (s.size : Int)) = True := eq_true (by omega)
  have l0 : (rowW W 5 s).cell? ⟨W.heap.size, i, none⟩ = some (.int .u8 (bt s i)) := rowW_bt W 5 s i hls
  have f0 : (rowW W 5 s).frozen? ⟨W.heap.size, i, none⟩ = false := rowW_frozen W 5 s i hls
  go_upto_region 10 with (fail)
  obtain ⟨x, hx, hne⟩ := xor_byte (bt s i) (wrap64 (1 + Go.bits .and .i64 a3 127) % 256) (bt_range s i) (by rw [and_127, wrap64_id (by omega) (by omega)]; omega)
  rw [hx]
  have hback := turn_back (P := Try.prog) W 37 9 5 s i (grownCap W s.size 0 5) x hls Try.underlying37 Try.underlying5 Try.underlying9
  have P6 : Aside0 (((rowW W 5 s).setCell ⟨W.heap.size, i, none⟩ (.int .u8 (x.toNat : Int))).heap[w.heap.size]? = some (.cells #[.int .i64 a0_0, .int .i64 a0_1, .int .i64 a0_2, .int .i64 a0_3, .int .i64 a0_4, .string a0_5] 23)) := Aside0.mk (blk_far (blk_alloc (blk_drew P4.out) _ : (rowW W 5 s).heap[w.heap.size]? = some (.cells #[.int .i64 a0_0, .int .i64 a0_1, .int .i64 a0_2, .int .i64 a0_3, .int .i64 a0_4, .string a0_5] 23)) (p := ⟨W.heap.size, i, none⟩) (Nat.ne_of_lt (blk_lt P4.out)) (.int .u8 (x.toNat : Int)))
  have U6 : Aside0 (((rowW W 5 s).setCell ⟨W.heap.size, i, none⟩ (.int .u8 (x.toNat : Int))).heap[w.heap.size + 1]? = some (.cells #[.int .i64 a1_0, .int .i64 a1_1, .int .i64 a1_2, .int .i64 a1_3, .int .i64 a1_4, .string a1_5] 23)) := Aside0.mk (blk_far (blk_alloc (blk_drew U4.out) _ : (rowW W 5 s).heap[w.heap.size + 1]? = some (.cells #[.int .i64 a1_0, .int .i64 a1_1, .int .i64 a1_2, .int .i64 a1_3, .int .i64 a1_4, .string a1_5] 23)) (p := ⟨W.heap.size, i, none⟩) (Nat.ne_of_lt (blk_lt U4.out)) (.int .u8 (x.toNat : Int)))
  have Q6 : Aside0 (((rowW W 5 s).setCell ⟨W.heap.size, i, none⟩ (.int .u8 (x.toNat : Int))).heap[g9]? = some (.cells #[.int .i64 a0_0, .int .i64 a0_1, .int .i64 a0_2, .int .i64 a0_3, .int .i64 a0_4, .string a0_5] 23)) := Aside0.mk (blk_far (blk_alloc (blk_drew Q4.out) _ : (rowW W 5 s).heap[g9]? = some (.cells #[.int .i64 a0_0, .int .i64 a0_1, .int .i64 a0_2, .int .i64 a0_3, .int .i64 a0_4, .string a0_5] 23)) (p := ⟨W.heap.size, i, none⟩) (Nat.ne_of_lt (blk_lt Q4.out)) (.int .u8 (x.toNat : Int)))
  have B6 : Aside0 (Below w.heap.size w ((rowW W 5 s).setCell ⟨W.heap.size, i, none⟩ (.int .u8 (x.toNat : Int)))) := Aside0.mk (below_set (rowW_below B4.out 5 s) B4.out.size (j := i) (v := .int .u8 (x.toNat : Int)))
  generalize ((rowW W 5 s).setCell ⟨W.heap.size, i, none⟩ (.int .u8 (x.toNat : Int))) = W6 at hback P6 U6 Q6 B6 ⊢
  generalize W.heap.size = gr at hback ⊢
  have hbad := hbk.out i hlt x hne
  clear hcv hx hne l0 f0 hi g0 g1
  rcases hbad with hG | ⟨hi0, hv, hG⟩ | ⟨hi0, hv, hG⟩ | ⟨hi0, hv, hG⟩
  · unfold badG at hG
    have AG2 := Aside0.mk ((Pop_eq 700 (by decide) (turnS s i x)).trans (congrArg some hG))
    go_wp2_with fail
    refine (gue_Pop.calls 700 _ _ _ _ _ _ _ _ _ AG2.out).mono ?_
    rintro e w7 ⟨rfl, hb7⟩
    have P7 := Aside0.mk (blk_below P6.out hb7)
    have U7 := Aside0.mk (blk_below U6.out hb7)
    have Q7 := Aside0.mk (blk_below Q6.out hb7)
    have B7 := Aside0.mk (below_then B6.out B6.out.size hb7)
    have lt0 : w.heap.size < w7.heap.size := blk_lt P7.out
    have lt9 : g9 < w7.heap.size := blk_lt Q7.out
    have q0 : w7.cell? ⟨w.heap.size, 0, none⟩ = some (.int .i64 a0_0) := (blk_cell P7.out 0).trans rfl
    have q1 : w7.cell? ⟨w.heap.size, 1, none⟩ = some (.int .i64 a0_1) := (blk_cell P7.out 1).trans rfl
    have q2 : w7.cell? ⟨w.heap.size, 2, none⟩ = some (.int .i64 a0_2) := (blk_cell P7.out 2).trans rfl
    have q3 : w7.cell? ⟨w.heap.size, 3, none⟩ = some (.int .i64 a0_3) := (blk_cell P7.out 3).trans rfl
    have q4 : w7.cell? ⟨w.heap.size, 4, none⟩ = some (.int .i64 a0_4) := (blk_cell P7.out 4).trans rfl
    have q5 : w7.cell? ⟨w.heap.size, 5, none⟩ = some (.string a0_5) := (blk_cell P7.out 5).trans rfl
    have r'0 : w7.cell? ⟨g9, 0, none⟩ = some (.int .i64 a0_0) := (blk_cell Q7.out 0).trans rfl
    have r'1 : w7.cell? ⟨g9, 1, none⟩ = some (.int .i64 a0_1) := (blk_cell Q7.out 1).trans rfl
    have r'2 : w7.cell? ⟨g9, 2, none⟩ = some (.int .i64 a0_2) := (blk_cell Q7.out 2).trans rfl
    have r'3 : w7.cell? ⟨g9, 3, none⟩ = some (.int .i64 a0_3) := (blk_cell Q7.out 3).trans rfl
    have r'4 : w7.cell? ⟨g9, 4, none⟩ = some (.int .i64 a0_4) := (blk_cell Q7.out 4).trans rfl
    have r'5 : w7.cell? ⟨g9, 5, none⟩ = some (.string a0_5) := (blk_cell Q7.out 5).trans rfl
    clear hb7
    go_upto_region 13 with (first | (go_at_call 25; refine (wharfagelaw0_Num.calls _ _ _ rfl).mono ?_; rintro e w3 ⟨rfl, ⟨nd, rfl⟩⟩))
    clear q0 q1 q2 q3 q4 q5 r'0 r'1 r'2 r'3 r'4 r'5 lt0 lt9
    refine gen6 (o := (.cells #[.int .i64 a0_0, .int .i64 a0_1, .int .i64 a0_2, .int .i64 a0_3, .int .i64 a0_4, .string a0_5] 23)) (q := (.cells #[.int .i64 a1_0, .int .i64 a1_1, .int .i64 a1_2, .int .i64 a1_3, .int .i64 a1_4, .string a1_5] 23)) (g0 := w.heap.size) (g1 := w.heap.size + 1) (w0 := w) ?_ (blk_drewN (blk_alloc P7.out _) _) (blk_drewN (blk_alloc U7.out _) _) (pw_below_drewN (below_alloc B7.out _) _)
    intro V P8 U8 B8
    replace P8 := Aside0.mk P8
    replace U8 := Aside0.mk U8
    replace B8 := Aside0.mk B8
    clear P7 U7 Q7 B7 P6 U6 Q6 B6
    have u5 : V.cell? ⟨w.heap.size + 1, 5, none⟩ = some (.string a1_5) := (blk_cell U8.out 5).trans rfl
    have fz5 := blk_frozen U8.out 5
    go_upto_region 14 with (fail)
    clear u5 fz5
    refine gen6 (o := (.cells #[.int .i64 a0_0, .int .i64 a0_1, .int .i64 a0_2, .int .i64 a0_3, .int .i64 a0_4, .string a0_5] 23)) (q := (.cells #[.int .i64 a1_0, .int .i64 a1_1, .int .i64 a1_2, .int .i64 a1_3, .int .i64 a1_4, .string s] 23)) (g0 := w.heap.size) (g1 := w.heap.size + 1) (w0 := w) ?_ (blk_far P8.out (p := ⟨w.heap.size + 1, 5, none⟩) (Nat.ne_of_lt (Nat.lt_succ_self _)) (.string s)) (by simpa using blk_set U8.out 5 (.string s)) (below_set B8.out (Nat.le_succ _))
    intro V2 P9 U9 B9
    replace P9 := Aside0.mk P9
    replace U9 := Aside0.mk U9
    replace B9 := Aside0.mk B9
    clear P8 U8 B8
    have q0 : V2.cell? ⟨w.heap.size + 1, 0, none⟩ = some (.int .i64 a1_0) := (blk_cell U9.out 0).trans rfl
    have q1 : V2.cell? ⟨w.heap.size + 1, 1, none⟩ = some (.int .i64 a1_1) := (blk_cell U9.out 1).trans rfl
    have q2 : V2.cell? ⟨w.heap.size + 1, 2, none⟩ = some (.int .i64 a1_2) := (blk_cell U9.out 2).trans rfl
    have q3 : V2.cell? ⟨w.heap.size + 1, 3, none⟩ = some (.int .i64 a1_3) := (blk_cell U9.out 3).trans rfl
    have q4 : V2.cell? ⟨w.heap.size + 1, 4, none⟩ = some (.int .i64 a1_4) := (blk_cell U9.out 4).trans rfl
    have q5 : V2.cell? ⟨w.heap.size + 1, 5, none⟩ = some (.string s) := (blk_cell U9.out 5).trans rfl
    rcases push3 700 (by decide) a1_0 a1_1 a1_2 a1_3 a1_4 s v0 v1 with ⟨hm, hm2, AP⟩ | ⟨hm, hm2, AP⟩ | ⟨hm, AP⟩
    · obtain ⟨t, ht⟩ : ∃ t, pushI a1_0 a1_1 a1_2 a1_3 a1_4 s = t := ⟨_, rfl⟩
      have AG3 := Aside0.mk ((Pop_eq 700 (by decide) (pushI a1_0 a1_1 a1_2 a1_3 a1_4 s)).trans (congrArg some (pop_push hm hm2)))
      have hts := pushI_size a1_0 a1_1 a1_2 a1_3 a1_4 s
      rw [ht] at AP AG3 hts
      replace AP := Aside0.mk AP
      have hw : wrap64 ((s.size : Int) + 36) = (t.size : Int) := by rw [wrap64_id (by omega) (by omega)]; omega
      have hw' := (i64_w ((s.size : Int) + 36)).trans hw
      have l3 : ((t.size : Int) ≤ 360) = True := eq_true (by omega)
      have l4 : decide ((t.size : Int) ≤ 360) = true := decide_eq_true (by omega)
      have l5 : (t.size ≤ 360) = True := eq_true (by omega)
      have l6 : decide (t.size ≤ 360) = true := decide_eq_true (by omega)
      replace hts := Aside0.mk hts
      clear ht hm hm2
      go_wp2_with fail
      refine (gue_Push.calls 700 _ _ _ _ _ _ _ _ _ AP.out).mono ?_
      rintro e w9 ⟨rfl, hb9⟩
      have P10 := Aside0.mk (blk_below P9.out hb9)
      have U10 := Aside0.mk (blk_below U9.out hb9)
      have B10 := Aside0.mk (below_then B9.out B9.out.size hb9)
      clear hb9 q0 q1 q2 q3 q4 q5
      go_upto_region 18 with (first | (go_at_call 25; refine (wharfagelaw0_Num.calls _ _ _ rfl).mono ?_; rintro e w3 ⟨rfl, ⟨nd, rfl⟩⟩) | (go_at_call 23; refine (gue_Pop.calls 700 _ _ _ _ _ _ _ _ _ AG3.out).mono ?_; rintro e w10 ⟨rfl, hb10⟩; have P11 := Aside0.mk (blk_below (blk_drewN P10.out nd) hb10); have U11 := Aside0.mk (blk_below (blk_drewN U10.out nd) hb10); have B11 := Aside0.mk (below_then (pw_below_drewN B10.out nd) (pw_below_drewN B10.out nd).size hb10); clear hb10))
      have X11 := Aside0.mk (heap_alloc_new w10 (.cells #[.int .i64 a1_0, .int .i64 a1_1, .int .i64 a1_2, .int .i64 a1_3, .int .i64 a1_4, .string s] 23))
      have P12 := Aside0.mk (blk_alloc P11.out (.cells #[.int .i64 a1_0, .int .i64 a1_1, .int .i64 a1_2, .int .i64 a1_3, .int .i64 a1_4, .string s] 23))
      have U12 := Aside0.mk (blk_alloc U11.out (.cells #[.int .i64 a1_0, .int .i64 a1_1, .int .i64 a1_2, .int .i64 a1_3, .int .i64 a1_4, .string s] 23))
      have B12 := Aside0.mk (below_alloc B11.out (.cells #[.int .i64 a1_0, .int .i64 a1_1, .int .i64 a1_2, .int .i64 a1_3, .int .i64 a1_4, .string s] 23))
      generalize w10.alloc (.cells #[.int .i64 a1_0, .int .i64 a1_1, .int .i64 a1_2, .int .i64 a1_3, .int .i64 a1_4, .string s] 23) = V3 at X11 P12 U12 B12 ⊢
      generalize w10.heap.size = gx at X11 ⊢
      clear P11 U11 B11
      have x5 : V3.cell? ⟨gx, 5, none⟩ = some (.string s) := (blk_cell X11.out 5).trans rfl
      go_wp2_with fail
      refine (gue_Pop.calls 700 _ _ _ _ _ _ _ _ _ AG.out).mono ?_
      rintro e w12 ⟨rfl, hb12⟩
      have P13 := Aside0.mk (blk_below P12.out hb12)
      have U13 := Aside0.mk (blk_below U12.out hb12)
      have X13 := Aside0.mk (blk_below X11.out hb12)
      have B13 := Aside0.mk (below_then B12.out B12.out.size hb12)
      have lt0 : w.heap.size < w12.heap.size := blk_lt P13.out
      have lt1 : w.heap.size + 1 < w12.heap.size := blk_lt U13.out
      have lt2 : gx < w12.heap.size := blk_lt X13.out
      have q0 : w12.cell? ⟨w.heap.size, 0, none⟩ = some (.int .i64 a0_0) := (blk_cell P13.out 0).trans rfl
      have q1 : w12.cell? ⟨w.heap.size, 1, none⟩ = some (.int .i64 a0_1) := (blk_cell P13.out 1).trans rfl
      have q2 : w12.cell? ⟨w.heap.size, 2, none⟩ = some (.int .i64 a0_2) := (blk_cell P13.out 2).trans rfl
      have q3 : w12.cell? ⟨w.heap.size, 3, none⟩ = some (.int .i64 a0_3) := (blk_cell P13.out 3).trans rfl
      have q4 : w12.cell? ⟨w.heap.size, 4, none⟩ = some (.int .i64 a0_4) := (blk_cell P13.out 4).trans rfl
      have q5 : w12.cell? ⟨w.heap.size, 5, none⟩ = some (.string a0_5) := (blk_cell P13.out 5).trans rfl
      have u0 : w12.cell? ⟨w.heap.size + 1, 0, none⟩ = some (.int .i64 a1_0) := (blk_cell U13.out 0).trans rfl
      have u1 : w12.cell? ⟨w.heap.size + 1, 1, none⟩ = some (.int .i64 a1_1) := (blk_cell U13.out 1).trans rfl
      have u2 : w12.cell? ⟨w.heap.size + 1, 2, none⟩ = some (.int .i64 a1_2) := (blk_cell U13.out 2).trans rfl
      have u3 : w12.cell? ⟨w.heap.size + 1, 3, none⟩ = some (.int .i64 a1_3) := (blk_cell U13.out 3).trans rfl
      have u4 : w12.cell? ⟨w.heap.size + 1, 4, none⟩ = some (.int .i64 a1_4) := (blk_cell U13.out 4).trans rfl
      have u5 : w12.cell? ⟨w.heap.size + 1, 5, none⟩ = some (.string s) := (blk_cell U13.out 5).trans rfl
      have x'0 : w12.cell? ⟨gx, 0, none⟩ = some (.int .i64 a1_0) := (blk_cell X13.out 0).trans rfl
      have x'1 : w12.cell? ⟨gx, 1, none⟩ = some (.int .i64 a1_1) := (blk_cell X13.out 1).trans rfl
      have x'2 : w12.cell? ⟨gx, 2, none⟩ = some (.int .i64 a1_2) := (blk_cell X13.out 2).trans rfl
      have x'3 : w12.cell? ⟨gx, 3, none⟩ = some (.int .i64 a1_3) := (blk_cell X13.out 3).trans rfl
      have x'4 : w12.cell? ⟨gx, 4, none⟩ = some (.int .i64 a1_4) := (blk_cell X13.out 4).trans rfl
      have x'5 : w12.cell? ⟨gx, 5, none⟩ = some (.string s) := (blk_cell X13.out 5).trans rfl
      clear hb12 x5
      go_wp2_with (first | (go_at_call 25; refine (wharfagelaw0_Num.calls _ _ _ rfl).mono ?_; rintro e w3 ⟨rfl, ⟨nd, rfl⟩⟩))
      go_ret
      exact ⟨by first | rfl | (rw [empty_toList]; rfl) | simp [empty_toList], by repeat (first | exact B13.out | refine pw_below_drewN ?_ _ | refine below_alloc ?_ _)⟩
    · replace AP := Aside0.mk AP
      have AM := Aside0.mk ((MayG_eq a1_0 a1_1 a1_2 a1_3 a1_4 s v0 v1).trans (congrArg some hm))
      have hw : wrap64 ((s.size : Int) + 36) = (s.size : Int) + 36 := by have := hz.out; rw [wrap64_id (by omega) (by omega)]
      have hw' := (i64_w ((s.size : Int) + 36)).trans hw
      have l3 : (360 < (s.size : Int) + 36) = True := eq_true (by omega)
      have l4 : decide (360 < (s.size : Int) + 36) = true := decide_eq_true (by omega)
      have l5 : decide ((s.size : Int) + 36 > 360) = true := decide_eq_true (by omega)
      clear hm2
      clear hm
      go_wp2_with fail
      refine (gue_Push.calls 700 _ _ _ _ _ _ _ _ _ AP.out).mono ?_
      rintro e w9 ⟨rfl, hb9⟩
      have U10 := Aside0.mk (blk_below U9.out hb9)
      have B10 := Aside0.mk (below_then B9.out B9.out.size hb9)
      clear q0 q1 q2 q3 q4 q5
      have u0 : w9.cell? ⟨w.heap.size + 1, 0, none⟩ = some (.int .i64 a1_0) := (blk_cell U10.out 0).trans rfl
      have u1 : w9.cell? ⟨w.heap.size + 1, 1, none⟩ = some (.int .i64 a1_1) := (blk_cell U10.out 1).trans rfl
      have u2 : w9.cell? ⟨w.heap.size + 1, 2, none⟩ = some (.int .i64 a1_2) := (blk_cell U10.out 2).trans rfl
      have u3 : w9.cell? ⟨w.heap.size + 1, 3, none⟩ = some (.int .i64 a1_3) := (blk_cell U10.out 3).trans rfl
      have u4 : w9.cell? ⟨w.heap.size + 1, 4, none⟩ = some (.int .i64 a1_4) := (blk_cell U10.out 4).trans rfl
      have u5 : w9.cell? ⟨w.heap.size + 1, 5, none⟩ = some (.string s) := (blk_cell U10.out 5).trans rfl
      clear hb9
      have ee0 : ((⟨#[]⟩ : ByteArray).toList = []) = True := eq_true empty_toList
      have ee1 : ((⟨#[]⟩ : ByteArray).toList == []) = true := beq_iff_eq.mpr empty_toList
      go_wp2_with (first | (go_at_call 25; refine (wharfagelaw0_Num.calls _ _ _ rfl).mono ?_; rintro e w3 ⟨rfl, ⟨nd, rfl⟩⟩) | (go_at_call 26; refine (gue_May.calls _ _ _ _ _ _ _ _ AM.out).mono ?_; rintro e w10 ⟨rfl, hb10⟩; have B11 := Aside0.mk (below_then (pw_below_drewN B10.out nd) (pw_below_drewN B10.out nd).size hb10)))
      go_ret
      exact ⟨by first | rfl | (rw [empty_toList]; rfl) | simp [empty_toList], by repeat (first | exact B11.out | refine pw_below_drewN ?_ _ | refine below_alloc ?_ _)⟩
    · replace AP := Aside0.mk AP
      have AM := Aside0.mk ((MayG_eq a1_0 a1_1 a1_2 a1_3 a1_4 s v0 v1).trans (congrArg some hm))
      clear hm
      go_wp2_with fail
      refine (gue_Push.calls 700 _ _ _ _ _ _ _ _ _ AP.out).mono ?_
      rintro e w9 ⟨rfl, hb9⟩
      have U10 := Aside0.mk (blk_below U9.out hb9)
      have B10 := Aside0.mk (below_then B9.out B9.out.size hb9)
      clear q0 q1 q2 q3 q4 q5
      have u0 : w9.cell? ⟨w.heap.size + 1, 0, none⟩ = some (.int .i64 a1_0) := (blk_cell U10.out 0).trans rfl
      have u1 : w9.cell? ⟨w.heap.size + 1, 1, none⟩ = some (.int .i64 a1_1) := (blk_cell U10.out 1).trans rfl
      have u2 : w9.cell? ⟨w.heap.size + 1, 2, none⟩ = some (.int .i64 a1_2) := (blk_cell U10.out 2).trans rfl
      have u3 : w9.cell? ⟨w.heap.size + 1, 3, none⟩ = some (.int .i64 a1_3) := (blk_cell U10.out 3).trans rfl
      have u4 : w9.cell? ⟨w.heap.size + 1, 4, none⟩ = some (.int .i64 a1_4) := (blk_cell U10.out 4).trans rfl
      have u5 : w9.cell? ⟨w.heap.size + 1, 5, none⟩ = some (.string s) := (blk_cell U10.out 5).trans rfl
      clear hb9
      have ee0 : ((⟨#[]⟩ : ByteArray).toList = []) = True := eq_true empty_toList
      have ee1 : ((⟨#[]⟩ : ByteArray).toList == []) = true := beq_iff_eq.mpr empty_toList
      go_wp2_with (first | (go_at_call 25; refine (wharfagelaw0_Num.calls _ _ _ rfl).mono ?_; rintro e w3 ⟨rfl, ⟨nd, rfl⟩⟩) | (go_at_call 26; refine (gue_May.calls _ _ _ _ _ _ _ _ AM.out).mono ?_; rintro e w10 ⟨rfl, hb10⟩; have B11 := Aside0.mk (below_then (pw_below_drewN B10.out nd) (pw_below_drewN B10.out nd).size hb10)))
      go_ret
      exact ⟨by first | rfl | (rw [empty_toList]; rfl) | simp [empty_toList], by repeat (first | exact B11.out | refine pw_below_drewN ?_ _ | refine below_alloc ?_ _)⟩
  · subst hi0
    have AG2 := Aside0.mk ((Pop_eq 700 (by decide) (turnS s 29 x)).trans (congrArg some hG))
    have hv1 : ((x.toNat : Int) == a0_2) = false := beq_eq_false_iff_ne.mpr hv
    have hv2 : ((x.toNat : Int) = a0_2) = False := eq_false hv
    go_wp2_with fail
    refine (gue_Pop.calls 700 _ _ _ _ _ _ _ _ _ AG2.out).mono ?_
    rintro e w7 ⟨rfl, hb7⟩
    have P7 := Aside0.mk (blk_below P6.out hb7)
    have U7 := Aside0.mk (blk_below U6.out hb7)
    have Q7 := Aside0.mk (blk_below Q6.out hb7)
    have B7 := Aside0.mk (below_then B6.out B6.out.size hb7)
    have lt0 : w.heap.size < w7.heap.size := blk_lt P7.out
    have lt9 : g9 < w7.heap.size := blk_lt Q7.out
    have q0 : w7.cell? ⟨w.heap.size, 0, none⟩ = some (.int .i64 a0_0) := (blk_cell P7.out 0).trans rfl
    have q1 : w7.cell? ⟨w.heap.size, 1, none⟩ = some (.int .i64 a0_1) := (blk_cell P7.out 1).trans rfl
    have q2 : w7.cell? ⟨w.heap.size, 2, none⟩ = some (.int .i64 a0_2) := (blk_cell P7.out 2).trans rfl
    have q3 : w7.cell? ⟨w.heap.size, 3, none⟩ = some (.int .i64 a0_3) := (blk_cell P7.out 3).trans rfl
    have q4 : w7.cell? ⟨w.heap.size, 4, none⟩ = some (.int .i64 a0_4) := (blk_cell P7.out 4).trans rfl
    have q5 : w7.cell? ⟨w.heap.size, 5, none⟩ = some (.string a0_5) := (blk_cell P7.out 5).trans rfl
    have r'0 : w7.cell? ⟨g9, 0, none⟩ = some (.int .i64 a0_0) := (blk_cell Q7.out 0).trans rfl
    have r'1 : w7.cell? ⟨g9, 1, none⟩ = some (.int .i64 a0_1) := (blk_cell Q7.out 1).trans rfl
    have r'2 : w7.cell? ⟨g9, 2, none⟩ = some (.int .i64 a0_2) := (blk_cell Q7.out 2).trans rfl
    have r'3 : w7.cell? ⟨g9, 3, none⟩ = some (.int .i64 a0_3) := (blk_cell Q7.out 3).trans rfl
    have r'4 : w7.cell? ⟨g9, 4, none⟩ = some (.int .i64 a0_4) := (blk_cell Q7.out 4).trans rfl
    have r'5 : w7.cell? ⟨g9, 5, none⟩ = some (.string a0_5) := (blk_cell Q7.out 5).trans rfl
    clear hb7
    go_upto_region 13 with (first | (go_at_call 25; refine (wharfagelaw0_Num.calls _ _ _ rfl).mono ?_; rintro e w3 ⟨rfl, ⟨nd, rfl⟩⟩))
    clear q0 q1 q2 q3 q4 q5 r'0 r'1 r'2 r'3 r'4 r'5 lt0 lt9
    refine gen6 (o := (.cells #[.int .i64 a0_0, .int .i64 a0_1, .int .i64 a0_2, .int .i64 a0_3, .int .i64 a0_4, .string a0_5] 23)) (q := (.cells #[.int .i64 a1_0, .int .i64 a1_1, .int .i64 a1_2, .int .i64 a1_3, .int .i64 a1_4, .string a1_5] 23)) (g0 := w.heap.size) (g1 := w.heap.size + 1) (w0 := w) ?_ (blk_drewN (blk_alloc P7.out _) _) (blk_drewN (blk_alloc U7.out _) _) (pw_below_drewN (below_alloc B7.out _) _)
    intro V P8 U8 B8
    replace P8 := Aside0.mk P8
    replace U8 := Aside0.mk U8
    replace B8 := Aside0.mk B8
    clear P7 U7 Q7 B7 P6 U6 Q6 B6
    have u5 : V.cell? ⟨w.heap.size + 1, 5, none⟩ = some (.string a1_5) := (blk_cell U8.out 5).trans rfl
    have fz5 := blk_frozen U8.out 5
    go_upto_region 14 with (fail)
    clear u5 fz5
    refine gen6 (o := (.cells #[.int .i64 a0_0, .int .i64 a0_1, .int .i64 a0_2, .int .i64 a0_3, .int .i64 a0_4, .string a0_5] 23)) (q := (.cells #[.int .i64 a1_0, .int .i64 a1_1, .int .i64 a1_2, .int .i64 a1_3, .int .i64 a1_4, .string s] 23)) (g0 := w.heap.size) (g1 := w.heap.size + 1) (w0 := w) ?_ (blk_far P8.out (p := ⟨w.heap.size + 1, 5, none⟩) (Nat.ne_of_lt (Nat.lt_succ_self _)) (.string s)) (by simpa using blk_set U8.out 5 (.string s)) (below_set B8.out (Nat.le_succ _))
    intro V2 P9 U9 B9
    replace P9 := Aside0.mk P9
    replace U9 := Aside0.mk U9
    replace B9 := Aside0.mk B9
    clear P8 U8 B8
    have q0 : V2.cell? ⟨w.heap.size + 1, 0, none⟩ = some (.int .i64 a1_0) := (blk_cell U9.out 0).trans rfl
    have q1 : V2.cell? ⟨w.heap.size + 1, 1, none⟩ = some (.int .i64 a1_1) := (blk_cell U9.out 1).trans rfl
    have q2 : V2.cell? ⟨w.heap.size + 1, 2, none⟩ = some (.int .i64 a1_2) := (blk_cell U9.out 2).trans rfl
    have q3 : V2.cell? ⟨w.heap.size + 1, 3, none⟩ = some (.int .i64 a1_3) := (blk_cell U9.out 3).trans rfl
    have q4 : V2.cell? ⟨w.heap.size + 1, 4, none⟩ = some (.int .i64 a1_4) := (blk_cell U9.out 4).trans rfl
    have q5 : V2.cell? ⟨w.heap.size + 1, 5, none⟩ = some (.string s) := (blk_cell U9.out 5).trans rfl
    rcases push3 700 (by decide) a1_0 a1_1 a1_2 a1_3 a1_4 s v0 v1 with ⟨hm, hm2, AP⟩ | ⟨hm, hm2, AP⟩ | ⟨hm, AP⟩
    · obtain ⟨t, ht⟩ : ∃ t, pushI a1_0 a1_1 a1_2 a1_3 a1_4 s = t := ⟨_, rfl⟩
      have AG3 := Aside0.mk ((Pop_eq 700 (by decide) (pushI a1_0 a1_1 a1_2 a1_3 a1_4 s)).trans (congrArg some (pop_push hm hm2)))
      have hts := pushI_size a1_0 a1_1 a1_2 a1_3 a1_4 s
      rw [ht] at AP AG3 hts
      replace AP := Aside0.mk AP
      have hw : wrap64 ((s.size : Int) + 36) = (t.size : Int) := by rw [wrap64_id (by omega) (by omega)]; omega
      have hw' := (i64_w ((s.size : Int) + 36)).trans hw
      have l3 : ((t.size : Int) ≤ 360) = True := eq_true (by omega)
      have l4 : decide ((t.size : Int) ≤ 360) = true := decide_eq_true (by omega)
      have l5 : (t.size ≤ 360) = True := eq_true (by omega)
      have l6 : decide (t.size ≤ 360) = true := decide_eq_true (by omega)
      replace hts := Aside0.mk hts
      clear ht hm hm2
      go_wp2_with fail
      refine (gue_Push.calls 700 _ _ _ _ _ _ _ _ _ AP.out).mono ?_
      rintro e w9 ⟨rfl, hb9⟩
      have P10 := Aside0.mk (blk_below P9.out hb9)
      have U10 := Aside0.mk (blk_below U9.out hb9)
      have B10 := Aside0.mk (below_then B9.out B9.out.size hb9)
      clear hb9 q0 q1 q2 q3 q4 q5
      go_upto_region 18 with (first | (go_at_call 25; refine (wharfagelaw0_Num.calls _ _ _ rfl).mono ?_; rintro e w3 ⟨rfl, ⟨nd, rfl⟩⟩) | (go_at_call 23; refine (gue_Pop.calls 700 _ _ _ _ _ _ _ _ _ AG3.out).mono ?_; rintro e w10 ⟨rfl, hb10⟩; have P11 := Aside0.mk (blk_below (blk_drewN P10.out nd) hb10); have U11 := Aside0.mk (blk_below (blk_drewN U10.out nd) hb10); have B11 := Aside0.mk (below_then (pw_below_drewN B10.out nd) (pw_below_drewN B10.out nd).size hb10); clear hb10))
      have X11 := Aside0.mk (heap_alloc_new w10 (.cells #[.int .i64 a1_0, .int .i64 a1_1, .int .i64 a1_2, .int .i64 a1_3, .int .i64 a1_4, .string s] 23))
      have P12 := Aside0.mk (blk_alloc P11.out (.cells #[.int .i64 a1_0, .int .i64 a1_1, .int .i64 a1_2, .int .i64 a1_3, .int .i64 a1_4, .string s] 23))
      have U12 := Aside0.mk (blk_alloc U11.out (.cells #[.int .i64 a1_0, .int .i64 a1_1, .int .i64 a1_2, .int .i64 a1_3, .int .i64 a1_4, .string s] 23))
      have B12 := Aside0.mk (below_alloc B11.out (.cells #[.int .i64 a1_0, .int .i64 a1_1, .int .i64 a1_2, .int .i64 a1_3, .int .i64 a1_4, .string s] 23))
      generalize w10.alloc (.cells #[.int .i64 a1_0, .int .i64 a1_1, .int .i64 a1_2, .int .i64 a1_3, .int .i64 a1_4, .string s] 23) = V3 at X11 P12 U12 B12 ⊢
      generalize w10.heap.size = gx at X11 ⊢
      clear P11 U11 B11
      have x5 : V3.cell? ⟨gx, 5, none⟩ = some (.string s) := (blk_cell X11.out 5).trans rfl
      go_wp2_with fail
      refine (gue_Pop.calls 700 _ _ _ _ _ _ _ _ _ AG.out).mono ?_
      rintro e w12 ⟨rfl, hb12⟩
      have P13 := Aside0.mk (blk_below P12.out hb12)
      have U13 := Aside0.mk (blk_below U12.out hb12)
      have X13 := Aside0.mk (blk_below X11.out hb12)
      have B13 := Aside0.mk (below_then B12.out B12.out.size hb12)
      have lt0 : w.heap.size < w12.heap.size := blk_lt P13.out
      have lt1 : w.heap.size + 1 < w12.heap.size := blk_lt U13.out
      have lt2 : gx < w12.heap.size := blk_lt X13.out
      have q0 : w12.cell? ⟨w.heap.size, 0, none⟩ = some (.int .i64 a0_0) := (blk_cell P13.out 0).trans rfl
      have q1 : w12.cell? ⟨w.heap.size, 1, none⟩ = some (.int .i64 a0_1) := (blk_cell P13.out 1).trans rfl
      have q2 : w12.cell? ⟨w.heap.size, 2, none⟩ = some (.int .i64 a0_2) := (blk_cell P13.out 2).trans rfl
      have q3 : w12.cell? ⟨w.heap.size, 3, none⟩ = some (.int .i64 a0_3) := (blk_cell P13.out 3).trans rfl
      have q4 : w12.cell? ⟨w.heap.size, 4, none⟩ = some (.int .i64 a0_4) := (blk_cell P13.out 4).trans rfl
      have q5 : w12.cell? ⟨w.heap.size, 5, none⟩ = some (.string a0_5) := (blk_cell P13.out 5).trans rfl
      have u0 : w12.cell? ⟨w.heap.size + 1, 0, none⟩ = some (.int .i64 a1_0) := (blk_cell U13.out 0).trans rfl
      have u1 : w12.cell? ⟨w.heap.size + 1, 1, none⟩ = some (.int .i64 a1_1) := (blk_cell U13.out 1).trans rfl
      have u2 : w12.cell? ⟨w.heap.size + 1, 2, none⟩ = some (.int .i64 a1_2) := (blk_cell U13.out 2).trans rfl
      have u3 : w12.cell? ⟨w.heap.size + 1, 3, none⟩ = some (.int .i64 a1_3) := (blk_cell U13.out 3).trans rfl
      have u4 : w12.cell? ⟨w.heap.size + 1, 4, none⟩ = some (.int .i64 a1_4) := (blk_cell U13.out 4).trans rfl
      have u5 : w12.cell? ⟨w.heap.size + 1, 5, none⟩ = some (.string s) := (blk_cell U13.out 5).trans rfl
      have x'0 : w12.cell? ⟨gx, 0, none⟩ = some (.int .i64 a1_0) := (blk_cell X13.out 0).trans rfl
      have x'1 : w12.cell? ⟨gx, 1, none⟩ = some (.int .i64 a1_1) := (blk_cell X13.out 1).trans rfl
      have x'2 : w12.cell? ⟨gx, 2, none⟩ = some (.int .i64 a1_2) := (blk_cell X13.out 2).trans rfl
      have x'3 : w12.cell? ⟨gx, 3, none⟩ = some (.int .i64 a1_3) := (blk_cell X13.out 3).trans rfl
      have x'4 : w12.cell? ⟨gx, 4, none⟩ = some (.int .i64 a1_4) := (blk_cell X13.out 4).trans rfl
      have x'5 : w12.cell? ⟨gx, 5, none⟩ = some (.string s) := (blk_cell X13.out 5).trans rfl
      clear hb12 x5
      go_wp2_with (first | (go_at_call 25; refine (wharfagelaw0_Num.calls _ _ _ rfl).mono ?_; rintro e w3 ⟨rfl, ⟨nd, rfl⟩⟩))
      go_ret
      exact ⟨by first | rfl | (rw [empty_toList]; rfl) | simp [empty_toList], by repeat (first | exact B13.out | refine pw_below_drewN ?_ _ | refine below_alloc ?_ _)⟩
    · replace AP := Aside0.mk AP
      have AM := Aside0.mk ((MayG_eq a1_0 a1_1 a1_2 a1_3 a1_4 s v0 v1).trans (congrArg some hm))
      have hw : wrap64 ((s.size : Int) + 36) = (s.size : Int) + 36 := by have := hz.out; rw [wrap64_id (by omega) (by omega)]
      have hw' := (i64_w ((s.size : Int) + 36)).trans hw
      have l3 : (360 < (s.size : Int) + 36) = True := eq_true (by omega)
      have l4 : decide (360 < (s.size : Int) + 36) = true := decide_eq_true (by omega)
      have l5 : decide ((s.size : Int) + 36 > 360) = true := decide_eq_true (by omega)
      clear hm2
      clear hm
      go_wp2_with fail
      refine (gue_Push.calls 700 _ _ _ _ _ _ _ _ _ AP.out).mono ?_
      rintro e w9 ⟨rfl, hb9⟩
      have U10 := Aside0.mk (blk_below U9.out hb9)
      have B10 := Aside0.mk (below_then B9.out B9.out.size hb9)
      clear q0 q1 q2 q3 q4 q5
      have u0 : w9.cell? ⟨w.heap.size + 1, 0, none⟩ = some (.int .i64 a1_0) := (blk_cell U10.out 0).trans rfl
      have u1 : w9.cell? ⟨w.heap.size + 1, 1, none⟩ = some (.int .i64 a1_1) := (blk_cell U10.out 1).trans rfl
      have u2 : w9.cell? ⟨w.heap.size + 1, 2, none⟩ = some (.int .i64 a1_2) := (blk_cell U10.out 2).trans rfl
      have u3 : w9.cell? ⟨w.heap.size + 1, 3, none⟩ = some (.int .i64 a1_3) := (blk_cell U10.out 3).trans rfl
      have u4 : w9.cell? ⟨w.heap.size + 1, 4, none⟩ = some (.int .i64 a1_4) := (blk_cell U10.out 4).trans rfl
      have u5 : w9.cell? ⟨w.heap.size + 1, 5, none⟩ = some (.string s) := (blk_cell U10.out 5).trans rfl
      clear hb9
      have ee0 : ((⟨#[]⟩ : ByteArray).toList = []) = True := eq_true empty_toList
      have ee1 : ((⟨#[]⟩ : ByteArray).toList == []) = true := beq_iff_eq.mpr empty_toList
      go_wp2_with (first | (go_at_call 25; refine (wharfagelaw0_Num.calls _ _ _ rfl).mono ?_; rintro e w3 ⟨rfl, ⟨nd, rfl⟩⟩) | (go_at_call 26; refine (gue_May.calls _ _ _ _ _ _ _ _ AM.out).mono ?_; rintro e w10 ⟨rfl, hb10⟩; have B11 := Aside0.mk (below_then (pw_below_drewN B10.out nd) (pw_below_drewN B10.out nd).size hb10)))
      go_ret
      exact ⟨by first | rfl | (rw [empty_toList]; rfl) | simp [empty_toList], by repeat (first | exact B11.out | refine pw_below_drewN ?_ _ | refine below_alloc ?_ _)⟩
    · replace AP := Aside0.mk AP
      have AM := Aside0.mk ((MayG_eq a1_0 a1_1 a1_2 a1_3 a1_4 s v0 v1).trans (congrArg some hm))
      clear hm
      go_wp2_with fail
      refine (gue_Push.calls 700 _ _ _ _ _ _ _ _ _ AP.out).mono ?_
      rintro e w9 ⟨rfl, hb9⟩
      have U10 := Aside0.mk (blk_below U9.out hb9)
      have B10 := Aside0.mk (below_then B9.out B9.out.size hb9)
      clear q0 q1 q2 q3 q4 q5
      have u0 : w9.cell? ⟨w.heap.size + 1, 0, none⟩ = some (.int .i64 a1_0) := (blk_cell U10.out 0).trans rfl
      have u1 : w9.cell? ⟨w.heap.size + 1, 1, none⟩ = some (.int .i64 a1_1) := (blk_cell U10.out 1).trans rfl
      have u2 : w9.cell? ⟨w.heap.size + 1, 2, none⟩ = some (.int .i64 a1_2) := (blk_cell U10.out 2).trans rfl
      have u3 : w9.cell? ⟨w.heap.size + 1, 3, none⟩ = some (.int .i64 a1_3) := (blk_cell U10.out 3).trans rfl
      have u4 : w9.cell? ⟨w.heap.size + 1, 4, none⟩ = some (.int .i64 a1_4) := (blk_cell U10.out 4).trans rfl
      have u5 : w9.cell? ⟨w.heap.size + 1, 5, none⟩ = some (.string s) := (blk_cell U10.out 5).trans rfl
      clear hb9
      have ee0 : ((⟨#[]⟩ : ByteArray).toList = []) = True := eq_true empty_toList
      have ee1 : ((⟨#[]⟩ : ByteArray).toList == []) = true := beq_iff_eq.mpr empty_toList
      go_wp2_with (first | (go_at_call 25; refine (wharfagelaw0_Num.calls _ _ _ rfl).mono ?_; rintro e w3 ⟨rfl, ⟨nd, rfl⟩⟩) | (go_at_call 26; refine (gue_May.calls _ _ _ _ _ _ _ _ AM.out).mono ?_; rintro e w10 ⟨rfl, hb10⟩; have B11 := Aside0.mk (below_then (pw_below_drewN B10.out nd) (pw_below_drewN B10.out nd).size hb10)))
      go_ret
      exact ⟨by first | rfl | (rw [empty_toList]; rfl) | simp [empty_toList], by repeat (first | exact B11.out | refine pw_below_drewN ?_ _ | refine below_alloc ?_ _)⟩
  · subst hi0
    have AG2 := Aside0.mk ((Pop_eq 700 (by decide) (turnS s 30 x)).trans (congrArg some hG))
    have hv1 : ((x.toNat : Int) == a0_3) = false := beq_eq_false_iff_ne.mpr hv
    have hv2 : ((x.toNat : Int) = a0_3) = False := eq_false hv
    go_wp2_with fail
    refine (gue_Pop.calls 700 _ _ _ _ _ _ _ _ _ AG2.out).mono ?_
    rintro e w7 ⟨rfl, hb7⟩
    have P7 := Aside0.mk (blk_below P6.out hb7)
    have U7 := Aside0.mk (blk_below U6.out hb7)
    have Q7 := Aside0.mk (blk_below Q6.out hb7)
    have B7 := Aside0.mk (below_then B6.out B6.out.size hb7)
    have lt0 : w.heap.size < w7.heap.size := blk_lt P7.out
    have lt9 : g9 < w7.heap.size := blk_lt Q7.out
    have q0 : w7.cell? ⟨w.heap.size, 0, none⟩ = some (.int .i64 a0_0) := (blk_cell P7.out 0).trans rfl
    have q1 : w7.cell? ⟨w.heap.size, 1, none⟩ = some (.int .i64 a0_1) := (blk_cell P7.out 1).trans rfl
    have q2 : w7.cell? ⟨w.heap.size, 2, none⟩ = some (.int .i64 a0_2) := (blk_cell P7.out 2).trans rfl
    have q3 : w7.cell? ⟨w.heap.size, 3, none⟩ = some (.int .i64 a0_3) := (blk_cell P7.out 3).trans rfl
    have q4 : w7.cell? ⟨w.heap.size, 4, none⟩ = some (.int .i64 a0_4) := (blk_cell P7.out 4).trans rfl
    have q5 : w7.cell? ⟨w.heap.size, 5, none⟩ = some (.string a0_5) := (blk_cell P7.out 5).trans rfl
    have r'0 : w7.cell? ⟨g9, 0, none⟩ = some (.int .i64 a0_0) := (blk_cell Q7.out 0).trans rfl
    have r'1 : w7.cell? ⟨g9, 1, none⟩ = some (.int .i64 a0_1) := (blk_cell Q7.out 1).trans rfl
    have r'2 : w7.cell? ⟨g9, 2, none⟩ = some (.int .i64 a0_2) := (blk_cell Q7.out 2).trans rfl
    have r'3 : w7.cell? ⟨g9, 3, none⟩ = some (.int .i64 a0_3) := (blk_cell Q7.out 3).trans rfl
    have r'4 : w7.cell? ⟨g9, 4, none⟩ = some (.int .i64 a0_4) := (blk_cell Q7.out 4).trans rfl
    have r'5 : w7.cell? ⟨g9, 5, none⟩ = some (.string a0_5) := (blk_cell Q7.out 5).trans rfl
    clear hb7
    go_upto_region 13 with (first | (go_at_call 25; refine (wharfagelaw0_Num.calls _ _ _ rfl).mono ?_; rintro e w3 ⟨rfl, ⟨nd, rfl⟩⟩))
    clear q0 q1 q2 q3 q4 q5 r'0 r'1 r'2 r'3 r'4 r'5 lt0 lt9
    refine gen6 (o := (.cells #[.int .i64 a0_0, .int .i64 a0_1, .int .i64 a0_2, .int .i64 a0_3, .int .i64 a0_4, .string a0_5] 23)) (q := (.cells #[.int .i64 a1_0, .int .i64 a1_1, .int .i64 a1_2, .int .i64 a1_3, .int .i64 a1_4, .string a1_5] 23)) (g0 := w.heap.size) (g1 := w.heap.size + 1) (w0 := w) ?_ (blk_drewN (blk_alloc P7.out _) _) (blk_drewN (blk_alloc U7.out _) _) (pw_below_drewN (below_alloc B7.out _) _)
    intro V P8 U8 B8
    replace P8 := Aside0.mk P8
    replace U8 := Aside0.mk U8
    replace B8 := Aside0.mk B8
    clear P7 U7 Q7 B7 P6 U6 Q6 B6
    have u5 : V.cell? ⟨w.heap.size + 1, 5, none⟩ = some (.string a1_5) := (blk_cell U8.out 5).trans rfl
    have fz5 := blk_frozen U8.out 5
    go_upto_region 14 with (fail)
    clear u5 fz5
    refine gen6 (o := (.cells #[.int .i64 a0_0, .int .i64 a0_1, .int .i64 a0_2, .int .i64 a0_3, .int .i64 a0_4, .string a0_5] 23)) (q := (.cells #[.int .i64 a1_0, .int .i64 a1_1, .int .i64 a1_2, .int .i64 a1_3, .int .i64 a1_4, .string s] 23)) (g0 := w.heap.size) (g1 := w.heap.size + 1) (w0 := w) ?_ (blk_far P8.out (p := ⟨w.heap.size + 1, 5, none⟩) (Nat.ne_of_lt (Nat.lt_succ_self _)) (.string s)) (by simpa using blk_set U8.out 5 (.string s)) (below_set B8.out (Nat.le_succ _))
    intro V2 P9 U9 B9
    replace P9 := Aside0.mk P9
    replace U9 := Aside0.mk U9
    replace B9 := Aside0.mk B9
    clear P8 U8 B8
    have q0 : V2.cell? ⟨w.heap.size + 1, 0, none⟩ = some (.int .i64 a1_0) := (blk_cell U9.out 0).trans rfl
    have q1 : V2.cell? ⟨w.heap.size + 1, 1, none⟩ = some (.int .i64 a1_1) := (blk_cell U9.out 1).trans rfl
    have q2 : V2.cell? ⟨w.heap.size + 1, 2, none⟩ = some (.int .i64 a1_2) := (blk_cell U9.out 2).trans rfl
    have q3 : V2.cell? ⟨w.heap.size + 1, 3, none⟩ = some (.int .i64 a1_3) := (blk_cell U9.out 3).trans rfl
    have q4 : V2.cell? ⟨w.heap.size + 1, 4, none⟩ = some (.int .i64 a1_4) := (blk_cell U9.out 4).trans rfl
    have q5 : V2.cell? ⟨w.heap.size + 1, 5, none⟩ = some (.string s) := (blk_cell U9.out 5).trans rfl
    rcases push3 700 (by decide) a1_0 a1_1 a1_2 a1_3 a1_4 s v0 v1 with ⟨hm, hm2, AP⟩ | ⟨hm, hm2, AP⟩ | ⟨hm, AP⟩
    · obtain ⟨t, ht⟩ : ∃ t, pushI a1_0 a1_1 a1_2 a1_3 a1_4 s = t := ⟨_, rfl⟩
      have AG3 := Aside0.mk ((Pop_eq 700 (by decide) (pushI a1_0 a1_1 a1_2 a1_3 a1_4 s)).trans (congrArg some (pop_push hm hm2)))
      have hts := pushI_size a1_0 a1_1 a1_2 a1_3 a1_4 s
      rw [ht] at AP AG3 hts
      replace AP := Aside0.mk AP
      have hw : wrap64 ((s.size : Int) + 36) = (t.size : Int) := by rw [wrap64_id (by omega) (by omega)]; omega
      have hw' := (i64_w ((s.size : Int) + 36)).trans hw
      have l3 : ((t.size : Int) ≤ 360) = True := eq_true (by omega)
      have l4 : decide ((t.size : Int) ≤ 360) = true := decide_eq_true (by omega)
      have l5 : (t.size ≤ 360) = True := eq_true (by omega)
      have l6 : decide (t.size ≤ 360) = true := decide_eq_true (by omega)
      replace hts := Aside0.mk hts
      clear ht hm hm2
      go_wp2_with fail
      refine (gue_Push.calls 700 _ _ _ _ _ _ _ _ _ AP.out).mono ?_
      rintro e w9 ⟨rfl, hb9⟩
      have P10 := Aside0.mk (blk_below P9.out hb9)
      have U10 := Aside0.mk (blk_below U9.out hb9)
      have B10 := Aside0.mk (below_then B9.out B9.out.size hb9)
      clear hb9 q0 q1 q2 q3 q4 q5
      go_upto_region 18 with (first | (go_at_call 25; refine (wharfagelaw0_Num.calls _ _ _ rfl).mono ?_; rintro e w3 ⟨rfl, ⟨nd, rfl⟩⟩) | (go_at_call 23; refine (gue_Pop.calls 700 _ _ _ _ _ _ _ _ _ AG3.out).mono ?_; rintro e w10 ⟨rfl, hb10⟩; have P11 := Aside0.mk (blk_below (blk_drewN P10.out nd) hb10); have U11 := Aside0.mk (blk_below (blk_drewN U10.out nd) hb10); have B11 := Aside0.mk (below_then (pw_below_drewN B10.out nd) (pw_below_drewN B10.out nd).size hb10); clear hb10))
      have X11 := Aside0.mk (heap_alloc_new w10 (.cells #[.int .i64 a1_0, .int .i64 a1_1, .int .i64 a1_2, .int .i64 a1_3, .int .i64 a1_4, .string s] 23))
      have P12 := Aside0.mk (blk_alloc P11.out (.cells #[.int .i64 a1_0, .int .i64 a1_1, .int .i64 a1_2, .int .i64 a1_3, .int .i64 a1_4, .string s] 23))
      have U12 := Aside0.mk (blk_alloc U11.out (.cells #[.int .i64 a1_0, .int .i64 a1_1, .int .i64 a1_2, .int .i64 a1_3, .int .i64 a1_4, .string s] 23))
      have B12 := Aside0.mk (below_alloc B11.out (.cells #[.int .i64 a1_0, .int .i64 a1_1, .int .i64 a1_2, .int .i64 a1_3, .int .i64 a1_4, .string s] 23))
      generalize w10.alloc (.cells #[.int .i64 a1_0, .int .i64 a1_1, .int .i64 a1_2, .int .i64 a1_3, .int .i64 a1_4, .string s] 23) = V3 at X11 P12 U12 B12 ⊢
      generalize w10.heap.size = gx at X11 ⊢
      clear P11 U11 B11
      have x5 : V3.cell? ⟨gx, 5, none⟩ = some (.string s) := (blk_cell X11.out 5).trans rfl
      go_wp2_with fail
      refine (gue_Pop.calls 700 _ _ _ _ _ _ _ _ _ AG.out).mono ?_
      rintro e w12 ⟨rfl, hb12⟩
      have P13 := Aside0.mk (blk_below P12.out hb12)
      have U13 := Aside0.mk (blk_below U12.out hb12)
      have X13 := Aside0.mk (blk_below X11.out hb12)
      have B13 := Aside0.mk (below_then B12.out B12.out.size hb12)
      have lt0 : w.heap.size < w12.heap.size := blk_lt P13.out
      have lt1 : w.heap.size + 1 < w12.heap.size := blk_lt U13.out
      have lt2 : gx < w12.heap.size := blk_lt X13.out
      have q0 : w12.cell? ⟨w.heap.size, 0, none⟩ = some (.int .i64 a0_0) := (blk_cell P13.out 0).trans rfl
      have q1 : w12.cell? ⟨w.heap.size, 1, none⟩ = some (.int .i64 a0_1) := (blk_cell P13.out 1).trans rfl
      have q2 : w12.cell? ⟨w.heap.size, 2, none⟩ = some (.int .i64 a0_2) := (blk_cell P13.out 2).trans rfl
      have q3 : w12.cell? ⟨w.heap.size, 3, none⟩ = some (.int .i64 a0_3) := (blk_cell P13.out 3).trans rfl
      have q4 : w12.cell? ⟨w.heap.size, 4, none⟩ = some (.int .i64 a0_4) := (blk_cell P13.out 4).trans rfl
      have q5 : w12.cell? ⟨w.heap.size, 5, none⟩ = some (.string a0_5) := (blk_cell P13.out 5).trans rfl
      have u0 : w12.cell? ⟨w.heap.size + 1, 0, none⟩ = some (.int .i64 a1_0) := (blk_cell U13.out 0).trans rfl
      have u1 : w12.cell? ⟨w.heap.size + 1, 1, none⟩ = some (.int .i64 a1_1) := (blk_cell U13.out 1).trans rfl
      have u2 : w12.cell? ⟨w.heap.size + 1, 2, none⟩ = some (.int .i64 a1_2) := (blk_cell U13.out 2).trans rfl
      have u3 : w12.cell? ⟨w.heap.size + 1, 3, none⟩ = some (.int .i64 a1_3) := (blk_cell U13.out 3).trans rfl
      have u4 : w12.cell? ⟨w.heap.size + 1, 4, none⟩ = some (.int .i64 a1_4) := (blk_cell U13.out 4).trans rfl
      have u5 : w12.cell? ⟨w.heap.size + 1, 5, none⟩ = some (.string s) := (blk_cell U13.out 5).trans rfl
      have x'0 : w12.cell? ⟨gx, 0, none⟩ = some (.int .i64 a1_0) := (blk_cell X13.out 0).trans rfl
      have x'1 : w12.cell? ⟨gx, 1, none⟩ = some (.int .i64 a1_1) := (blk_cell X13.out 1).trans rfl
      have x'2 : w12.cell? ⟨gx, 2, none⟩ = some (.int .i64 a1_2) := (blk_cell X13.out 2).trans rfl
      have x'3 : w12.cell? ⟨gx, 3, none⟩ = some (.int .i64 a1_3) := (blk_cell X13.out 3).trans rfl
      have x'4 : w12.cell? ⟨gx, 4, none⟩ = some (.int .i64 a1_4) := (blk_cell X13.out 4).trans rfl
      have x'5 : w12.cell? ⟨gx, 5, none⟩ = some (.string s) := (blk_cell X13.out 5).trans rfl
      clear hb12 x5
      go_wp2_with (first | (go_at_call 25; refine (wharfagelaw0_Num.calls _ _ _ rfl).mono ?_; rintro e w3 ⟨rfl, ⟨nd, rfl⟩⟩))
      go_ret
      exact ⟨by first | rfl | (rw [empty_toList]; rfl) | simp [empty_toList], by repeat (first | exact B13.out | refine pw_below_drewN ?_ _ | refine below_alloc ?_ _)⟩
    · replace AP := Aside0.mk AP
      have AM := Aside0.mk ((MayG_eq a1_0 a1_1 a1_2 a1_3 a1_4 s v0 v1).trans (congrArg some hm))
      have hw : wrap64 ((s.size : Int) + 36) = (s.size : Int) + 36 := by have := hz.out; rw [wrap64_id (by omega) (by omega)]
      have hw' := (i64_w ((s.size : Int) + 36)).trans hw
      have l3 : (360 < (s.size : Int) + 36) = True := eq_true (by omega)
      have l4 : decide (360 < (s.size : Int) + 36) = true := decide_eq_true (by omega)
      have l5 : decide ((s.size : Int) + 36 > 360) = true := decide_eq_true (by omega)
      clear hm2
      clear hm
      go_wp2_with fail
      refine (gue_Push.calls 700 _ _ _ _ _ _ _ _ _ AP.out).mono ?_
      rintro e w9 ⟨rfl, hb9⟩
      have U10 := Aside0.mk (blk_below U9.out hb9)
      have B10 := Aside0.mk (below_then B9.out B9.out.size hb9)
      clear q0 q1 q2 q3 q4 q5
      have u0 : w9.cell? ⟨w.heap.size + 1, 0, none⟩ = some (.int .i64 a1_0) := (blk_cell U10.out 0).trans rfl
      have u1 : w9.cell? ⟨w.heap.size + 1, 1, none⟩ = some (.int .i64 a1_1) := (blk_cell U10.out 1).trans rfl
      have u2 : w9.cell? ⟨w.heap.size + 1, 2, none⟩ = some (.int .i64 a1_2) := (blk_cell U10.out 2).trans rfl
      have u3 : w9.cell? ⟨w.heap.size + 1, 3, none⟩ = some (.int .i64 a1_3) := (blk_cell U10.out 3).trans rfl
      have u4 : w9.cell? ⟨w.heap.size + 1, 4, none⟩ = some (.int .i64 a1_4) := (blk_cell U10.out 4).trans rfl
      have u5 : w9.cell? ⟨w.heap.size + 1, 5, none⟩ = some (.string s) := (blk_cell U10.out 5).trans rfl
      clear hb9
      have ee0 : ((⟨#[]⟩ : ByteArray).toList = []) = True := eq_true empty_toList
      have ee1 : ((⟨#[]⟩ : ByteArray).toList == []) = true := beq_iff_eq.mpr empty_toList
      go_wp2_with (first | (go_at_call 25; refine (wharfagelaw0_Num.calls _ _ _ rfl).mono ?_; rintro e w3 ⟨rfl, ⟨nd, rfl⟩⟩) | (go_at_call 26; refine (gue_May.calls _ _ _ _ _ _ _ _ AM.out).mono ?_; rintro e w10 ⟨rfl, hb10⟩; have B11 := Aside0.mk (below_then (pw_below_drewN B10.out nd) (pw_below_drewN B10.out nd).size hb10)))
      go_ret
      exact ⟨by first | rfl | (rw [empty_toList]; rfl) | simp [empty_toList], by repeat (first | exact B11.out | refine pw_below_drewN ?_ _ | refine below_alloc ?_ _)⟩
    · replace AP := Aside0.mk AP
      have AM := Aside0.mk ((MayG_eq a1_0 a1_1 a1_2 a1_3 a1_4 s v0 v1).trans (congrArg some hm))
      clear hm
      go_wp2_with fail
      refine (gue_Push.calls 700 _ _ _ _ _ _ _ _ _ AP.out).mono ?_
      rintro e w9 ⟨rfl, hb9⟩
      have U10 := Aside0.mk (blk_below U9.out hb9)
      have B10 := Aside0.mk (below_then B9.out B9.out.size hb9)
      clear q0 q1 q2 q3 q4 q5
      have u0 : w9.cell? ⟨w.heap.size + 1, 0, none⟩ = some (.int .i64 a1_0) := (blk_cell U10.out 0).trans rfl
      have u1 : w9.cell? ⟨w.heap.size + 1, 1, none⟩ = some (.int .i64 a1_1) := (blk_cell U10.out 1).trans rfl
      have u2 : w9.cell? ⟨w.heap.size + 1, 2, none⟩ = some (.int .i64 a1_2) := (blk_cell U10.out 2).trans rfl
      have u3 : w9.cell? ⟨w.heap.size + 1, 3, none⟩ = some (.int .i64 a1_3) := (blk_cell U10.out 3).trans rfl
      have u4 : w9.cell? ⟨w.heap.size + 1, 4, none⟩ = some (.int .i64 a1_4) := (blk_cell U10.out 4).trans rfl
      have u5 : w9.cell? ⟨w.heap.size + 1, 5, none⟩ = some (.string s) := (blk_cell U10.out 5).trans rfl
      clear hb9
      have ee0 : ((⟨#[]⟩ : ByteArray).toList = []) = True := eq_true empty_toList
      have ee1 : ((⟨#[]⟩ : ByteArray).toList == []) = true := beq_iff_eq.mpr empty_toList
      go_wp2_with (first | (go_at_call 25; refine (wharfagelaw0_Num.calls _ _ _ rfl).mono ?_; rintro e w3 ⟨rfl, ⟨nd, rfl⟩⟩) | (go_at_call 26; refine (gue_May.calls _ _ _ _ _ _ _ _ AM.out).mono ?_; rintro e w10 ⟨rfl, hb10⟩; have B11 := Aside0.mk (below_then (pw_below_drewN B10.out nd) (pw_below_drewN B10.out nd).size hb10)))
      go_ret
      exact ⟨by first | rfl | (rw [empty_toList]; rfl) | simp [empty_toList], by repeat (first | exact B11.out | refine pw_below_drewN ?_ _ | refine below_alloc ?_ _)⟩
  · subst hi0
    have AG2 := Aside0.mk ((Pop_eq 700 (by decide) (turnS s 31 x)).trans (congrArg some hG))
    have hv1 : ((x.toNat : Int) == a0_4) = false := beq_eq_false_iff_ne.mpr hv
    have hv2 : ((x.toNat : Int) = a0_4) = False := eq_false hv
    go_wp2_with fail
    refine (gue_Pop.calls 700 _ _ _ _ _ _ _ _ _ AG2.out).mono ?_
    rintro e w7 ⟨rfl, hb7⟩
    have P7 := Aside0.mk (blk_below P6.out hb7)
    have U7 := Aside0.mk (blk_below U6.out hb7)
    have Q7 := Aside0.mk (blk_below Q6.out hb7)
    have B7 := Aside0.mk (below_then B6.out B6.out.size hb7)
    have lt0 : w.heap.size < w7.heap.size := blk_lt P7.out
    have lt9 : g9 < w7.heap.size := blk_lt Q7.out
    have q0 : w7.cell? ⟨w.heap.size, 0, none⟩ = some (.int .i64 a0_0) := (blk_cell P7.out 0).trans rfl
    have q1 : w7.cell? ⟨w.heap.size, 1, none⟩ = some (.int .i64 a0_1) := (blk_cell P7.out 1).trans rfl
    have q2 : w7.cell? ⟨w.heap.size, 2, none⟩ = some (.int .i64 a0_2) := (blk_cell P7.out 2).trans rfl
    have q3 : w7.cell? ⟨w.heap.size, 3, none⟩ = some (.int .i64 a0_3) := (blk_cell P7.out 3).trans rfl
    have q4 : w7.cell? ⟨w.heap.size, 4, none⟩ = some (.int .i64 a0_4) := (blk_cell P7.out 4).trans rfl
    have q5 : w7.cell? ⟨w.heap.size, 5, none⟩ = some (.string a0_5) := (blk_cell P7.out 5).trans rfl
    have r'0 : w7.cell? ⟨g9, 0, none⟩ = some (.int .i64 a0_0) := (blk_cell Q7.out 0).trans rfl
    have r'1 : w7.cell? ⟨g9, 1, none⟩ = some (.int .i64 a0_1) := (blk_cell Q7.out 1).trans rfl
    have r'2 : w7.cell? ⟨g9, 2, none⟩ = some (.int .i64 a0_2) := (blk_cell Q7.out 2).trans rfl
    have r'3 : w7.cell? ⟨g9, 3, none⟩ = some (.int .i64 a0_3) := (blk_cell Q7.out 3).trans rfl
    have r'4 : w7.cell? ⟨g9, 4, none⟩ = some (.int .i64 a0_4) := (blk_cell Q7.out 4).trans rfl
    have r'5 : w7.cell? ⟨g9, 5, none⟩ = some (.string a0_5) := (blk_cell Q7.out 5).trans rfl
    clear hb7
    go_upto_region 13 with (first | (go_at_call 25; refine (wharfagelaw0_Num.calls _ _ _ rfl).mono ?_; rintro e w3 ⟨rfl, ⟨nd, rfl⟩⟩))
    clear q0 q1 q2 q3 q4 q5 r'0 r'1 r'2 r'3 r'4 r'5 lt0 lt9
    refine gen6 (o := (.cells #[.int .i64 a0_0, .int .i64 a0_1, .int .i64 a0_2, .int .i64 a0_3, .int .i64 a0_4, .string a0_5] 23)) (q := (.cells #[.int .i64 a1_0, .int .i64 a1_1, .int .i64 a1_2, .int .i64 a1_3, .int .i64 a1_4, .string a1_5] 23)) (g0 := w.heap.size) (g1 := w.heap.size + 1) (w0 := w) ?_ (blk_drewN (blk_alloc P7.out _) _) (blk_drewN (blk_alloc U7.out _) _) (pw_below_drewN (below_alloc B7.out _) _)
    intro V P8 U8 B8
    replace P8 := Aside0.mk P8
    replace U8 := Aside0.mk U8
    replace B8 := Aside0.mk B8
    clear P7 U7 Q7 B7 P6 U6 Q6 B6
    have u5 : V.cell? ⟨w.heap.size + 1, 5, none⟩ = some (.string a1_5) := (blk_cell U8.out 5).trans rfl
    have fz5 := blk_frozen U8.out 5
    go_upto_region 14 with (fail)
    clear u5 fz5
    refine gen6 (o := (.cells #[.int .i64 a0_0, .int .i64 a0_1, .int .i64 a0_2, .int .i64 a0_3, .int .i64 a0_4, .string a0_5] 23)) (q := (.cells #[.int .i64 a1_0, .int .i64 a1_1, .int .i64 a1_2, .int .i64 a1_3, .int .i64 a1_4, .string s] 23)) (g0 := w.heap.size) (g1 := w.heap.size + 1) (w0 := w) ?_ (blk_far P8.out (p := ⟨w.heap.size + 1, 5, none⟩) (Nat.ne_of_lt (Nat.lt_succ_self _)) (.string s)) (by simpa using blk_set U8.out 5 (.string s)) (below_set B8.out (Nat.le_succ _))
    intro V2 P9 U9 B9
    replace P9 := Aside0.mk P9
    replace U9 := Aside0.mk U9
    replace B9 := Aside0.mk B9
    clear P8 U8 B8
    have q0 : V2.cell? ⟨w.heap.size + 1, 0, none⟩ = some (.int .i64 a1_0) := (blk_cell U9.out 0).trans rfl
    have q1 : V2.cell? ⟨w.heap.size + 1, 1, none⟩ = some (.int .i64 a1_1) := (blk_cell U9.out 1).trans rfl
    have q2 : V2.cell? ⟨w.heap.size + 1, 2, none⟩ = some (.int .i64 a1_2) := (blk_cell U9.out 2).trans rfl
    have q3 : V2.cell? ⟨w.heap.size + 1, 3, none⟩ = some (.int .i64 a1_3) := (blk_cell U9.out 3).trans rfl
    have q4 : V2.cell? ⟨w.heap.size + 1, 4, none⟩ = some (.int .i64 a1_4) := (blk_cell U9.out 4).trans rfl
    have q5 : V2.cell? ⟨w.heap.size + 1, 5, none⟩ = some (.string s) := (blk_cell U9.out 5).trans rfl
    rcases push3 700 (by decide) a1_0 a1_1 a1_2 a1_3 a1_4 s v0 v1 with ⟨hm, hm2, AP⟩ | ⟨hm, hm2, AP⟩ | ⟨hm, AP⟩
    · obtain ⟨t, ht⟩ : ∃ t, pushI a1_0 a1_1 a1_2 a1_3 a1_4 s = t := ⟨_, rfl⟩
      have AG3 := Aside0.mk ((Pop_eq 700 (by decide) (pushI a1_0 a1_1 a1_2 a1_3 a1_4 s)).trans (congrArg some (pop_push hm hm2)))
      have hts := pushI_size a1_0 a1_1 a1_2 a1_3 a1_4 s
      rw [ht] at AP AG3 hts
      replace AP := Aside0.mk AP
      have hw : wrap64 ((s.size : Int) + 36) = (t.size : Int) := by rw [wrap64_id (by omega) (by omega)]; omega
      have hw' := (i64_w ((s.size : Int) + 36)).trans hw
      have l3 : ((t.size : Int) ≤ 360) = True := eq_true (by omega)
      have l4 : decide ((t.size : Int) ≤ 360) = true := decide_eq_true (by omega)
      have l5 : (t.size ≤ 360) = True := eq_true (by omega)
      have l6 : decide (t.size ≤ 360) = true := decide_eq_true (by omega)
      replace hts := Aside0.mk hts
      clear ht hm hm2
      go_wp2_with fail
      refine (gue_Push.calls 700 _ _ _ _ _ _ _ _ _ AP.out).mono ?_
      rintro e w9 ⟨rfl, hb9⟩
      have P10 := Aside0.mk (blk_below P9.out hb9)
      have U10 := Aside0.mk (blk_below U9.out hb9)
      have B10 := Aside0.mk (below_then B9.out B9.out.size hb9)
      clear hb9 q0 q1 q2 q3 q4 q5
      go_upto_region 18 with (first | (go_at_call 25; refine (wharfagelaw0_Num.calls _ _ _ rfl).mono ?_; rintro e w3 ⟨rfl, ⟨nd, rfl⟩⟩) | (go_at_call 23; refine (gue_Pop.calls 700 _ _ _ _ _ _ _ _ _ AG3.out).mono ?_; rintro e w10 ⟨rfl, hb10⟩; have P11 := Aside0.mk (blk_below (blk_drewN P10.out nd) hb10); have U11 := Aside0.mk (blk_below (blk_drewN U10.out nd) hb10); have B11 := Aside0.mk (below_then (pw_below_drewN B10.out nd) (pw_below_drewN B10.out nd).size hb10); clear hb10))
      have X11 := Aside0.mk (heap_alloc_new w10 (.cells #[.int .i64 a1_0, .int .i64 a1_1, .int .i64 a1_2, .int .i64 a1_3, .int .i64 a1_4, .string s] 23))
      have P12 := Aside0.mk (blk_alloc P11.out (.cells #[.int .i64 a1_0, .int .i64 a1_1, .int .i64 a1_2, .int .i64 a1_3, .int .i64 a1_4, .string s] 23))
      have U12 := Aside0.mk (blk_alloc U11.out (.cells #[.int .i64 a1_0, .int .i64 a1_1, .int .i64 a1_2, .int .i64 a1_3, .int .i64 a1_4, .string s] 23))
      have B12 := Aside0.mk (below_alloc B11.out (.cells #[.int .i64 a1_0, .int .i64 a1_1, .int .i64 a1_2, .int .i64 a1_3, .int .i64 a1_4, .string s] 23))
      generalize w10.alloc (.cells #[.int .i64 a1_0, .int .i64 a1_1, .int .i64 a1_2, .int .i64 a1_3, .int .i64 a1_4, .string s] 23) = V3 at X11 P12 U12 B12 ⊢
      generalize w10.heap.size = gx at X11 ⊢
      clear P11 U11 B11
      have x5 : V3.cell? ⟨gx, 5, none⟩ = some (.string s) := (blk_cell X11.out 5).trans rfl
      go_wp2_with fail
      refine (gue_Pop.calls 700 _ _ _ _ _ _ _ _ _ AG.out).mono ?_
      rintro e w12 ⟨rfl, hb12⟩
      have P13 := Aside0.mk (blk_below P12.out hb12)
      have U13 := Aside0.mk (blk_below U12.out hb12)
      have X13 := Aside0.mk (blk_below X11.out hb12)
      have B13 := Aside0.mk (below_then B12.out B12.out.size hb12)
      have lt0 : w.heap.size < w12.heap.size := blk_lt P13.out
      have lt1 : w.heap.size + 1 < w12.heap.size := blk_lt U13.out
      have lt2 : gx < w12.heap.size := blk_lt X13.out
      have q0 : w12.cell? ⟨w.heap.size, 0, none⟩ = some (.int .i64 a0_0) := (blk_cell P13.out 0).trans rfl
      have q1 : w12.cell? ⟨w.heap.size, 1, none⟩ = some (.int .i64 a0_1) := (blk_cell P13.out 1).trans rfl
      have q2 : w12.cell? ⟨w.heap.size, 2, none⟩ = some (.int .i64 a0_2) := (blk_cell P13.out 2).trans rfl
      have q3 : w12.cell? ⟨w.heap.size, 3, none⟩ = some (.int .i64 a0_3) := (blk_cell P13.out 3).trans rfl
      have q4 : w12.cell? ⟨w.heap.size, 4, none⟩ = some (.int .i64 a0_4) := (blk_cell P13.out 4).trans rfl
      have q5 : w12.cell? ⟨w.heap.size, 5, none⟩ = some (.string a0_5) := (blk_cell P13.out 5).trans rfl
      have u0 : w12.cell? ⟨w.heap.size + 1, 0, none⟩ = some (.int .i64 a1_0) := (blk_cell U13.out 0).trans rfl
      have u1 : w12.cell? ⟨w.heap.size + 1, 1, none⟩ = some (.int .i64 a1_1) := (blk_cell U13.out 1).trans rfl
      have u2 : w12.cell? ⟨w.heap.size + 1, 2, none⟩ = some (.int .i64 a1_2) := (blk_cell U13.out 2).trans rfl
      have u3 : w12.cell? ⟨w.heap.size + 1, 3, none⟩ = some (.int .i64 a1_3) := (blk_cell U13.out 3).trans rfl
      have u4 : w12.cell? ⟨w.heap.size + 1, 4, none⟩ = some (.int .i64 a1_4) := (blk_cell U13.out 4).trans rfl
      have u5 : w12.cell? ⟨w.heap.size + 1, 5, none⟩ = some (.string s) := (blk_cell U13.out 5).trans rfl
      have x'0 : w12.cell? ⟨gx, 0, none⟩ = some (.int .i64 a1_0) := (blk_cell X13.out 0).trans rfl
      have x'1 : w12.cell? ⟨gx, 1, none⟩ = some (.int .i64 a1_1) := (blk_cell X13.out 1).trans rfl
      have x'2 : w12.cell? ⟨gx, 2, none⟩ = some (.int .i64 a1_2) := (blk_cell X13.out 2).trans rfl
      have x'3 : w12.cell? ⟨gx, 3, none⟩ = some (.int .i64 a1_3) := (blk_cell X13.out 3).trans rfl
      have x'4 : w12.cell? ⟨gx, 4, none⟩ = some (.int .i64 a1_4) := (blk_cell X13.out 4).trans rfl
      have x'5 : w12.cell? ⟨gx, 5, none⟩ = some (.string s) := (blk_cell X13.out 5).trans rfl
      clear hb12 x5
      go_wp2_with (first | (go_at_call 25; refine (wharfagelaw0_Num.calls _ _ _ rfl).mono ?_; rintro e w3 ⟨rfl, ⟨nd, rfl⟩⟩))
      go_ret
      exact ⟨by first | rfl | (rw [empty_toList]; rfl) | simp [empty_toList], by repeat (first | exact B13.out | refine pw_below_drewN ?_ _ | refine below_alloc ?_ _)⟩
    · replace AP := Aside0.mk AP
      have AM := Aside0.mk ((MayG_eq a1_0 a1_1 a1_2 a1_3 a1_4 s v0 v1).trans (congrArg some hm))
      have hw : wrap64 ((s.size : Int) + 36) = (s.size : Int) + 36 := by have := hz.out; rw [wrap64_id (by omega) (by omega)]
      have hw' := (i64_w ((s.size : Int) + 36)).trans hw
      have l3 : (360 < (s.size : Int) + 36) = True := eq_true (by omega)
      have l4 : decide (360 < (s.size : Int) + 36) = true := decide_eq_true (by omega)
      have l5 : decide ((s.size : Int) + 36 > 360) = true := decide_eq_true (by omega)
      clear hm2
      clear hm
      go_wp2_with fail
      refine (gue_Push.calls 700 _ _ _ _ _ _ _ _ _ AP.out).mono ?_
      rintro e w9 ⟨rfl, hb9⟩
      have U10 := Aside0.mk (blk_below U9.out hb9)
      have B10 := Aside0.mk (below_then B9.out B9.out.size hb9)
      clear q0 q1 q2 q3 q4 q5
      have u0 : w9.cell? ⟨w.heap.size + 1, 0, none⟩ = some (.int .i64 a1_0) := (blk_cell U10.out 0).trans rfl
      have u1 : w9.cell? ⟨w.heap.size + 1, 1, none⟩ = some (.int .i64 a1_1) := (blk_cell U10.out 1).trans rfl
      have u2 : w9.cell? ⟨w.heap.size + 1, 2, none⟩ = some (.int .i64 a1_2) := (blk_cell U10.out 2).trans rfl
      have u3 : w9.cell? ⟨w.heap.size + 1, 3, none⟩ = some (.int .i64 a1_3) := (blk_cell U10.out 3).trans rfl
      have u4 : w9.cell? ⟨w.heap.size + 1, 4, none⟩ = some (.int .i64 a1_4) := (blk_cell U10.out 4).trans rfl
      have u5 : w9.cell? ⟨w.heap.size + 1, 5, none⟩ = some (.string s) := (blk_cell U10.out 5).trans rfl
      clear hb9
      have ee0 : ((⟨#[]⟩ : ByteArray).toList = []) = True := eq_true empty_toList
      have ee1 : ((⟨#[]⟩ : ByteArray).toList == []) = true := beq_iff_eq.mpr empty_toList
      go_wp2_with (first | (go_at_call 25; refine (wharfagelaw0_Num.calls _ _ _ rfl).mono ?_; rintro e w3 ⟨rfl, ⟨nd, rfl⟩⟩) | (go_at_call 26; refine (gue_May.calls _ _ _ _ _ _ _ _ AM.out).mono ?_; rintro e w10 ⟨rfl, hb10⟩; have B11 := Aside0.mk (below_then (pw_below_drewN B10.out nd) (pw_below_drewN B10.out nd).size hb10)))
      go_ret
      exact ⟨by first | rfl | (rw [empty_toList]; rfl) | simp [empty_toList], by repeat (first | exact B11.out | refine pw_below_drewN ?_ _ | refine below_alloc ?_ _)⟩
    · replace AP := Aside0.mk AP
      have AM := Aside0.mk ((MayG_eq a1_0 a1_1 a1_2 a1_3 a1_4 s v0 v1).trans (congrArg some hm))
      clear hm
      go_wp2_with fail
      refine (gue_Push.calls 700 _ _ _ _ _ _ _ _ _ AP.out).mono ?_
      rintro e w9 ⟨rfl, hb9⟩
      have U10 := Aside0.mk (blk_below U9.out hb9)
      have B10 := Aside0.mk (below_then B9.out B9.out.size hb9)
      clear q0 q1 q2 q3 q4 q5
      have u0 : w9.cell? ⟨w.heap.size + 1, 0, none⟩ = some (.int .i64 a1_0) := (blk_cell U10.out 0).trans rfl
      have u1 : w9.cell? ⟨w.heap.size + 1, 1, none⟩ = some (.int .i64 a1_1) := (blk_cell U10.out 1).trans rfl
      have u2 : w9.cell? ⟨w.heap.size + 1, 2, none⟩ = some (.int .i64 a1_2) := (blk_cell U10.out 2).trans rfl
      have u3 : w9.cell? ⟨w.heap.size + 1, 3, none⟩ = some (.int .i64 a1_3) := (blk_cell U10.out 3).trans rfl
      have u4 : w9.cell? ⟨w.heap.size + 1, 4, none⟩ = some (.int .i64 a1_4) := (blk_cell U10.out 4).trans rfl
      have u5 : w9.cell? ⟨w.heap.size + 1, 5, none⟩ = some (.string s) := (blk_cell U10.out 5).trans rfl
      clear hb9
      have ee0 : ((⟨#[]⟩ : ByteArray).toList = []) = True := eq_true empty_toList
      have ee1 : ((⟨#[]⟩ : ByteArray).toList == []) = true := beq_iff_eq.mpr empty_toList
      go_wp2_with (first | (go_at_call 25; refine (wharfagelaw0_Num.calls _ _ _ rfl).mono ?_; rintro e w3 ⟨rfl, ⟨nd, rfl⟩⟩) | (go_at_call 26; refine (gue_May.calls _ _ _ _ _ _ _ _ AM.out).mono ?_; rintro e w10 ⟨rfl, hb10⟩; have B11 := Aside0.mk (below_then (pw_below_drewN B10.out nd) (pw_below_drewN B10.out nd).size hb10)))
      go_ret
      exact ⟨by first | rfl | (rw [empty_toList]; rfl) | simp [empty_toList], by repeat (first | exact B11.out | refine pw_below_drewN ?_ _ | refine below_alloc ?_ _)⟩
end Go.Proofs.Ytobhmonmeocfmaa.PA
namespace Go.Proofs.Ytobhmonmeocfmaa.PA
open Go Go.RowKit Go.Proofs.Ytobhmonmeocfmaa.Pure
theorem wharfagelaw6_GueNests.calls (a0_0 a0_1 a0_2 a0_3 a0_4 : Int) (a0_5 : ByteArray) (a1_0 a1_1 a1_2 a1_3 a1_4 : Int) (a1_5 : ByteArray) (a2 a3 : Int) (r : Bool) (w : World) (h : R64 a0_0 ∧ R64 a0_1 ∧ R64 a1_0 ∧ R64 a1_1 ∧ true = r) :
    Calls Try.prog 4 #[.agg #[.int .i64 a0_0, .int .i64 a0_1, .int .i64 a0_2, .int .i64 a0_3, .int .i64 a0_4, .string a0_5], .agg #[.int .i64 a1_0, .int .i64 a1_1, .int .i64 a1_2, .int .i64 a1_3, .int .i64 a1_4, .string a1_5], .int .i64 a2, .int .i64 a3] w fun e w' => e = .returned (.bool r) ∧ Below w.heap.size w w' :=
  wharfagelaw6_GueNests.calls0 a0_0 a0_1 a0_2 a0_3 a0_4 a0_5 a1_0 a1_1 a1_2 a1_3 a1_4 a1_5 a2 a3 h.1 h.2.1 h.2.2.1 h.2.2.2.1 r w h.2.2.2.2
end Go.Proofs.Ytobhmonmeocfmaa.PA
namespace Go.Proofs.Ytobhmonmeocfmaa.Pure
open Go Go.RowKit Go.Proofs.Ytobhmonmeocfmaa.Wh
theorem GueNests (a0 a1 a2 a3 a4 : Int) (_ : ByteArray) (b0 b1 b2 b3 b4 : Int) (_ : ByteArray) (at_ by_ : Int) (w0 : (Lit.int .i64 a0).wf = true) (w1 : (Lit.int .i64 a1).wf = true) (_ : (Lit.int .i64 a2).wf = true) (_ : (Lit.int .i64 a3).wf = true) (_ : (Lit.int .i64 a4).wf = true) (v0 : (Lit.int .i64 b0).wf = true) (v1 : (Lit.int .i64 b1).wf = true) (_ : (Lit.int .i64 b2).wf = true) (_ : (Lit.int .i64 b3).wf = true) (_ : (Lit.int .i64 b4).wf = true) (_ : (Lit.int .i64 at_).wf = true) (_ : (Lit.int .i64 by_).wf = true) : R64 a0 ∧ R64 a1 ∧ R64 b0 ∧ R64 b1 ∧ true = true :=
  ⟨wf_i64 w0, wf_i64 w1, wf_i64 v0, wf_i64 v1, rfl⟩
end Go.Proofs.Ytobhmonmeocfmaa.Pure
