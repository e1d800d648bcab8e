-- printed by a program of this session (myprint.py) out of the translation
import Derived.Test.YtnhbieicjlnakaaFA0
import Derived.Test.YtnhbieicjlnakaaFAEq1
import Derived.Test.YtnhbieicjlnakaaFAIpPut
import Derived.Test.YtnhbieicjlnakaaFAWharfagelaw0Num
import Derived.Test.YtnhbieicjlnakaaFAWharfagelaw2Whole
import Derived.Test.YtnhbieicjlnakaaFAIpGet
import Derived.Test.YtnhbieicjlnakaaFAWharfagelaw2Awake
namespace Go.Proofs.Ytnhbieicjlnakaa.PA
open Go.RowKit Go.Proofs.YtnhbieicjlnakaaW.PrintWords Go.Proofs.YtnhbieicjlnakaaW.PrintLast Go.Proofs.YtnhbieicjlnakaaW.PrintMore
attribute [local go_sem] max2_int min2_int max_two min_two max_three min_three max_four min_four   -- for this text's walks alone
set_option linter.unusedVariables false
set_option linter.unusedSimpArgs false

attribute [local go_sem high] eqA23
/-! ### wharfagelaw2_IpClasses: function 6 -/
def wharfagelaw2_IpClasses.j0 : Nat → Int → ByteArray → Bool → Option (Bool)
  | 0, _, _, _ => none
  | k + 1, x0, x5, x33 => if x33 = true then (none) else (if 0 ≤ 19 then (if 19 ≤ (x5.size : Int) then (if 0 ≤ (wrap64 ((x5.size : Int) - 1)) then (if (wrap64 ((x5.size : Int) - 1)) ≤ (x5.size : Int) then (if x5.size + 1 ≤ 9223372036854775807 then (if 1 ≤ (x5.size : Int) then (if 1 + (x5.extract 1 x5.size).size ≤ 9223372036854775807 then (if 0 ≤ 8 then (if 8 ≤ (x5.size : Int) then (if (x5.extract 0 8).size + 1 ≤ 9223372036854775807 then (if 9 ≤ (x5.size : Int) then (if ((x5.extract 0 8) ++ (⟨#[10]⟩ : ByteArray)).size + (x5.extract 9 x5.size).size ≤ 9223372036854775807 then ((wharfagelaw2_whole.f k ((⟨#[70]⟩ : ByteArray) ++ (x5.extract 1 x5.size))).bind fun t272 => (if 0 ≤ 6 then (if 6 ≤ (x5.size : Int) then (if (x5.extract 0 6).size + 2 ≤ 9223372036854775807 then (if ((x5.extract 0 6) ++ (⟨#[32, 0]⟩ : ByteArray)).size + (x5.extract 8 x5.size).size ≤ 9223372036854775807 then ((wharfagelaw2_whole.f k (((x5.extract 0 6) ++ (⟨#[32, 0]⟩ : ByteArray)) ++ (x5.extract 8 x5.size))).bind fun t273 => (if ((x5.extract 0 6) ++ (⟨#[0, 1]⟩ : ByteArray)).size + (x5.extract 8 x5.size).size ≤ 9223372036854775807 then ((wharfagelaw2_whole.f k (((x5.extract 0 6) ++ (⟨#[0, 1]⟩ : ByteArray)) ++ (x5.extract 8 x5.size))).bind fun t274 => (if ((x5.extract 0 6) ++ (⟨#[128, 0]⟩ : ByteArray)).size + (x5.extract 8 x5.size).size ≤ 9223372036854775807 then ((wharfagelaw2_whole.f k (((x5.extract 0 6) ++ (⟨#[128, 0]⟩ : ByteArray)) ++ (x5.extract 8 x5.size))).bind fun t275 => (if ((x5.extract 0 6) ++ (⟨#[0, 0]⟩ : ByteArray)).size + (x5.extract 8 x5.size).size ≤ 9223372036854775807 then ((wharfagelaw2_whole.f k (((x5.extract 0 6) ++ (⟨#[0, 0]⟩ : ByteArray)) ++ (x5.extract 8 x5.size))).bind fun t276 => (if 0 ≤ 1 then (if (x5.extract 0 1).size + 1 ≤ 9223372036854775807 then (if 2 ≤ (x5.size : Int) then (if ((x5.extract 0 1) ++ (⟨#[255]⟩ : ByteArray)).size + (x5.extract 2 x5.size).size ≤ 9223372036854775807 then ((wharfagelaw2_whole.f k (((x5.extract 0 1) ++ (⟨#[255]⟩ : ByteArray)) ++ (x5.extract 2 x5.size))).bind fun t277 => ((some (([(⟨#[]⟩ : ByteArray), x5.extract 0 19, x5.extract 0 ((wrap64 ((x5.size : Int) - 1)) : Int).toNat, x5 ++ (⟨#[120]⟩ : ByteArray), (⟨#[101]⟩ : ByteArray) ++ (x5.extract 1 x5.size), (⟨#[68]⟩ : ByteArray) ++ (x5.extract 1 x5.size), ((x5.extract 0 8) ++ (⟨#[10]⟩ : ByteArray)) ++ (x5.extract 9 x5.size), t272, t273, t274, t275, t276, t277] : List ByteArray) : List ByteArray)).bind fun y278 => ((some (([1, 1, 1, 1, 1, 1, 1, 3, 2, 2, 2, 0, 0] : List Int) : List Int)).bind fun y281 => (if 0 ≤ (wrap64 (Int.tmod (IntKind.u64.wrap (x0)) 13)) then (if (wrap64 (Int.tmod (IntKind.u64.wrap (x0)) 13)) < (y278.length : Int) then ((ip_Get.f k (rdOf ByteArray.empty y278 (wrap64 (Int.tmod (IntKind.u64.wrap (x0)) 13)))).bind fun bt285 => (if (wrap64 (Int.tmod (IntKind.u64.wrap (x0)) 13)) < (y281.length : Int) then (if bt285.2.2.2.2.2.2.1 = (rd y281 (wrap64 (Int.tmod (IntKind.u64.wrap (x0)) 13))) then ((wharfagelaw0_Num.f bt285.2.2.2.2.2.2.2).bind fun t295 => (if ((t295 == 200) == (bt285.2.2.2.2.2.2.1 == 1)) = true then (some ((bt285.2.2.2.2.2.2.1 == 0) == (!(bt285.1 == 0) || (!(bt285.2.1 == 0) || (!(bt285.2.2.1 == 0) || (!(bt285.2.2.2.1 == 0) || (!(bt285.2.2.2.2.1 == 0) || (!(bt285.2.2.2.2.2.1.toList == ([] : List UInt8)))))))))) else (none))) else (none)) else (none))) else (none)) else (none))))) else (none)) else (none)) else (none)) else (none))) else (none))) else (none))) else (none))) else (none)) else (none)) else (none)) else (none))) else (none)) else (none)) else (none)) else (none)) else (none)) else (none)) else (none)) else (none)) else (none)) else (none)) else (none)) else (none))
def wharfagelaw2_IpClasses.f (k : Nat) (a0 : Int) (a1 : ByteArray) : Option (Bool) := (wharfagelaw2_awake.f k).bind fun t268 => (if t268 = true then (if 0 ≤ (mn (a1.size : Int) 40) then (if (mn (a1.size : Int) 40) ≤ (a1.size : Int) then (if 8 + (a1.extract 0 ((mn (a1.size : Int) 40) : Int).toNat).size ≤ 9223372036854775807 then ((ip_Put.f k 1 2 17 9 0 ((⟨#[97, 98, 99, 100, 101, 102, 103, 104]⟩ : ByteArray) ++ (a1.extract 0 ((mn (a1.size : Int) 40) : Int).toNat))).bind fun bt269 => ((wharfagelaw0_Num.f bt269.2).bind fun t271 => (if t271 = 0 then (wharfagelaw2_IpClasses.j0 k a0 bt269.1 (decide ((bt269.1.size : Int) < 28))) else (wharfagelaw2_IpClasses.j0 k a0 bt269.1 true)))) else (none)) else (none)) else (none)) else (none))
theorem wharfagelaw2_IpClasses.mono_l : ∀ k, (∀ y0 y1 y2, LeO (wharfagelaw2_IpClasses.j0 k y0 y1 y2) (wharfagelaw2_IpClasses.j0 (k + 1) y0 y1 y2))
  | 0 => fun _ _ _ r h => by simp [wharfagelaw2_IpClasses.j0] at h
  | k + 1 => by
    have ih0 := wharfagelaw2_IpClasses.mono_l k
    · intro y0 y1 y2
      unfold wharfagelaw2_IpClasses.j0
      repeat' first
      | (with_reducible exact ih0 _ _ _)
      | (with_reducible exact ip_Get.mono _ _)
      | (with_reducible exact ip_Put.mono _ _ _ _ _ _ _)
      | (with_reducible exact wharfagelaw2_awake.mono _)
      | (with_reducible exact wharfagelaw2_whole.mono _ _)
      | (with_reducible exact LeO.refl _)
      | (with_reducible exact LeO.none _)
      | (with_reducible refine LeO.ite ?_ ?_)
      | (with_reducible refine LeO.bind ?_ (fun _ => ?_))
      | exact ih0 _ _ _
      | exact ip_Get.mono _ _
      | exact ip_Put.mono _ _ _ _ _ _ _
      | exact wharfagelaw2_awake.mono _
      | exact wharfagelaw2_whole.mono _ _
      | exact LeO.none _
      | refine LeO.ite ?_ ?_
      | refine LeO.bind ?_ (fun _ => ?_)
theorem wharfagelaw2_IpClasses.mono : ∀ a0 a1 k, LeO (wharfagelaw2_IpClasses.f k a0 a1) (wharfagelaw2_IpClasses.f (k + 1) a0 a1) := by
  intro a0 a1 k
  have ih0 := wharfagelaw2_IpClasses.mono_l k
  unfold wharfagelaw2_IpClasses.f
  repeat' first
      | (with_reducible exact ih0 _ _ _)
      | (with_reducible exact ip_Get.mono _ _)
      | (with_reducible exact ip_Put.mono _ _ _ _ _ _ _)
      | (with_reducible exact wharfagelaw2_awake.mono _)
      | (with_reducible exact wharfagelaw2_whole.mono _ _)
      | (with_reducible exact LeO.refl _)
      | (with_reducible exact LeO.none _)
      | (with_reducible refine LeO.ite ?_ ?_)
      | (with_reducible refine LeO.bind ?_ (fun _ => ?_))
      | exact ih0 _ _ _
      | exact ip_Get.mono _ _
      | exact ip_Put.mono _ _ _ _ _ _ _
      | exact wharfagelaw2_awake.mono _
      | exact wharfagelaw2_whole.mono _ _
      | exact LeO.none _
      | refine LeO.ite ?_ ?_
      | refine LeO.bind ?_ (fun _ => ?_)
def wharfagelaw2_IpClasses.T6 : Bool × List (List Nat × List Nat) := (true, [([], []), ([0], [0]), ([], []), ([], []), ([3], [3]), ([4], [4]), ([2, 5], [2, 5]), ([], []), ([7], [7]), ([], []), ([9], [9]), ([10], [10]), ([], []), ([12], [12]), ([13], [13]), ([], []), ([15], [15]), ([16], [16]), ([], []), ([18], [18]), ([17, 19], [17, 19]), ([], []), ([21], [21]), ([22], [22]), ([23], [23]), ([], []), ([25], [25]), ([26], [26]), ([], []), ([28], [28]), ([27, 29], [27, 29]), ([30, 24], [30]), ([], []), ([32], [32]), ([33], [33]), ([], []), ([35], [35]), ([34, 36], [34, 36]), ([37, 31], [37]), ([], []), ([39], [39]), ([40], [40]), ([], []), ([42], [42]), ([41, 43], [41, 43]), ([44, 38], [44]), ([], []), ([46], [46]), ([47], [47]), ([], []), ([49], [49]), ([48, 50], [48, 50]), ([51, 45], [51]), ([], []), ([53], [53]), ([54], [54]), ([], []), ([56], [56]), ([55, 57], [55, 57]), ([58, 52], [58]), ([1, 6, 8, 11, 14, 20, 24, 31, 38, 45, 52, 59], [1, 6, 8, 11, 14, 20, 24, 31, 38, 45, 52, 59]), ([60, 59, 0, 1, 2, 3, 4, 5, 6, 7, 8, 9, 10, 11, 12, 13, 14, 15, 16, 17, 18, 19, 20, 21, 22, 23, 24, 25, 26, 27, 28, 29, 30, 31, 32, 33, 34, 35, 36, 37, 38, 39, 40, 41, 42, 43, 44, 45, 46, 47, 48, 49, 50, 51, 52, 53, 54, 55, 56, 57, 58, 59, 60], [60])])
def wharfagelaw2_IpClasses.B6 : List Nat := [0, 1, 0, 0, 8, 24, 60, 0, 128, 0, 512, 1536, 0, 4096, 12288, 0, 32768, 98304, 0, 262144, 1015808, 0, 2097152, 6291456, 14680064, 0, 33554432, 100663296, 0, 268435456, 1040187392, 2145386496, 0, 4294967296, 12884901888, 0, 34359738368, 133143986176, 274875809792, 0, 549755813888, 1649267441664, 0, 4398046511104, 17042430230528, 35184369991680, 0, 70368744177664, 211106232532992, 0, 562949953421312, 2181431069507584, 4503599625273344, 0, 9007199254740992, 27021597764222976, 0, 72057594037927936, 279223176896970752, 576460752301326336, 1152921504606846975, 2305843009213693951]
theorem wharfagelaw2_IpClasses.tab6 : rtab .any (opsOf Try.f6 6) = wharfagelaw2_IpClasses.T6 := by kernel_rfl
theorem wharfagelaw2_IpClasses.bits6 : waitsOk wharfagelaw2_IpClasses.T6.2 wharfagelaw2_IpClasses.B6 = true := by kernel_rfl
set_option maxHeartbeats 8000000 in
set_option maxRecDepth 100000 in
theorem wharfagelaw2_IpClasses.calls (k : Nat) (a0 : Int) (a1 : ByteArray) (r : Bool) (w : World) (h : wharfagelaw2_IpClasses.f k a0 a1 = some r) :
    Calls Try.prog 6 #[.int .i64 a0, .string a1] w fun e w' => e = .returned (.bool r) ∧ Below w.heap.size w w' := by
  have hu23 := Try.underlying23
  have HB := Aside0.mk (Below.refl w.heap.size w)
  have H : ((wharfagelaw2_awake.f k).bind fun t268 => (if t268 = true then (if 0 ≤ (mn (a1.size : Int) 40) then (if (mn (a1.size : Int) 40) ≤ (a1.size : Int) then (if 8 + (a1.extract 0 ((mn (a1.size : Int) 40) : Int).toNat).size ≤ 9223372036854775807 then ((ip_Put.f k 1 2 17 9 0 ((⟨#[97, 98, 99, 100, 101, 102, 103, 104]⟩ : ByteArray) ++ (a1.extract 0 ((mn (a1.size : Int) 40) : Int).toNat))).bind fun bt269 => ((wharfagelaw0_Num.f bt269.2).bind fun t271 => (if t271 = 0 then (wharfagelaw2_IpClasses.j0 k a0 bt269.1 (decide ((bt269.1.size : Int) < 28))) else (wharfagelaw2_IpClasses.j0 k a0 bt269.1 true)))) else (none)) else (none)) else (none)) else (none))) = some r := h
  clear h
  replace H := Option.bind_eq_some_iff.mp H
  obtain ⟨t268, A30, H⟩ := H
  replace H : (if t268 = true then (if 0 ≤ (mn (a1.size : Int) 40) then (if (mn (a1.size : Int) 40) ≤ (a1.size : Int) then (if 8 + (a1.extract 0 ((mn (a1.size : Int) 40) : Int).toNat).size ≤ 9223372036854775807 then ((ip_Put.f k 1 2 17 9 0 ((⟨#[97, 98, 99, 100, 101, 102, 103, 104]⟩ : ByteArray) ++ (a1.extract 0 ((mn (a1.size : Int) 40) : Int).toNat))).bind fun bt269 => ((wharfagelaw0_Num.f bt269.2).bind fun t271 => (if t271 = 0 then (wharfagelaw2_IpClasses.j0 k a0 bt269.1 (decide ((bt269.1.size : Int) < 28))) else (wharfagelaw2_IpClasses.j0 k a0 bt269.1 true)))) else (none)) else (none)) else (none)) else (none)) = some r := H
  have A3 := Aside0.mk A30
  clear A30
  by_cases c4 : t268 = true
  · subst c4
    have H1 : (if 0 ≤ (mn (a1.size : Int) 40) then (if (mn (a1.size : Int) 40) ≤ (a1.size : Int) then (if 8 + (a1.extract 0 ((mn (a1.size : Int) 40) : Int).toNat).size ≤ 9223372036854775807 then ((ip_Put.f k 1 2 17 9 0 ((⟨#[97, 98, 99, 100, 101, 102, 103, 104]⟩ : ByteArray) ++ (a1.extract 0 ((mn (a1.size : Int) 40) : Int).toNat))).bind fun bt269 => ((wharfagelaw0_Num.f bt269.2).bind fun t271 => (if t271 = 0 then (wharfagelaw2_IpClasses.j0 k a0 bt269.1 (decide ((bt269.1.size : Int) < 28))) else (wharfagelaw2_IpClasses.j0 k a0 bt269.1 true)))) else (none)) else (none)) else (none)) = some r := by rw [if_pos rfl] at H; exact H
    clear H
    have H := H1
    clear H1
    obtain ⟨ji5, hji5⟩ : ∃ j_ : Int, (mn (a1.size : Int) 40) = j_ := ⟨_, rfl⟩
    replace H : (if 0 ≤ (ji5) then (if (ji5) ≤ (a1.size : Int) then (if 8 + (a1.extract 0 ((ji5) : Int).toNat).size ≤ 9223372036854775807 then ((ip_Put.f k 1 2 17 9 0 ((⟨#[97, 98, 99, 100, 101, 102, 103, 104]⟩ : ByteArray) ++ (a1.extract 0 ((ji5) : Int).toNat))).bind fun bt269 => ((wharfagelaw0_Num.f bt269.2).bind fun t271 => (if t271 = 0 then (wharfagelaw2_IpClasses.j0 k a0 bt269.1 (decide ((bt269.1.size : Int) < 28))) else (wharfagelaw2_IpClasses.j0 k a0 bt269.1 true)))) else (none)) else (none)) else (none)) = some r := by first | (rw [hji5] at H; exact H) | (simp only [hji5] at H ⊢; exact H)
    (try rw [hji5] at A3)
    (try (have hji5h : ji5 ≤ 40 := by (rw [← hji5]; unfold mn; (repeat' split) <;> omega)))
    (try (have hji5g : ji5 ≤ 64 := by omega))
    (try (have hji5l : 0 ≤ ji5 := by (rw [← hji5]; unfold mn; (repeat' split) <;> omega)))
    (try (have hji5m : 0 ≤ ji5 := by omega))
    have hji5_ : (if 40 < (a1.size : Int) then 40 else (a1.size : Int)) = ji5 := hji5
    by_cases c6 : 0 ≤ (ji5)
    · rw [if_pos c6] at H
      have c6b0 := eq_true c6
      have c6b1 : decide (0 ≤ (ji5)) = true := decide_eq_true c6
      clear c6
      by_cases c7 : (ji5) ≤ (a1.size : Int)
      · rw [if_pos c7] at H
        have c7b0 := eq_true c7
        have c7b1 : decide ((ji5) ≤ (a1.size : Int)) = true := decide_eq_true c7
        clear c7
        by_cases c8 : 8 + (a1.extract 0 ((ji5) : Int).toNat).size ≤ 9223372036854775807
        · rw [if_pos c8] at H
          have c8b0 := eq_true c8
          have c8b1 : decide (8 + (a1.extract 0 ((ji5) : Int).toNat).size ≤ 9223372036854775807) = true := decide_eq_true c8
          try have c8b2 : (9223372036854775807 < 8 + (a1.extract 0 ((ji5) : Int).toNat).size) = False := eq_false (Nat.not_lt.2 c8)
          have c8z := eq_false (Nat.not_lt.mpr c8)
          (try simp only [ByteArray.size_append', ByteArray.size_mk', ByteArray.size_extract, List.size_toArray, List.length_cons, List.length_nil, Nat.reduceAdd, Nat.zero_add, Nat.sub_zero, Nat.min_self] at c8z)
          replace H := Option.bind_eq_some_iff.mp H
          obtain ⟨⟨t269, t270⟩, A90, H⟩ := H
          replace H : ((wharfagelaw0_Num.f t270).bind fun t271 => (if t271 = 0 then (wharfagelaw2_IpClasses.j0 k a0 t269 (decide ((t269.size : Int) < 28))) else (wharfagelaw2_IpClasses.j0 k a0 t269 true))) = some r := H
          have A9 := Aside0.mk A90
          clear A90
          have HC10 := Aside0.mk H
          clear H
          go_enter Try.func6, Try.ntmps6
          go_upto_region 4 with (first | ((with_reducible refine gate_callee (f := 25) rfl ?_); refine goesL_ (some 13) rfl rfl Try.func25 (by kernel_rfl) rfl #[] rfl (by (try simp only [List.map_toArray, List.map_cons, List.map_nil]); first | done | rfl | (simp only [List.length_drop, List.length_take]; rfl)) ?_; (with_reducible refine (wharfagelaw2_awake.calls k  true _ A3.out).mono ?_); rintro e w11 ⟨rfl, hb⟩; refine ⟨_, rfl, ?_⟩; have n0_ := Aside0.mk (below_step (by repeat (first | (with_reducible first | exact HB.out | apply below_alloc | apply pw_below_drewN | apply below_drew1) | exact HB.out)) hb); clear HB; have HB := n0_; clear n0_; (try clear hb); (try clear hb2); (try clear hk); (try clear hi)) | ((with_reducible refine gate_callee (f := 17) rfl ?_); refine goesL_ (some 23) rfl rfl Try.func17 (by kernel_rfl) rfl #[.agg #[.int .i64 1, .int .i64 2, .int .i64 17, .int .i64 9, .int .i64 0, .string ((⟨#[97, 98, 99, 100, 101, 102, 103, 104]⟩ : ByteArray) ++ (a1.extract 0 ((ji5) : Int).toNat))]] rfl (by (try simp only [List.map_toArray, List.map_cons, List.map_nil]); first | done | (simp only [hji5]; rfl) | rfl | (simp only [List.length_drop, List.length_take]; rfl)) ?_; (with_reducible refine (ip_Put.calls k 1 2 17 9 0 ((⟨#[97, 98, 99, 100, 101, 102, 103, 104]⟩ : ByteArray) ++ (a1.extract 0 ((ji5) : Int).toNat)) t269 t270 _ A9.out).mono ?_); rintro e w12 ⟨rfl, hb⟩; refine ⟨_, rfl, ?_⟩; have n0_ := Aside0.mk (below_step (by repeat (first | (with_reducible first | exact HB.out | apply below_alloc | apply pw_below_drewN | apply below_drew1) | exact HB.out)) hb); clear HB; have HB := n0_; clear n0_; (try clear hb); (try clear hb2); (try clear hk); (try clear hi)))
          (try simp only [Act.put, List.setIfInBounds_toArray, List.set_cons_zero, List.set_cons_succ])
          go_cut [33] (fun v33 wc => ∃ (kq : Nat) (x33_9 : Bool), v33 = .bool x33_9 ∧ Aside0 (wharfagelaw2_IpClasses.j0 kq a0 t269 x33_9 = some r) ∧ Aside0 (kq ≤ k) ∧ Aside0 (Below w.heap.size w wc))
          case first =>
            have H := HC10.out
            clear HC10
            replace H := Option.bind_eq_some_iff.mp H
            obtain ⟨t271, A130, H⟩ := H
            replace H : (if t271 = 0 then (wharfagelaw2_IpClasses.j0 k a0 t269 (decide ((t269.size : Int) < 28))) else (wharfagelaw2_IpClasses.j0 k a0 t269 true)) = some r := H
            have A13 := Aside0.mk A130
            clear A130
            by_cases c14 : t271 = 0
            · rw [if_pos c14] at H
              have c14b0 : (t271 == 0) = true := beq_iff_eq.mpr c14
              have c14b1 : (t271 != 0) = false := bne_eq_false_iff_eq.mpr c14
              clear c14
              (first | rw [c14b0] | (simp only [i64_w, i32_w]; rw [c14b0]) | skip)
              have H' := Aside0.mk H
              clear H
              go_wp2_with (first | ((with_reducible refine gate_callee (f := 19) rfl ?_); refine goesL_ (some 27) rfl rfl Try.func19 (by kernel_rfl) rfl #[.int .i64 t270] rfl (by (try simp only [List.map_toArray, List.map_cons, List.map_nil]); first | done | rfl | (simp only [List.length_drop, List.length_take]; rfl)) ?_; (with_reducible refine (wharfagelaw0_Num.calls t270 t271 _ A13.out).mono ?_); rintro e w' ⟨rfl, ⟨nd, rfl⟩⟩; refine ⟨_, rfl, ?_⟩))
              go_meet
              case rel => exact ⟨_, (decide ((t269.size : Int) < 28)), (by first | rfl | (simp; done) | (simp [*]; done)), H', ⟨by first | omega | exact Nat.le_refl _⟩, ⟨by repeat (first | (with_reducible first | exact HB.out | apply below_alloc | apply pw_below_drewN | apply below_drew1) | exact HB.out)⟩⟩
            · rw [if_neg c14] at H
              have c14b0 : (t271 == 0) = false := beq_eq_false_iff_ne.mpr c14
              have c14b1 : (t271 != 0) = true := bne_iff_ne.mpr c14
              (first | rw [c14b0] | (simp only [i64_w, i32_w]; rw [c14b0]) | skip)
              have H' := Aside0.mk H
              clear H
              go_wp2_with (first | ((with_reducible refine gate_callee (f := 19) rfl ?_); refine goesL_ (some 27) rfl rfl Try.func19 (by kernel_rfl) rfl #[.int .i64 t270] rfl (by (try simp only [List.map_toArray, List.map_cons, List.map_nil]); first | done | rfl | (simp only [List.length_drop, List.length_take]; rfl)) ?_; (with_reducible refine (wharfagelaw0_Num.calls t270 t271 _ A13.out).mono ?_); rintro e w' ⟨rfl, ⟨nd, rfl⟩⟩; refine ⟨_, rfl, ?_⟩))
              go_meet
              case rel => exact ⟨_, (true), (by first | rfl | (simp; done) | (simp [*]; done)), H', ⟨by first | omega | exact Nat.le_refl _⟩, ⟨by repeat (first | (with_reducible first | exact HB.out | apply below_alloc | apply pw_below_drewN | apply below_drew1) | exact HB.out)⟩⟩
          case rest =>
            clear HC10
            try clear c1
            try clear c2
            try clear p2
            try clear c4
            try clear c6
            try clear c6b0
            try clear c6b1
            try clear c7
            try clear c7b0
            try clear c7b1
            try clear c8
            try clear c8b0
            try clear c8b1
            try clear c8b2
            try clear c14
            try clear c14b0
            try clear c14b1
            obtain ⟨kq, x33_9, rfl, HA, HJ9, HB⟩ := hcut
            cases kq with
            | zero => exact absurd HA.out (by simp [wharfagelaw2_IpClasses.j0])
            | succ kj9 =>
              have H := HA.out
              clear HA
              simp only [wharfagelaw2_IpClasses.j0] at H
              by_cases c15 : x33_9 = true
              · subst c15
                have H1 : (none) = some r := by rw [if_pos rfl] at H; exact H
                clear H
                have H := H1
                clear H1
                exact absurd H (by simp)
              · replace c15 := Bool.eq_false_iff.mpr c15
                subst c15
                have H1 : (if 0 ≤ 19 then (if 19 ≤ (t269.size : Int) then (if 0 ≤ (wrap64 ((t269.size : Int) - 1)) then (if (wrap64 ((t269.size : Int) - 1)) ≤ (t269.size : Int) then (if t269.size + 1 ≤ 9223372036854775807 then (if 1 ≤ (t269.size : Int) then (if 1 + (t269.extract 1 t269.size).size ≤ 9223372036854775807 then (if 0 ≤ 8 then (if 8 ≤ (t269.size : Int) then (if (t269.extract 0 8).size + 1 ≤ 9223372036854775807 then (if 9 ≤ (t269.size : Int) then (if ((t269.extract 0 8) ++ (⟨#[10]⟩ : ByteArray)).size + (t269.extract 9 t269.size).size ≤ 9223372036854775807 then ((wharfagelaw2_whole.f kj9 ((⟨#[70]⟩ : ByteArray) ++ (t269.extract 1 t269.size))).bind fun t272 => (if 0 ≤ 6 then (if 6 ≤ (t269.size : Int) then (if (t269.extract 0 6).size + 2 ≤ 9223372036854775807 then (if ((t269.extract 0 6) ++ (⟨#[32, 0]⟩ : ByteArray)).size + (t269.extract 8 t269.size).size ≤ 9223372036854775807 then ((wharfagelaw2_whole.f kj9 (((t269.extract 0 6) ++ (⟨#[32, 0]⟩ : ByteArray)) ++ (t269.extract 8 t269.size))).bind fun t273 => (if ((t269.extract 0 6) ++ (⟨#[0, 1]⟩ : ByteArray)).size + (t269.extract 8 t269.size).size ≤ 9223372036854775807 then ((wharfagelaw2_whole.f kj9 (((t269.extract 0 6) ++ (⟨#[0, 1]⟩ : ByteArray)) ++ (t269.extract 8 t269.size))).bind fun t274 => (if ((t269.extract 0 6) ++ (⟨#[128, 0]⟩ : ByteArray)).size + (t269.extract 8 t269.size).size ≤ 9223372036854775807 then ((wharfagelaw2_whole.f kj9 (((t269.extract 0 6) ++ (⟨#[128, 0]⟩ : ByteArray)) ++ (t269.extract 8 t269.size))).bind fun t275 => (if ((t269.extract 0 6) ++ (⟨#[0, 0]⟩ : ByteArray)).size + (t269.extract 8 t269.size).size ≤ 9223372036854775807 then ((wharfagelaw2_whole.f kj9 (((t269.extract 0 6) ++ (⟨#[0, 0]⟩ : ByteArray)) ++ (t269.extract 8 t269.size))).bind fun t276 => (if 0 ≤ 1 then (if (t269.extract 0 1).size + 1 ≤ 9223372036854775807 then (if 2 ≤ (t269.size : Int) then (if ((t269.extract 0 1) ++ (⟨#[255]⟩ : ByteArray)).size + (t269.extract 2 t269.size).size ≤ 9223372036854775807 then ((wharfagelaw2_whole.f kj9 (((t269.extract 0 1) ++ (⟨#[255]⟩ : ByteArray)) ++ (t269.extract 2 t269.size))).bind fun t277 => ((some (([(⟨#[]⟩ : ByteArray), t269.extract 0 19, t269.extract 0 ((wrap64 ((t269.size : Int) - 1)) : Int).toNat, t269 ++ (⟨#[120]⟩ : ByteArray), (⟨#[101]⟩ : ByteArray) ++ (t269.extract 1 t269.size), (⟨#[68]⟩ : ByteArray) ++ (t269.extract 1 t269.size), ((t269.extract 0 8) ++ (⟨#[10]⟩ : ByteArray)) ++ (t269.extract 9 t269.size), t272, t273, t274, t275, t276, t277] : List ByteArray) : List ByteArray)).bind fun y278 => ((some (([1, 1, 1, 1, 1, 1, 1, 3, 2, 2, 2, 0, 0] : List Int) : List Int)).bind fun y281 => (if 0 ≤ (wrap64 (Int.tmod (IntKind.u64.wrap (a0)) 13)) then (if (wrap64 (Int.tmod (IntKind.u64.wrap (a0)) 13)) < (y278.length : Int) then ((ip_Get.f kj9 (rdOf ByteArray.empty y278 (wrap64 (Int.tmod (IntKind.u64.wrap (a0)) 13)))).bind fun bt285 => (if (wrap64 (Int.tmod (IntKind.u64.wrap (a0)) 13)) < (y281.length : Int) then (if bt285.2.2.2.2.2.2.1 = (rd y281 (wrap64 (Int.tmod (IntKind.u64.wrap (a0)) 13))) then ((wharfagelaw0_Num.f bt285.2.2.2.2.2.2.2).bind fun t295 => (if ((t295 == 200) == (bt285.2.2.2.2.2.2.1 == 1)) = true then (some ((bt285.2.2.2.2.2.2.1 == 0) == (!(bt285.1 == 0) || (!(bt285.2.1 == 0) || (!(bt285.2.2.1 == 0) || (!(bt285.2.2.2.1 == 0) || (!(bt285.2.2.2.2.1 == 0) || (!(bt285.2.2.2.2.2.1.toList == ([] : List UInt8)))))))))) else (none))) else (none)) else (none))) else (none)) else (none))))) else (none)) else (none)) else (none)) else (none))) else (none))) else (none))) else (none))) else (none)) else (none)) else (none)) else (none))) else (none)) else (none)) else (none)) else (none)) else (none)) else (none)) else (none)) else (none)) else (none)) else (none)) else (none)) else (none)) = some r := by rw [if_neg (show ¬ (false = true) by decide)] at H; exact H
                clear H
                have H := H1
                clear H1
                by_cases c16 : 0 ≤ 19
                · rw [if_pos c16] at H
                  have c16b0 := eq_true c16
                  have c16b1 : decide (0 ≤ 19) = true := decide_eq_true c16
                  clear c16
                  by_cases c17 : 19 ≤ (t269.size : Int)
                  · rw [if_pos c17] at H
                    have c17b0 := eq_true c17
                    have c17b1 : decide (19 ≤ (t269.size : Int)) = true := decide_eq_true c17
                    clear c17
                    obtain ⟨ji18, hji18⟩ : ∃ j_ : Int, (wrap64 ((t269.size : Int) - 1)) = j_ := ⟨_, rfl⟩
                    replace H : (if 0 ≤ (ji18) then (if (ji18) ≤ (t269.size : Int) then (if t269.size + 1 ≤ 9223372036854775807 then (if 1 ≤ (t269.size : Int) then (if 1 + (t269.extract 1 t269.size).size ≤ 9223372036854775807 then (if 0 ≤ 8 then (if 8 ≤ (t269.size : Int) then (if (t269.extract 0 8).size + 1 ≤ 9223372036854775807 then (if 9 ≤ (t269.size : Int) then (if ((t269.extract 0 8) ++ (⟨#[10]⟩ : ByteArray)).size + (t269.extract 9 t269.size).size ≤ 9223372036854775807 then ((wharfagelaw2_whole.f kj9 ((⟨#[70]⟩ : ByteArray) ++ (t269.extract 1 t269.size))).bind fun t272 => (if 0 ≤ 6 then (if 6 ≤ (t269.size : Int) then (if (t269.extract 0 6).size + 2 ≤ 9223372036854775807 then (if ((t269.extract 0 6) ++ (⟨#[32, 0]⟩ : ByteArray)).size + (t269.extract 8 t269.size).size ≤ 9223372036854775807 then ((wharfagelaw2_whole.f kj9 (((t269.extract 0 6) ++ (⟨#[32, 0]⟩ : ByteArray)) ++ (t269.extract 8 t269.size))).bind fun t273 => (if ((t269.extract 0 6) ++ (⟨#[0, 1]⟩ : ByteArray)).size + (t269.extract 8 t269.size).size ≤ 9223372036854775807 then ((wharfagelaw2_whole.f kj9 (((t269.extract 0 6) ++ (⟨#[0, 1]⟩ : ByteArray)) ++ (t269.extract 8 t269.size))).bind fun t274 => (if ((t269.extract 0 6) ++ (⟨#[128, 0]⟩ : ByteArray)).size + (t269.extract 8 t269.size).size ≤ 9223372036854775807 then ((wharfagelaw2_whole.f kj9 (((t269.extract 0 6) ++ (⟨#[128, 0]⟩ : ByteArray)) ++ (t269.extract 8 t269.size))).bind fun t275 => (if ((t269.extract 0 6) ++ (⟨#[0, 0]⟩ : ByteArray)).size + (t269.extract 8 t269.size).size ≤ 9223372036854775807 then ((wharfagelaw2_whole.f kj9 (((t269.extract 0 6) ++ (⟨#[0, 0]⟩ : ByteArray)) ++ (t269.extract 8 t269.size))).bind fun t276 => (if 0 ≤ 1 then (if (t269.extract 0 1).size + 1 ≤ 9223372036854775807 then (if 2 ≤ (t269.size : Int) then (if ((t269.extract 0 1) ++ (⟨#[255]⟩ : ByteArray)).size + (t269.extract 2 t269.size).size ≤ 9223372036854775807 then ((wharfagelaw2_whole.f kj9 (((t269.extract 0 1) ++ (⟨#[255]⟩ : ByteArray)) ++ (t269.extract 2 t269.size))).bind fun t277 => ((some (([(⟨#[]⟩ : ByteArray), t269.extract 0 19, t269.extract 0 ((ji18) : Int).toNat, t269 ++ (⟨#[120]⟩ : ByteArray), (⟨#[101]⟩ : ByteArray) ++ (t269.extract 1 t269.size), (⟨#[68]⟩ : ByteArray) ++ (t269.extract 1 t269.size), ((t269.extract 0 8) ++ (⟨#[10]⟩ : ByteArray)) ++ (t269.extract 9 t269.size), t272, t273, t274, t275, t276, t277] : List ByteArray) : List ByteArray)).bind fun y278 => ((some (([1, 1, 1, 1, 1, 1, 1, 3, 2, 2, 2, 0, 0] : List Int) : List Int)).bind fun y281 => (if 0 ≤ (wrap64 (Int.tmod (IntKind.u64.wrap (a0)) 13)) then (if (wrap64 (Int.tmod (IntKind.u64.wrap (a0)) 13)) < (y278.length : Int) then ((ip_Get.f kj9 (rdOf ByteArray.empty y278 (wrap64 (Int.tmod (IntKind.u64.wrap (a0)) 13)))).bind fun bt285 => (if (wrap64 (Int.tmod (IntKind.u64.wrap (a0)) 13)) < (y281.length : Int) then (if bt285.2.2.2.2.2.2.1 = (rd y281 (wrap64 (Int.tmod (IntKind.u64.wrap (a0)) 13))) then ((wharfagelaw0_Num.f bt285.2.2.2.2.2.2.2).bind fun t295 => (if ((t295 == 200) == (bt285.2.2.2.2.2.2.1 == 1)) = true then (some ((bt285.2.2.2.2.2.2.1 == 0) == (!(bt285.1 == 0) || (!(bt285.2.1 == 0) || (!(bt285.2.2.1 == 0) || (!(bt285.2.2.2.1 == 0) || (!(bt285.2.2.2.2.1 == 0) || (!(bt285.2.2.2.2.2.1.toList == ([] : List UInt8)))))))))) else (none))) else (none)) else (none))) else (none)) else (none))))) else (none)) else (none)) else (none)) else (none))) else (none))) else (none))) else (none))) else (none)) else (none)) else (none)) else (none))) else (none)) else (none)) else (none)) else (none)) else (none)) else (none)) else (none)) else (none)) else (none)) else (none)) = some r := by first | (rw [hji18] at H; exact H) | (simp only [hji18] at H ⊢; exact H)
                    have hji18w : (IntKind.i64.wrap ((t269.size : Int) - 1)) = ji18 := (i64_w _).trans hji18
                    by_cases c19 : 0 ≤ (ji18)
                    · rw [if_pos c19] at H
                      have c19b0 := eq_true c19
                      have c19b1 : decide (0 ≤ (ji18)) = true := decide_eq_true c19
                      clear c19
                      by_cases c20 : (ji18) ≤ (t269.size : Int)
                      · rw [if_pos c20] at H
                        have c20b0 := eq_true c20
                        have c20b1 : decide ((ji18) ≤ (t269.size : Int)) = true := decide_eq_true c20
                        clear c20
                        by_cases c21 : t269.size + 1 ≤ 9223372036854775807
                        · rw [if_pos c21] at H
                          have c21b0 := eq_true c21
                          have c21b1 : decide (t269.size + 1 ≤ 9223372036854775807) = true := decide_eq_true c21
                          try have c21b2 : (9223372036854775807 < t269.size + 1) = False := eq_false (Nat.not_lt.2 c21)
                          by_cases c22 : 1 ≤ (t269.size : Int)
                          · rw [if_pos c22] at H
                            have c22b0 := eq_true c22
                            have c22b1 : decide (1 ≤ (t269.size : Int)) = true := decide_eq_true c22
                            clear c22
                            by_cases c23 : 1 + (t269.extract 1 t269.size).size ≤ 9223372036854775807
                            · rw [if_pos c23] at H
                              have c23b0 := eq_true c23
                              have c23b1 : decide (1 + (t269.extract 1 t269.size).size ≤ 9223372036854775807) = true := decide_eq_true c23
                              try have c23b2 : (9223372036854775807 < 1 + (t269.extract 1 t269.size).size) = False := eq_false (Nat.not_lt.2 c23)
                              have c23z := eq_false (Nat.not_lt.mpr c23)
                              (try simp only [ByteArray.size_append', ByteArray.size_mk', ByteArray.size_extract, List.size_toArray, List.length_cons, List.length_nil, Nat.reduceAdd, Nat.zero_add, Nat.sub_zero, Nat.min_self] at c23z)
                              have c24b0 := eq_true (of_decide_eq_true (by first | (with_reducible assumption) | assumption) : 1 ≤ (t269.size : Int))
                              by_cases c25 : 0 ≤ 8
                              · rw [if_pos c25] at H
                                have c25b0 := eq_true c25
                                have c25b1 : decide (0 ≤ 8) = true := decide_eq_true c25
                                clear c25
                                by_cases c26 : 8 ≤ (t269.size : Int)
                                · rw [if_pos c26] at H
                                  have c26b0 := eq_true c26
                                  have c26b1 : decide (8 ≤ (t269.size : Int)) = true := decide_eq_true c26
                                  clear c26
                                  by_cases c27 : (t269.extract 0 8).size + 1 ≤ 9223372036854775807
                                  · rw [if_pos c27] at H
                                    have c27b0 := eq_true c27
                                    have c27b1 : decide ((t269.extract 0 8).size + 1 ≤ 9223372036854775807) = true := decide_eq_true c27
                                    try have c27b2 : (9223372036854775807 < (t269.extract 0 8).size + 1) = False := eq_false (Nat.not_lt.2 c27)
                                    have c27z := eq_false (Nat.not_lt.mpr c27)
                                    (try simp only [ByteArray.size_append', ByteArray.size_mk', ByteArray.size_extract, List.size_toArray, List.length_cons, List.length_nil, Nat.reduceAdd, Nat.zero_add, Nat.sub_zero, Nat.min_self] at c27z)
                                    by_cases c28 : 9 ≤ (t269.size : Int)
                                    · rw [if_pos c28] at H
                                      have c28b0 := eq_true c28
                                      have c28b1 : decide (9 ≤ (t269.size : Int)) = true := decide_eq_true c28
                                      clear c28
                                      by_cases c29 : ((t269.extract 0 8) ++ (⟨#[10]⟩ : ByteArray)).size + (t269.extract 9 t269.size).size ≤ 9223372036854775807
                                      · rw [if_pos c29] at H
                                        have c29b0 := eq_true c29
                                        have c29b1 : decide (((t269.extract 0 8) ++ (⟨#[10]⟩ : ByteArray)).size + (t269.extract 9 t269.size).size ≤ 9223372036854775807) = true := decide_eq_true c29
                                        try have c29b2 : (9223372036854775807 < ((t269.extract 0 8) ++ (⟨#[10]⟩ : ByteArray)).size + (t269.extract 9 t269.size).size) = False := eq_false (Nat.not_lt.2 c29)
                                        have c29z := eq_false (Nat.not_lt.mpr c29)
                                        (try simp only [ByteArray.size_append', ByteArray.size_mk', ByteArray.size_extract, List.size_toArray, List.length_cons, List.length_nil, Nat.reduceAdd, Nat.zero_add, Nat.sub_zero, Nat.min_self] at c29z)
                                        have c30b0 := eq_true (of_decide_eq_true (by first | (with_reducible assumption) | assumption) : 1 ≤ (t269.size : Int))
                                        replace H := Option.bind_eq_some_iff.mp H
                                        obtain ⟨t272, A310, H⟩ := H
                                        replace H : (if 0 ≤ 6 then (if 6 ≤ (t269.size : Int) then (if (t269.extract 0 6).size + 2 ≤ 9223372036854775807 then (if ((t269.extract 0 6) ++ (⟨#[32, 0]⟩ : ByteArray)).size + (t269.extract 8 t269.size).size ≤ 9223372036854775807 then ((wharfagelaw2_whole.f kj9 (((t269.extract 0 6) ++ (⟨#[32, 0]⟩ : ByteArray)) ++ (t269.extract 8 t269.size))).bind fun t273 => (if ((t269.extract 0 6) ++ (⟨#[0, 1]⟩ : ByteArray)).size + (t269.extract 8 t269.size).size ≤ 9223372036854775807 then ((wharfagelaw2_whole.f kj9 (((t269.extract 0 6) ++ (⟨#[0, 1]⟩ : ByteArray)) ++ (t269.extract 8 t269.size))).bind fun t274 => (if ((t269.extract 0 6) ++ (⟨#[128, 0]⟩ : ByteArray)).size + (t269.extract 8 t269.size).size ≤ 9223372036854775807 then ((wharfagelaw2_whole.f kj9 (((t269.extract 0 6) ++ (⟨#[128, 0]⟩ : ByteArray)) ++ (t269.extract 8 t269.size))).bind fun t275 => (if ((t269.extract 0 6) ++ (⟨#[0, 0]⟩ : ByteArray)).size + (t269.extract 8 t269.size).size ≤ 9223372036854775807 then ((wharfagelaw2_whole.f kj9 (((t269.extract 0 6) ++ (⟨#[0, 0]⟩ : ByteArray)) ++ (t269.extract 8 t269.size))).bind fun t276 => (if 0 ≤ 1 then (if (t269.extract 0 1).size + 1 ≤ 9223372036854775807 then (if 2 ≤ (t269.size : Int) then (if ((t269.extract 0 1) ++ (⟨#[255]⟩ : ByteArray)).size + (t269.extract 2 t269.size).size ≤ 9223372036854775807 then ((wharfagelaw2_whole.f kj9 (((t269.extract 0 1) ++ (⟨#[255]⟩ : ByteArray)) ++ (t269.extract 2 t269.size))).bind fun t277 => ((some (([(⟨#[]⟩ : ByteArray), t269.extract 0 19, t269.extract 0 ((ji18) : Int).toNat, t269 ++ (⟨#[120]⟩ : ByteArray), (⟨#[101]⟩ : ByteArray) ++ (t269.extract 1 t269.size), (⟨#[68]⟩ : ByteArray) ++ (t269.extract 1 t269.size), ((t269.extract 0 8) ++ (⟨#[10]⟩ : ByteArray)) ++ (t269.extract 9 t269.size), t272, t273, t274, t275, t276, t277] : List ByteArray) : List ByteArray)).bind fun y278 => ((some (([1, 1, 1, 1, 1, 1, 1, 3, 2, 2, 2, 0, 0] : List Int) : List Int)).bind fun y281 => (if 0 ≤ (wrap64 (Int.tmod (IntKind.u64.wrap (a0)) 13)) then (if (wrap64 (Int.tmod (IntKind.u64.wrap (a0)) 13)) < (y278.length : Int) then ((ip_Get.f kj9 (rdOf ByteArray.empty y278 (wrap64 (Int.tmod (IntKind.u64.wrap (a0)) 13)))).bind fun bt285 => (if (wrap64 (Int.tmod (IntKind.u64.wrap (a0)) 13)) < (y281.length : Int) then (if bt285.2.2.2.2.2.2.1 = (rd y281 (wrap64 (Int.tmod (IntKind.u64.wrap (a0)) 13))) then ((wharfagelaw0_Num.f bt285.2.2.2.2.2.2.2).bind fun t295 => (if ((t295 == 200) == (bt285.2.2.2.2.2.2.1 == 1)) = true then (some ((bt285.2.2.2.2.2.2.1 == 0) == (!(bt285.1 == 0) || (!(bt285.2.1 == 0) || (!(bt285.2.2.1 == 0) || (!(bt285.2.2.2.1 == 0) || (!(bt285.2.2.2.2.1 == 0) || (!(bt285.2.2.2.2.2.1.toList == ([] : List UInt8)))))))))) else (none))) else (none)) else (none))) else (none)) else (none))))) else (none)) else (none)) else (none)) else (none))) else (none))) else (none))) else (none))) else (none)) else (none)) else (none)) else (none)) = some r := H
                                        have A31 := Aside0.mk A310
                                        clear A310
                                        by_cases c32 : 0 ≤ 6
                                        · rw [if_pos c32] at H
                                          have c32b0 := eq_true c32
                                          have c32b1 : decide (0 ≤ 6) = true := decide_eq_true c32
                                          clear c32
                                          by_cases c33 : 6 ≤ (t269.size : Int)
                                          · rw [if_pos c33] at H
                                            have c33b0 := eq_true c33
                                            have c33b1 : decide (6 ≤ (t269.size : Int)) = true := decide_eq_true c33
                                            clear c33
                                            by_cases c34 : (t269.extract 0 6).size + 2 ≤ 9223372036854775807
                                            · rw [if_pos c34] at H
                                              have c34b0 := eq_true c34
                                              have c34b1 : decide ((t269.extract 0 6).size + 2 ≤ 9223372036854775807) = true := decide_eq_true c34
                                              try have c34b2 : (9223372036854775807 < (t269.extract 0 6).size + 2) = False := eq_false (Nat.not_lt.2 c34)
                                              have c34z := eq_false (Nat.not_lt.mpr c34)
                                              (try simp only [ByteArray.size_append', ByteArray.size_mk', ByteArray.size_extract, List.size_toArray, List.length_cons, List.length_nil, Nat.reduceAdd, Nat.zero_add, Nat.sub_zero, Nat.min_self] at c34z)
                                              have c35b0 := eq_true (of_decide_eq_true (by first | (with_reducible assumption) | assumption) : 8 ≤ (t269.size : Int))
                                              by_cases c36 : ((t269.extract 0 6) ++ (⟨#[32, 0]⟩ : ByteArray)).size + (t269.extract 8 t269.size).size ≤ 9223372036854775807
                                              · rw [if_pos c36] at H
                                                have c36b0 := eq_true c36
                                                have c36b1 : decide (((t269.extract 0 6) ++ (⟨#[32, 0]⟩ : ByteArray)).size + (t269.extract 8 t269.size).size ≤ 9223372036854775807) = true := decide_eq_true c36
                                                try have c36b2 : (9223372036854775807 < ((t269.extract 0 6) ++ (⟨#[32, 0]⟩ : ByteArray)).size + (t269.extract 8 t269.size).size) = False := eq_false (Nat.not_lt.2 c36)
                                                have c36z := eq_false (Nat.not_lt.mpr c36)
                                                (try simp only [ByteArray.size_append', ByteArray.size_mk', ByteArray.size_extract, List.size_toArray, List.length_cons, List.length_nil, Nat.reduceAdd, Nat.zero_add, Nat.sub_zero, Nat.min_self] at c36z)
                                                replace H := Option.bind_eq_some_iff.mp H
                                                obtain ⟨t273, A370, H⟩ := H
                                                replace H : (if ((t269.extract 0 6) ++ (⟨#[0, 1]⟩ : ByteArray)).size + (t269.extract 8 t269.size).size ≤ 9223372036854775807 then ((wharfagelaw2_whole.f kj9 (((t269.extract 0 6) ++ (⟨#[0, 1]⟩ : ByteArray)) ++ (t269.extract 8 t269.size))).bind fun t274 => (if ((t269.extract 0 6) ++ (⟨#[128, 0]⟩ : ByteArray)).size + (t269.extract 8 t269.size).size ≤ 9223372036854775807 then ((wharfagelaw2_whole.f kj9 (((t269.extract 0 6) ++ (⟨#[128, 0]⟩ : ByteArray)) ++ (t269.extract 8 t269.size))).bind fun t275 => (if ((t269.extract 0 6) ++ (⟨#[0, 0]⟩ : ByteArray)).size + (t269.extract 8 t269.size).size ≤ 9223372036854775807 then ((wharfagelaw2_whole.f kj9 (((t269.extract 0 6) ++ (⟨#[0, 0]⟩ : ByteArray)) ++ (t269.extract 8 t269.size))).bind fun t276 => (if 0 ≤ 1 then (if (t269.extract 0 1).size + 1 ≤ 9223372036854775807 then (if 2 ≤ (t269.size : Int) then (if ((t269.extract 0 1) ++ (⟨#[255]⟩ : ByteArray)).size + (t269.extract 2 t269.size).size ≤ 9223372036854775807 then ((wharfagelaw2_whole.f kj9 (((t269.extract 0 1) ++ (⟨#[255]⟩ : ByteArray)) ++ (t269.extract 2 t269.size))).bind fun t277 => ((some (([(⟨#[]⟩ : ByteArray), t269.extract 0 19, t269.extract 0 ((ji18) : Int).toNat, t269 ++ (⟨#[120]⟩ : ByteArray), (⟨#[101]⟩ : ByteArray) ++ (t269.extract 1 t269.size), (⟨#[68]⟩ : ByteArray) ++ (t269.extract 1 t269.size), ((t269.extract 0 8) ++ (⟨#[10]⟩ : ByteArray)) ++ (t269.extract 9 t269.size), t272, t273, t274, t275, t276, t277] : List ByteArray) : List ByteArray)).bind fun y278 => ((some (([1, 1, 1, 1, 1, 1, 1, 3, 2, 2, 2, 0, 0] : List Int) : List Int)).bind fun y281 => (if 0 ≤ (wrap64 (Int.tmod (IntKind.u64.wrap (a0)) 13)) then (if (wrap64 (Int.tmod (IntKind.u64.wrap (a0)) 13)) < (y278.length : Int) then ((ip_Get.f kj9 (rdOf ByteArray.empty y278 (wrap64 (Int.tmod (IntKind.u64.wrap (a0)) 13)))).bind fun bt285 => (if (wrap64 (Int.tmod (IntKind.u64.wrap (a0)) 13)) < (y281.length : Int) then (if bt285.2.2.2.2.2.2.1 = (rd y281 (wrap64 (Int.tmod (IntKind.u64.wrap (a0)) 13))) then ((wharfagelaw0_Num.f bt285.2.2.2.2.2.2.2).bind fun t295 => (if ((t295 == 200) == (bt285.2.2.2.2.2.2.1 == 1)) = true then (some ((bt285.2.2.2.2.2.2.1 == 0) == (!(bt285.1 == 0) || (!(bt285.2.1 == 0) || (!(bt285.2.2.1 == 0) || (!(bt285.2.2.2.1 == 0) || (!(bt285.2.2.2.2.1 == 0) || (!(bt285.2.2.2.2.2.1.toList == ([] : List UInt8)))))))))) else (none))) else (none)) else (none))) else (none)) else (none))))) else (none)) else (none)) else (none)) else (none))) else (none))) else (none))) else (none)) = some r := H
                                                have A37 := Aside0.mk A370
                                                clear A370
                                                have c38b0 := eq_true (of_decide_eq_true (by first | (with_reducible assumption) | assumption) : 0 ≤ 6)
                                                have c39b0 := eq_true (of_decide_eq_true (by first | (with_reducible assumption) | assumption) : 6 ≤ (t269.size : Int))
                                                have c40b0 := eq_true (of_decide_eq_true (by first | (with_reducible assumption) | assumption) : 8 ≤ (t269.size : Int))
                                                by_cases c41 : ((t269.extract 0 6) ++ (⟨#[0, 1]⟩ : ByteArray)).size + (t269.extract 8 t269.size).size ≤ 9223372036854775807
                                                · rw [if_pos c41] at H
                                                  have c41b0 := eq_true c41
                                                  have c41b1 : decide (((t269.extract 0 6) ++ (⟨#[0, 1]⟩ : ByteArray)).size + (t269.extract 8 t269.size).size ≤ 9223372036854775807) = true := decide_eq_true c41
                                                  try have c41b2 : (9223372036854775807 < ((t269.extract 0 6) ++ (⟨#[0, 1]⟩ : ByteArray)).size + (t269.extract 8 t269.size).size) = False := eq_false (Nat.not_lt.2 c41)
                                                  have c41z := eq_false (Nat.not_lt.mpr c41)
                                                  (try simp only [ByteArray.size_append', ByteArray.size_mk', ByteArray.size_extract, List.size_toArray, List.length_cons, List.length_nil, Nat.reduceAdd, Nat.zero_add, Nat.sub_zero, Nat.min_self] at c41z)
                                                  replace H := Option.bind_eq_some_iff.mp H
                                                  obtain ⟨t274, A420, H⟩ := H
                                                  replace H : (if ((t269.extract 0 6) ++ (⟨#[128, 0]⟩ : ByteArray)).size + (t269.extract 8 t269.size).size ≤ 9223372036854775807 then ((wharfagelaw2_whole.f kj9 (((t269.extract 0 6) ++ (⟨#[128, 0]⟩ : ByteArray)) ++ (t269.extract 8 t269.size))).bind fun t275 => (if ((t269.extract 0 6) ++ (⟨#[0, 0]⟩ : ByteArray)).size + (t269.extract 8 t269.size).size ≤ 9223372036854775807 then ((wharfagelaw2_whole.f kj9 (((t269.extract 0 6) ++ (⟨#[0, 0]⟩ : ByteArray)) ++ (t269.extract 8 t269.size))).bind fun t276 => (if 0 ≤ 1 then (if (t269.extract 0 1).size + 1 ≤ 9223372036854775807 then (if 2 ≤ (t269.size : Int) then (if ((t269.extract 0 1) ++ (⟨#[255]⟩ : ByteArray)).size + (t269.extract 2 t269.size).size ≤ 9223372036854775807 then ((wharfagelaw2_whole.f kj9 (((t269.extract 0 1) ++ (⟨#[255]⟩ : ByteArray)) ++ (t269.extract 2 t269.size))).bind fun t277 => ((some (([(⟨#[]⟩ : ByteArray), t269.extract 0 19, t269.extract 0 ((ji18) : Int).toNat, t269 ++ (⟨#[120]⟩ : ByteArray), (⟨#[101]⟩ : ByteArray) ++ (t269.extract 1 t269.size), (⟨#[68]⟩ : ByteArray) ++ (t269.extract 1 t269.size), ((t269.extract 0 8) ++ (⟨#[10]⟩ : ByteArray)) ++ (t269.extract 9 t269.size), t272, t273, t274, t275, t276, t277] : List ByteArray) : List ByteArray)).bind fun y278 => ((some (([1, 1, 1, 1, 1, 1, 1, 3, 2, 2, 2, 0, 0] : List Int) : List Int)).bind fun y281 => (if 0 ≤ (wrap64 (Int.tmod (IntKind.u64.wrap (a0)) 13)) then (if (wrap64 (Int.tmod (IntKind.u64.wrap (a0)) 13)) < (y278.length : Int) then ((ip_Get.f kj9 (rdOf ByteArray.empty y278 (wrap64 (Int.tmod (IntKind.u64.wrap (a0)) 13)))).bind fun bt285 => (if (wrap64 (Int.tmod (IntKind.u64.wrap (a0)) 13)) < (y281.length : Int) then (if bt285.2.2.2.2.2.2.1 = (rd y281 (wrap64 (Int.tmod (IntKind.u64.wrap (a0)) 13))) then ((wharfagelaw0_Num.f bt285.2.2.2.2.2.2.2).bind fun t295 => (if ((t295 == 200) == (bt285.2.2.2.2.2.2.1 == 1)) = true then (some ((bt285.2.2.2.2.2.2.1 == 0) == (!(bt285.1 == 0) || (!(bt285.2.1 == 0) || (!(bt285.2.2.1 == 0) || (!(bt285.2.2.2.1 == 0) || (!(bt285.2.2.2.2.1 == 0) || (!(bt285.2.2.2.2.2.1.toList == ([] : List UInt8)))))))))) else (none))) else (none)) else (none))) else (none)) else (none))))) else (none)) else (none)) else (none)) else (none))) else (none))) else (none)) = some r := H
                                                  have A42 := Aside0.mk A420
                                                  clear A420
                                                  have c43b0 := eq_true (of_decide_eq_true (by first | (with_reducible assumption) | assumption) : 0 ≤ 6)
                                                  have c44b0 := eq_true (of_decide_eq_true (by first | (with_reducible assumption) | assumption) : 6 ≤ (t269.size : Int))
                                                  have c45b0 := eq_true (of_decide_eq_true (by first | (with_reducible assumption) | assumption) : 8 ≤ (t269.size : Int))
                                                  by_cases c46 : ((t269.extract 0 6) ++ (⟨#[128, 0]⟩ : ByteArray)).size + (t269.extract 8 t269.size).size ≤ 9223372036854775807
                                                  · rw [if_pos c46] at H
                                                    have c46b0 := eq_true c46
                                                    have c46b1 : decide (((t269.extract 0 6) ++ (⟨#[128, 0]⟩ : ByteArray)).size + (t269.extract 8 t269.size).size ≤ 9223372036854775807) = true := decide_eq_true c46
                                                    try have c46b2 : (9223372036854775807 < ((t269.extract 0 6) ++ (⟨#[128, 0]⟩ : ByteArray)).size + (t269.extract 8 t269.size).size) = False := eq_false (Nat.not_lt.2 c46)
                                                    have c46z := eq_false (Nat.not_lt.mpr c46)
                                                    (try simp only [ByteArray.size_append', ByteArray.size_mk', ByteArray.size_extract, List.size_toArray, List.length_cons, List.length_nil, Nat.reduceAdd, Nat.zero_add, Nat.sub_zero, Nat.min_self] at c46z)
                                                    replace H := Option.bind_eq_some_iff.mp H
                                                    obtain ⟨t275, A470, H⟩ := H
                                                    replace H : (if ((t269.extract 0 6) ++ (⟨#[0, 0]⟩ : ByteArray)).size + (t269.extract 8 t269.size).size ≤ 9223372036854775807 then ((wharfagelaw2_whole.f kj9 (((t269.extract 0 6) ++ (⟨#[0, 0]⟩ : ByteArray)) ++ (t269.extract 8 t269.size))).bind fun t276 => (if 0 ≤ 1 then (if (t269.extract 0 1).size + 1 ≤ 9223372036854775807 then (if 2 ≤ (t269.size : Int) then (if ((t269.extract 0 1) ++ (⟨#[255]⟩ : ByteArray)).size + (t269.extract 2 t269.size).size ≤ 9223372036854775807 then ((wharfagelaw2_whole.f kj9 (((t269.extract 0 1) ++ (⟨#[255]⟩ : ByteArray)) ++ (t269.extract 2 t269.size))).bind fun t277 => ((some (([(⟨#[]⟩ : ByteArray), t269.extract 0 19, t269.extract 0 ((ji18) : Int).toNat, t269 ++ (⟨#[120]⟩ : ByteArray), (⟨#[101]⟩ : ByteArray) ++ (t269.extract 1 t269.size), (⟨#[68]⟩ : ByteArray) ++ (t269.extract 1 t269.size), ((t269.extract 0 8) ++ (⟨#[10]⟩ : ByteArray)) ++ (t269.extract 9 t269.size), t272, t273, t274, t275, t276, t277] : List ByteArray) : List ByteArray)).bind fun y278 => ((some (([1, 1, 1, 1, 1, 1, 1, 3, 2, 2, 2, 0, 0] : List Int) : List Int)).bind fun y281 => (if 0 ≤ (wrap64 (Int.tmod (IntKind.u64.wrap (a0)) 13)) then (if (wrap64 (Int.tmod (IntKind.u64.wrap (a0)) 13)) < (y278.length : Int) then ((ip_Get.f kj9 (rdOf ByteArray.empty y278 (wrap64 (Int.tmod (IntKind.u64.wrap (a0)) 13)))).bind fun bt285 => (if (wrap64 (Int.tmod (IntKind.u64.wrap (a0)) 13)) < (y281.length : Int) then (if bt285.2.2.2.2.2.2.1 = (rd y281 (wrap64 (Int.tmod (IntKind.u64.wrap (a0)) 13))) then ((wharfagelaw0_Num.f bt285.2.2.2.2.2.2.2).bind fun t295 => (if ((t295 == 200) == (bt285.2.2.2.2.2.2.1 == 1)) = true then (some ((bt285.2.2.2.2.2.2.1 == 0) == (!(bt285.1 == 0) || (!(bt285.2.1 == 0) || (!(bt285.2.2.1 == 0) || (!(bt285.2.2.2.1 == 0) || (!(bt285.2.2.2.2.1 == 0) || (!(bt285.2.2.2.2.2.1.toList == ([] : List UInt8)))))))))) else (none))) else (none)) else (none))) else (none)) else (none))))) else (none)) else (none)) else (none)) else (none))) else (none)) = some r := H
                                                    have A47 := Aside0.mk A470
                                                    clear A470
                                                    have c48b0 := eq_true (of_decide_eq_true (by first | (with_reducible assumption) | assumption) : 0 ≤ 6)
                                                    have c49b0 := eq_true (of_decide_eq_true (by first | (with_reducible assumption) | assumption) : 6 ≤ (t269.size : Int))
                                                    have c50b0 := eq_true (of_decide_eq_true (by first | (with_reducible assumption) | assumption) : 8 ≤ (t269.size : Int))
                                                    by_cases c51 : ((t269.extract 0 6) ++ (⟨#[0, 0]⟩ : ByteArray)).size + (t269.extract 8 t269.size).size ≤ 9223372036854775807
                                                    · rw [if_pos c51] at H
                                                      have c51b0 := eq_true c51
                                                      have c51b1 : decide (((t269.extract 0 6) ++ (⟨#[0, 0]⟩ : ByteArray)).size + (t269.extract 8 t269.size).size ≤ 9223372036854775807) = true := decide_eq_true c51
                                                      try have c51b2 : (9223372036854775807 < ((t269.extract 0 6) ++ (⟨#[0, 0]⟩ : ByteArray)).size + (t269.extract 8 t269.size).size) = False := eq_false (Nat.not_lt.2 c51)
                                                      have c51z := eq_false (Nat.not_lt.mpr c51)
                                                      (try simp only [ByteArray.size_append', ByteArray.size_mk', ByteArray.size_extract, List.size_toArray, List.length_cons, List.length_nil, Nat.reduceAdd, Nat.zero_add, Nat.sub_zero, Nat.min_self] at c51z)
                                                      replace H := Option.bind_eq_some_iff.mp H
                                                      obtain ⟨t276, A520, H⟩ := H
                                                      replace H : (if 0 ≤ 1 then (if (t269.extract 0 1).size + 1 ≤ 9223372036854775807 then (if 2 ≤ (t269.size : Int) then (if ((t269.extract 0 1) ++ (⟨#[255]⟩ : ByteArray)).size + (t269.extract 2 t269.size).size ≤ 9223372036854775807 then ((wharfagelaw2_whole.f kj9 (((t269.extract 0 1) ++ (⟨#[255]⟩ : ByteArray)) ++ (t269.extract 2 t269.size))).bind fun t277 => ((some (([(⟨#[]⟩ : ByteArray), t269.extract 0 19, t269.extract 0 ((ji18) : Int).toNat, t269 ++ (⟨#[120]⟩ : ByteArray), (⟨#[101]⟩ : ByteArray) ++ (t269.extract 1 t269.size), (⟨#[68]⟩ : ByteArray) ++ (t269.extract 1 t269.size), ((t269.extract 0 8) ++ (⟨#[10]⟩ : ByteArray)) ++ (t269.extract 9 t269.size), t272, t273, t274, t275, t276, t277] : List ByteArray) : List ByteArray)).bind fun y278 => ((some (([1, 1, 1, 1, 1, 1, 1, 3, 2, 2, 2, 0, 0] : List Int) : List Int)).bind fun y281 => (if 0 ≤ (wrap64 (Int.tmod (IntKind.u64.wrap (a0)) 13)) then (if (wrap64 (Int.tmod (IntKind.u64.wrap (a0)) 13)) < (y278.length : Int) then ((ip_Get.f kj9 (rdOf ByteArray.empty y278 (wrap64 (Int.tmod (IntKind.u64.wrap (a0)) 13)))).bind fun bt285 => (if (wrap64 (Int.tmod (IntKind.u64.wrap (a0)) 13)) < (y281.length : Int) then (if bt285.2.2.2.2.2.2.1 = (rd y281 (wrap64 (Int.tmod (IntKind.u64.wrap (a0)) 13))) then ((wharfagelaw0_Num.f bt285.2.2.2.2.2.2.2).bind fun t295 => (if ((t295 == 200) == (bt285.2.2.2.2.2.2.1 == 1)) = true then (some ((bt285.2.2.2.2.2.2.1 == 0) == (!(bt285.1 == 0) || (!(bt285.2.1 == 0) || (!(bt285.2.2.1 == 0) || (!(bt285.2.2.2.1 == 0) || (!(bt285.2.2.2.2.1 == 0) || (!(bt285.2.2.2.2.2.1.toList == ([] : List UInt8)))))))))) else (none))) else (none)) else (none))) else (none)) else (none))))) else (none)) else (none)) else (none)) else (none)) = some r := H
                                                      have A52 := Aside0.mk A520
                                                      clear A520
                                                      by_cases c53 : 0 ≤ 1
                                                      · rw [if_pos c53] at H
                                                        have c53b0 := eq_true c53
                                                        have c53b1 : decide (0 ≤ 1) = true := decide_eq_true c53
                                                        clear c53
                                                        have c54b0 := eq_true (of_decide_eq_true (by first | (with_reducible assumption) | assumption) : 1 ≤ (t269.size : Int))
                                                        by_cases c55 : (t269.extract 0 1).size + 1 ≤ 9223372036854775807
                                                        · rw [if_pos c55] at H
                                                          have c55b0 := eq_true c55
                                                          have c55b1 : decide ((t269.extract 0 1).size + 1 ≤ 9223372036854775807) = true := decide_eq_true c55
                                                          try have c55b2 : (9223372036854775807 < (t269.extract 0 1).size + 1) = False := eq_false (Nat.not_lt.2 c55)
                                                          have c55z := eq_false (Nat.not_lt.mpr c55)
                                                          (try simp only [ByteArray.size_append', ByteArray.size_mk', ByteArray.size_extract, List.size_toArray, List.length_cons, List.length_nil, Nat.reduceAdd, Nat.zero_add, Nat.sub_zero, Nat.min_self] at c55z)
                                                          by_cases c56 : 2 ≤ (t269.size : Int)
                                                          · rw [if_pos c56] at H
                                                            have c56b0 := eq_true c56
                                                            have c56b1 : decide (2 ≤ (t269.size : Int)) = true := decide_eq_true c56
                                                            clear c56
                                                            by_cases c57 : ((t269.extract 0 1) ++ (⟨#[255]⟩ : ByteArray)).size + (t269.extract 2 t269.size).size ≤ 9223372036854775807
                                                            · rw [if_pos c57] at H
                                                              have c57b0 := eq_true c57
                                                              have c57b1 : decide (((t269.extract 0 1) ++ (⟨#[255]⟩ : ByteArray)).size + (t269.extract 2 t269.size).size ≤ 9223372036854775807) = true := decide_eq_true c57
                                                              try have c57b2 : (9223372036854775807 < ((t269.extract 0 1) ++ (⟨#[255]⟩ : ByteArray)).size + (t269.extract 2 t269.size).size) = False := eq_false (Nat.not_lt.2 c57)
                                                              have c57z := eq_false (Nat.not_lt.mpr c57)
                                                              (try simp only [ByteArray.size_append', ByteArray.size_mk', ByteArray.size_extract, List.size_toArray, List.length_cons, List.length_nil, Nat.reduceAdd, Nat.zero_add, Nat.sub_zero, Nat.min_self] at c57z)
                                                              replace H := Option.bind_eq_some_iff.mp H
                                                              obtain ⟨t277, A580, H⟩ := H
                                                              replace H : ((some (([(⟨#[]⟩ : ByteArray), t269.extract 0 19, t269.extract 0 ((ji18) : Int).toNat, t269 ++ (⟨#[120]⟩ : ByteArray), (⟨#[101]⟩ : ByteArray) ++ (t269.extract 1 t269.size), (⟨#[68]⟩ : ByteArray) ++ (t269.extract 1 t269.size), ((t269.extract 0 8) ++ (⟨#[10]⟩ : ByteArray)) ++ (t269.extract 9 t269.size), t272, t273, t274, t275, t276, t277] : List ByteArray) : List ByteArray)).bind fun y278 => ((some (([1, 1, 1, 1, 1, 1, 1, 3, 2, 2, 2, 0, 0] : List Int) : List Int)).bind fun y281 => (if 0 ≤ (wrap64 (Int.tmod (IntKind.u64.wrap (a0)) 13)) then (if (wrap64 (Int.tmod (IntKind.u64.wrap (a0)) 13)) < (y278.length : Int) then ((ip_Get.f kj9 (rdOf ByteArray.empty y278 (wrap64 (Int.tmod (IntKind.u64.wrap (a0)) 13)))).bind fun bt285 => (if (wrap64 (Int.tmod (IntKind.u64.wrap (a0)) 13)) < (y281.length : Int) then (if bt285.2.2.2.2.2.2.1 = (rd y281 (wrap64 (Int.tmod (IntKind.u64.wrap (a0)) 13))) then ((wharfagelaw0_Num.f bt285.2.2.2.2.2.2.2).bind fun t295 => (if ((t295 == 200) == (bt285.2.2.2.2.2.2.1 == 1)) = true then (some ((bt285.2.2.2.2.2.2.1 == 0) == (!(bt285.1 == 0) || (!(bt285.2.1 == 0) || (!(bt285.2.2.1 == 0) || (!(bt285.2.2.2.1 == 0) || (!(bt285.2.2.2.2.1 == 0) || (!(bt285.2.2.2.2.2.1.toList == ([] : List UInt8)))))))))) else (none))) else (none)) else (none))) else (none)) else (none)))) = some r := H
                                                              have A58 := Aside0.mk A580
                                                              clear A580
                                                              obtain ⟨y278, hy278⟩ : ∃ y_ : List ByteArray, y_ = (([(⟨#[]⟩ : ByteArray), t269.extract 0 19, t269.extract 0 ((ji18) : Int).toNat, t269 ++ (⟨#[120]⟩ : ByteArray), (⟨#[101]⟩ : ByteArray) ++ (t269.extract 1 t269.size), (⟨#[68]⟩ : ByteArray) ++ (t269.extract 1 t269.size), ((t269.extract 0 8) ++ (⟨#[10]⟩ : ByteArray)) ++ (t269.extract 9 t269.size), t272, t273, t274, t275, t276, t277] : List ByteArray)) := ⟨_, rfl⟩
                                                              replace H : ((some (([1, 1, 1, 1, 1, 1, 1, 3, 2, 2, 2, 0, 0] : List Int) : List Int)).bind fun y281 => (if 0 ≤ (wrap64 (Int.tmod (IntKind.u64.wrap (a0)) 13)) then (if (wrap64 (Int.tmod (IntKind.u64.wrap (a0)) 13)) < (y278.length : Int) then ((ip_Get.f kj9 (rdOf ByteArray.empty y278 (wrap64 (Int.tmod (IntKind.u64.wrap (a0)) 13)))).bind fun bt285 => (if (wrap64 (Int.tmod (IntKind.u64.wrap (a0)) 13)) < (y281.length : Int) then (if bt285.2.2.2.2.2.2.1 = (rd y281 (wrap64 (Int.tmod (IntKind.u64.wrap (a0)) 13))) then ((wharfagelaw0_Num.f bt285.2.2.2.2.2.2.2).bind fun t295 => (if ((t295 == 200) == (bt285.2.2.2.2.2.2.1 == 1)) = true then (some ((bt285.2.2.2.2.2.2.1 == 0) == (!(bt285.1 == 0) || (!(bt285.2.1 == 0) || (!(bt285.2.2.1 == 0) || (!(bt285.2.2.2.1 == 0) || (!(bt285.2.2.2.2.1 == 0) || (!(bt285.2.2.2.2.2.1.toList == ([] : List UInt8)))))))))) else (none))) else (none)) else (none))) else (none)) else (none))) = some r := by first | (rw [hy278]; with_reducible exact H) | (have H2_ := (Option.bind_some _ _).symm.trans H; rw [hy278]; with_reducible exact H2_) | (have H2_ := (Option.bind_some _ _).symm.trans H; with_reducible exact H2_) | with_reducible exact H | (rw [hy278]; exact H) | exact H
                                                              have Ny278 := Aside0.mk hy278
                                                              clear hy278
                                                              obtain ⟨y281, hy281⟩ : ∃ y_ : List Int, y_ = (([1, 1, 1, 1, 1, 1, 1, 3, 2, 2, 2, 0, 0] : List Int)) := ⟨_, rfl⟩
                                                              replace H : (if 0 ≤ (wrap64 (Int.tmod (IntKind.u64.wrap (a0)) 13)) then (if (wrap64 (Int.tmod (IntKind.u64.wrap (a0)) 13)) < (y278.length : Int) then ((ip_Get.f kj9 (rdOf ByteArray.empty y278 (wrap64 (Int.tmod (IntKind.u64.wrap (a0)) 13)))).bind fun bt285 => (if (wrap64 (Int.tmod (IntKind.u64.wrap (a0)) 13)) < (y281.length : Int) then (if bt285.2.2.2.2.2.2.1 = (rd y281 (wrap64 (Int.tmod (IntKind.u64.wrap (a0)) 13))) then ((wharfagelaw0_Num.f bt285.2.2.2.2.2.2.2).bind fun t295 => (if ((t295 == 200) == (bt285.2.2.2.2.2.2.1 == 1)) = true then (some ((bt285.2.2.2.2.2.2.1 == 0) == (!(bt285.1 == 0) || (!(bt285.2.1 == 0) || (!(bt285.2.2.1 == 0) || (!(bt285.2.2.2.1 == 0) || (!(bt285.2.2.2.2.1 == 0) || (!(bt285.2.2.2.2.2.1.toList == ([] : List UInt8)))))))))) else (none))) else (none)) else (none))) else (none)) else (none)) = some r := by first | (rw [hy281]; with_reducible exact H) | (have H2_ := (Option.bind_some _ _).symm.trans H; rw [hy281]; with_reducible exact H2_) | (have H2_ := (Option.bind_some _ _).symm.trans H; with_reducible exact H2_) | with_reducible exact H | (rw [hy281]; exact H) | exact H
                                                              have Ny281 := Aside0.mk hy281
                                                              clear hy281
                                                              obtain ⟨ji59, hji59⟩ : ∃ j_ : Int, (wrap64 (Int.tmod (IntKind.u64.wrap (a0)) 13)) = j_ := ⟨_, rfl⟩
                                                              replace H : (if 0 ≤ (ji59) then (if (ji59) < (y278.length : Int) then ((ip_Get.f kj9 (rdOf ByteArray.empty y278 (ji59))).bind fun bt285 => (if (ji59) < (y281.length : Int) then (if bt285.2.2.2.2.2.2.1 = (rd y281 (ji59)) then ((wharfagelaw0_Num.f bt285.2.2.2.2.2.2.2).bind fun t295 => (if ((t295 == 200) == (bt285.2.2.2.2.2.2.1 == 1)) = true then (some ((bt285.2.2.2.2.2.2.1 == 0) == (!(bt285.1 == 0) || (!(bt285.2.1 == 0) || (!(bt285.2.2.1 == 0) || (!(bt285.2.2.2.1 == 0) || (!(bt285.2.2.2.2.1 == 0) || (!(bt285.2.2.2.2.2.1.toList == ([] : List UInt8)))))))))) else (none))) else (none)) else (none))) else (none)) else (none)) = some r := by first | (rw [hji59] at H; exact H) | (simp only [hji59] at H ⊢; exact H)
                                                              (try rw [hji59] at A31)
                                                              (try rw [hji59] at A37)
                                                              (try rw [hji59] at A42)
                                                              (try rw [hji59] at A47)
                                                              (try rw [hji59] at A52)
                                                              (try rw [hji59] at A58)
                                                              have hji59w : (IntKind.i64.wrap (Int.tmod (IntKind.u64.wrap (a0)) 13)) = ji59 := (i64_w _).trans hji59
                                                              by_cases c60 : 0 ≤ (ji59)
                                                              · rw [if_pos c60] at H
                                                                have c60b0 : decide (0 ≤ (ji59)) = true := decide_eq_true c60
                                                                clear c60
                                                                by_cases c61 : (ji59) < (y278.length : Int)
                                                                · rw [if_pos c61] at H
                                                                  have c61b0 : decide ((ji59) < (y278.length : Int)) = true := decide_eq_true c61
                                                                  clear c61
                                                                  replace H := Option.bind_eq_some_iff.mp H
                                                                  obtain ⟨⟨t285, t286, t287, t288, t289, t290, t291, t292⟩, A620, H⟩ := H
                                                                  replace H : (if (ji59) < (y281.length : Int) then (if t291 = (rd y281 (ji59)) then ((wharfagelaw0_Num.f t292).bind fun t295 => (if ((t295 == 200) == (t291 == 1)) = true then (some ((t291 == 0) == (!(t285 == 0) || (!(t286 == 0) || (!(t287 == 0) || (!(t288 == 0) || (!(t289 == 0) || (!(t290.toList == ([] : List UInt8)))))))))) else (none))) else (none)) else (none)) = some r := H
                                                                  have A62 := Aside0.mk A620
                                                                  clear A620
                                                                  by_cases c63 : (ji59) < (y281.length : Int)
                                                                  · rw [if_pos c63] at H
                                                                    have c63b0 : decide ((ji59) < (y281.length : Int)) = true := decide_eq_true c63
                                                                    clear c63
                                                                    by_cases c64 : t291 = (rd y281 (ji59))
                                                                    · rw [if_pos c64] at H
                                                                      have c64b0 : (t291 == (rd y281 (ji59))) = true := beq_iff_eq.mpr c64
                                                                      have c64b1 : (t291 != (rd y281 (ji59))) = false := bne_eq_false_iff_eq.mpr c64
                                                                      clear c64
                                                                      replace H := Option.bind_eq_some_iff.mp H
                                                                      obtain ⟨t295, A650, H⟩ := H
                                                                      replace H : (if ((t295 == 200) == (t291 == 1)) = true then (some ((t291 == 0) == (!(t285 == 0) || (!(t286 == 0) || (!(t287 == 0) || (!(t288 == 0) || (!(t289 == 0) || (!(t290.toList == ([] : List UInt8)))))))))) else (none)) = some r := H
                                                                      have A65 := Aside0.mk A650
                                                                      clear A650
                                                                      by_cases c66 : ((t295 == 200) == (t291 == 1)) = true
                                                                      · rw [if_pos c66] at H
                                                                        have c66b0 : ((t295 == 200) == (t291 == 1)) = true := c66
                                                                        (try (have c66b1 : decide ((t295 == 200) = (t291 == 1)) = true := by simpa using c66))
                                                                        (try (have c66b2 : ((t295 == 200) == (t291 == 1)) = true := by simpa using c66))
                                                                        clear c66
                                                                        obtain rfl := Option.some.inj H
                                                                        try go_wp2
                                                                        have n0_ := Aside0.mk (below_drew1 HB.out)
                                                                        clear HB
                                                                        have HB := n0_
                                                                        clear n0_
                                                                        refine start_ (n := 62) (S := fun w' => True) (ds := []) #[false, false, false, false, false, false, false, false, false, false, false, false, false, false, false, false, false, false, false, false, false, false, false, false, false, false, false, false, false, false, false, false, false, false, false, false, false, false, false, false, false, false, false, false, false, false, false, false, false, false, false, false, false, false, false, false, false, false, false, false, false, false] (by kernel_rfl) rfl rfl trivial (fun hHeld => ?_); refine with_tabW wharfagelaw2_IpClasses.tab6 wharfagelaw2_IpClasses.bits6 (fun HT_ HW_ => ?_)
                                                                        generalize wc.drew = w67 at HB hHeld ⊢
                                                                        refine pure_ (i := 0) (N := some 34) (v := ?_) (a' := ?_) #[true, false, false, false, false, false, false, false, false, false, false, false, false, false, false, false, false, false, false, false, false, false, false, false, false, false, false, false, false, false, false, false, false, false, false, false, false, false, false, false, false, false, false, false, false, false, false, false, false, false, false, false, false, false, false, false, false, false, false, false, false, false] rfl rfl (any_of HT_.out (by kernel_rfl)) (fun _ _ _ h => h) (Or.inl ⟨by rfl, ?_⟩) ?_ ?_
                                                                        rotate_left
                                                                        · intro w'
                                                                          go_simp
                                                                          with_reducible rfl
                                                                        rotate_left
                                                                        · simp only [Act.put, List.setIfInBounds_toArray, List.set_cons_zero, List.set_cons_succ, i64_w, i32_w]
                                                                          rfl
                                                                        refine pure_ (i := 1) (N := some 35) (v := ?_) (a' := ?_) #[true, true, false, false, false, false, false, false, false, false, false, false, false, false, false, false, false, false, false, false, false, false, false, false, false, false, false, false, false, false, false, false, false, false, false, false, false, false, false, false, false, false, false, false, false, false, false, false, false, false, false, false, false, false, false, false, false, false, false, false, false, false] rfl rfl (any_of HT_.out (by kernel_rfl)) (fun _ _ _ h => h) (Or.inl ⟨by rfl, ?_⟩) ?_ ?_
                                                                        rotate_left
                                                                        · intro w'
                                                                          go_simp
                                                                          with_reducible rfl
                                                                        rotate_left
                                                                        · simp only [Act.put, List.setIfInBounds_toArray, List.set_cons_zero, List.set_cons_succ, i64_w, i32_w]
                                                                          rfl
                                                                        refine pure_ (i := 2) (N := some 36) (v := ?_) (a' := ?_) #[true, true, true, false, false, false, false, false, false, false, false, false, false, false, false, false, false, false, false, false, false, false, false, false, false, false, false, false, false, false, false, false, false, false, false, false, false, false, false, false, false, false, false, false, false, false, false, false, false, false, false, false, false, false, false, false, false, false, false, false, false, false] rfl rfl (any_of HT_.out (by kernel_rfl)) (fun _ _ _ h => h) (Or.inl ⟨by rfl, ?_⟩) ?_ ?_
                                                                        rotate_left
                                                                        · intro w'
                                                                          go_simp
                                                                          with_reducible rfl
                                                                        rotate_left
                                                                        · simp only [Act.put, List.setIfInBounds_toArray, List.set_cons_zero, List.set_cons_succ, i64_w, i32_w]
                                                                          rfl
                                                                        refine pure_ (i := 3) (N := some 37) (v := ?_) (a' := ?_) #[true, true, true, true, false, false, false, false, false, false, false, false, false, false, false, false, false, false, false, false, false, false, false, false, false, false, false, false, false, false, false, false, false, false, false, false, false, false, false, false, false, false, false, false, false, false, false, false, false, false, false, false, false, false, false, false, false, false, false, false, false, false] rfl rfl (any_of HT_.out (by kernel_rfl)) (fun _ _ _ h => h) (Or.inl ⟨by rfl, ?_⟩) ?_ ?_
                                                                        rotate_left
                                                                        · intro w'
                                                                          go_simp
                                                                          with_reducible rfl
                                                                        rotate_left
                                                                        · simp only [Act.put, List.setIfInBounds_toArray, List.set_cons_zero, List.set_cons_succ, i64_w, i32_w]
                                                                          rfl
                                                                        refine pure_ (i := 4) (N := some 38) (v := ?_) (a' := ?_) #[true, true, true, true, true, false, false, false, false, false, false, false, false, false, false, false, false, false, false, false, false, false, false, false, false, false, false, false, false, false, false, false, false, false, false, false, false, false, false, false, false, false, false, false, false, false, false, false, false, false, false, false, false, false, false, false, false, false, false, false, false, false] rfl rfl (any_of HT_.out (by kernel_rfl)) (fun _ _ _ h => h) (Or.inl ⟨by rfl, ?_⟩) ?_ ?_
                                                                        rotate_left
                                                                        · intro w'
                                                                          go_simp
                                                                          with_reducible rfl
                                                                        rotate_left
                                                                        · simp only [Act.put, List.setIfInBounds_toArray, List.set_cons_zero, List.set_cons_succ, i64_w, i32_w]
                                                                          rfl
                                                                        refine pure_ (i := 5) (N := some 39) (v := ?_) (a' := ?_) #[true, true, true, true, true, true, false, false, false, false, false, false, false, false, false, false, false, false, false, false, false, false, false, false, false, false, false, false, false, false, false, false, false, false, false, false, false, false, false, false, false, false, false, false, false, false, false, false, false, false, false, false, false, false, false, false, false, false, false, false, false, false] rfl rfl (any_of HT_.out (by kernel_rfl)) (fun _ _ _ h => h) (Or.inl ⟨by rfl, ?_⟩) ?_ ?_
                                                                        rotate_left
                                                                        · intro w'
                                                                          go_simp
                                                                          with_reducible rfl
                                                                        rotate_left
                                                                        · simp only [Act.put, List.setIfInBounds_toArray, List.set_cons_zero, List.set_cons_succ, i64_w, i32_w]
                                                                          rfl
                                                                        refine pure_ (i := 6) (N := some 40) (v := ?_) (a' := ?_) #[true, true, true, true, true, true, true, false, false, false, false, false, false, false, false, false, false, false, false, false, false, false, false, false, false, false, false, false, false, false, false, false, false, false, false, false, false, false, false, false, false, false, false, false, false, false, false, false, false, false, false, false, false, false, false, false, false, false, false, false, false, false] rfl rfl (any_of HT_.out (by kernel_rfl)) (fun _ _ _ h => h) (Or.inl ⟨by rfl, ?_⟩) ?_ ?_
                                                                        rotate_left
                                                                        · intro w'
                                                                          go_simp
                                                                          with_reducible rfl
                                                                        rotate_left
                                                                        · simp only [Act.put, List.setIfInBounds_toArray, List.set_cons_zero, List.set_cons_succ, i64_w, i32_w]
                                                                          rfl
                                                                        refine pure_ (i := 7) (N := some 41) (v := ?_) (a' := ?_) #[true, true, true, true, true, true, true, true, false, false, false, false, false, false, false, false, false, false, false, false, false, false, false, false, false, false, false, false, false, false, false, false, false, false, false, false, false, false, false, false, false, false, false, false, false, false, false, false, false, false, false, false, false, false, false, false, false, false, false, false, false, false] rfl rfl (any_of HT_.out (by kernel_rfl)) (fun _ _ _ h => h) (Or.inl ⟨by rfl, ?_⟩) ?_ ?_
                                                                        rotate_left
                                                                        · intro w'
                                                                          go_simp
                                                                          with_reducible rfl
                                                                        rotate_left
                                                                        · simp only [Act.put, List.setIfInBounds_toArray, List.set_cons_zero, List.set_cons_succ, i64_w, i32_w]
                                                                          rfl
                                                                        refine pure_ (i := 8) (N := some 42) (v := ?_) (a' := ?_) #[true, true, true, true, true, true, true, true, true, false, false, false, false, false, false, false, false, false, false, false, false, false, false, false, false, false, false, false, false, false, false, false, false, false, false, false, false, false, false, false, false, false, false, false, false, false, false, false, false, false, false, false, false, false, false, false, false, false, false, false, false, false] rfl rfl (any_of HT_.out (by kernel_rfl)) (fun _ _ _ h => h) (Or.inl ⟨by rfl, ?_⟩) ?_ ?_
                                                                        rotate_left
                                                                        · intro w'
                                                                          go_simp
                                                                          with_reducible rfl
                                                                        rotate_left
                                                                        · simp only [Act.put, List.setIfInBounds_toArray, List.set_cons_zero, List.set_cons_succ, i64_w, i32_w]
                                                                          rfl
                                                                        refine pure_ (i := 9) (N := some 43) (v := ?_) (a' := ?_) #[true, true, true, true, true, true, true, true, true, true, false, false, false, false, false, false, false, false, false, false, false, false, false, false, false, false, false, false, false, false, false, false, false, false, false, false, false, false, false, false, false, false, false, false, false, false, false, false, false, false, false, false, false, false, false, false, false, false, false, false, false, false] rfl rfl (any_of HT_.out (by kernel_rfl)) (fun _ _ _ h => h) (Or.inl ⟨by rfl, ?_⟩) ?_ ?_
                                                                        rotate_left
                                                                        · intro w'
                                                                          go_simp
                                                                          with_reducible rfl
                                                                        rotate_left
                                                                        · simp only [Act.put, List.setIfInBounds_toArray, List.set_cons_zero, List.set_cons_succ, i64_w, i32_w]
                                                                          rfl
                                                                        refine pure_ (i := 10) (N := some 44) (v := ?_) (a' := ?_) #[true, true, true, true, true, true, true, true, true, true, true, false, false, false, false, false, false, false, false, false, false, false, false, false, false, false, false, false, false, false, false, false, false, false, false, false, false, false, false, false, false, false, false, false, false, false, false, false, false, false, false, false, false, false, false, false, false, false, false, false, false, false] rfl rfl (any_of HT_.out (by kernel_rfl)) (fun _ _ _ h => h) (Or.inl ⟨by rfl, ?_⟩) ?_ ?_
                                                                        rotate_left
                                                                        · intro w'
                                                                          go_simp
                                                                          with_reducible rfl
                                                                        rotate_left
                                                                        · simp only [Act.put, List.setIfInBounds_toArray, List.set_cons_zero, List.set_cons_succ, i64_w, i32_w]
                                                                          rfl
                                                                        refine pure_ (i := 11) (N := some 45) (v := ?_) (a' := ?_) #[true, true, true, true, true, true, true, true, true, true, true, true, false, false, false, false, false, false, false, false, false, false, false, false, false, false, false, false, false, false, false, false, false, false, false, false, false, false, false, false, false, false, false, false, false, false, false, false, false, false, false, false, false, false, false, false, false, false, false, false, false, false] rfl rfl (any_of HT_.out (by kernel_rfl)) (fun _ _ _ h => h) (Or.inl ⟨by rfl, ?_⟩) ?_ ?_
                                                                        rotate_left
                                                                        · intro w'
                                                                          go_simp
                                                                          with_reducible rfl
                                                                        rotate_left
                                                                        · simp only [Act.put, List.setIfInBounds_toArray, List.set_cons_zero, List.set_cons_succ, i64_w, i32_w]
                                                                          rfl
                                                                        refine pure_ (i := 12) (N := some 46) (v := ?_) (a' := ?_) #[true, true, true, true, true, true, true, true, true, true, true, true, true, false, false, false, false, false, false, false, false, false, false, false, false, false, false, false, false, false, false, false, false, false, false, false, false, false, false, false, false, false, false, false, false, false, false, false, false, false, false, false, false, false, false, false, false, false, false, false, false, false] rfl rfl (any_of HT_.out (by kernel_rfl)) (fun _ _ _ h => h) (Or.inl ⟨by rfl, ?_⟩) ?_ ?_
                                                                        rotate_left
                                                                        · intro w'
                                                                          go_simp
                                                                          with_reducible rfl
                                                                        rotate_left
                                                                        · simp only [Act.put, List.setIfInBounds_toArray, List.set_cons_zero, List.set_cons_succ, i64_w, i32_w]
                                                                          rfl
                                                                        refine pure_ (i := 13) (N := some 47) (v := ?_) (a' := ?_) #[true, true, true, true, true, true, true, true, true, true, true, true, true, true, false, false, false, false, false, false, false, false, false, false, false, false, false, false, false, false, false, false, false, false, false, false, false, false, false, false, false, false, false, false, false, false, false, false, false, false, false, false, false, false, false, false, false, false, false, false, false, false] rfl rfl (any_of HT_.out (by kernel_rfl)) (fun _ _ _ h => h) (Or.inl ⟨by rfl, ?_⟩) ?_ ?_
                                                                        rotate_left
                                                                        · intro w'
                                                                          go_simp
                                                                          with_reducible rfl
                                                                        rotate_left
                                                                        · simp only [Act.put, List.setIfInBounds_toArray, List.set_cons_zero, List.set_cons_succ, i64_w, i32_w]
                                                                          rfl
                                                                        refine pure_ (i := 14) (N := some 48) (v := ?_) (a' := ?_) #[true, true, true, true, true, true, true, true, true, true, true, true, true, true, true, false, false, false, false, false, false, false, false, false, false, false, false, false, false, false, false, false, false, false, false, false, false, false, false, false, false, false, false, false, false, false, false, false, false, false, false, false, false, false, false, false, false, false, false, false, false, false] rfl rfl (any_of HT_.out (by kernel_rfl)) (fun _ _ _ h => h) (Or.inl ⟨by rfl, ?_⟩) ?_ ?_
                                                                        rotate_left
                                                                        · intro w'
                                                                          go_simp
                                                                          with_reducible rfl
                                                                        rotate_left
                                                                        · simp only [Act.put, List.setIfInBounds_toArray, List.set_cons_zero, List.set_cons_succ, i64_w, i32_w]
                                                                          rfl
                                                                        refine pure_ (i := 15) (N := some 49) (v := ?_) (a' := ?_) #[true, true, true, true, true, true, true, true, true, true, true, true, true, true, true, true, false, false, false, false, false, false, false, false, false, false, false, false, false, false, false, false, false, false, false, false, false, false, false, false, false, false, false, false, false, false, false, false, false, false, false, false, false, false, false, false, false, false, false, false, false, false] rfl rfl (any_of HT_.out (by kernel_rfl)) (fun _ _ _ h => h) (Or.inl ⟨by rfl, ?_⟩) ?_ ?_
                                                                        rotate_left
                                                                        · intro w'
                                                                          go_simp
                                                                          with_reducible rfl
                                                                        rotate_left
                                                                        · simp only [Act.put, List.setIfInBounds_toArray, List.set_cons_zero, List.set_cons_succ, i64_w, i32_w]
                                                                          rfl
                                                                        refine pure_ (i := 16) (N := some 50) (v := ?_) (a' := ?_) #[true, true, true, true, true, true, true, true, true, true, true, true, true, true, true, true, true, false, false, false, false, false, false, false, false, false, false, false, false, false, false, false, false, false, false, false, false, false, false, false, false, false, false, false, false, false, false, false, false, false, false, false, false, false, false, false, false, false, false, false, false, false] rfl rfl (any_of HT_.out (by kernel_rfl)) (fun _ _ _ h => h) (Or.inl ⟨by rfl, ?_⟩) ?_ ?_
                                                                        rotate_left
                                                                        · intro w'
                                                                          go_simp
                                                                          with_reducible rfl
                                                                        rotate_left
                                                                        · simp only [Act.put, List.setIfInBounds_toArray, List.set_cons_zero, List.set_cons_succ, i64_w, i32_w]
                                                                          rfl
                                                                        refine pure_ (i := 17) (N := some 51) (v := ?_) (a' := ?_) #[true, true, true, true, true, true, true, true, true, true, true, true, true, true, true, true, true, true, false, false, false, false, false, false, false, false, false, false, false, false, false, false, false, false, false, false, false, false, false, false, false, false, false, false, false, false, false, false, false, false, false, false, false, false, false, false, false, false, false, false, false, false] rfl rfl (any_of HT_.out (by kernel_rfl)) (fun _ _ _ h => h) (Or.inl ⟨by rfl, ?_⟩) ?_ ?_
                                                                        rotate_left
                                                                        · intro w'
                                                                          go_simp
                                                                          with_reducible rfl
                                                                        rotate_left
                                                                        · simp only [Act.put, List.setIfInBounds_toArray, List.set_cons_zero, List.set_cons_succ, i64_w, i32_w]
                                                                          rfl
                                                                        refine pure_ (i := 18) (N := some 52) (v := ?_) (a' := ?_) #[true, true, true, true, true, true, true, true, true, true, true, true, true, true, true, true, true, true, true, false, false, false, false, false, false, false, false, false, false, false, false, false, false, false, false, false, false, false, false, false, false, false, false, false, false, false, false, false, false, false, false, false, false, false, false, false, false, false, false, false, false, false] rfl rfl (any_of HT_.out (by kernel_rfl)) (fun _ _ _ h => h) (Or.inl ⟨by rfl, ?_⟩) ?_ ?_
                                                                        rotate_left
                                                                        · intro w'
                                                                          go_simp
                                                                          with_reducible rfl
                                                                        rotate_left
                                                                        · simp only [Act.put, List.setIfInBounds_toArray, List.set_cons_zero, List.set_cons_succ, i64_w, i32_w]
                                                                          rfl
                                                                        refine pure_ (i := 19) (N := some 53) (v := ?_) (a' := ?_) #[true, true, true, true, true, true, true, true, true, true, true, true, true, true, true, true, true, true, true, true, false, false, false, false, false, false, false, false, false, false, false, false, false, false, false, false, false, false, false, false, false, false, false, false, false, false, false, false, false, false, false, false, false, false, false, false, false, false, false, false, false, false] rfl rfl (any_of HT_.out (by kernel_rfl)) (fun _ _ _ h => h) (Or.inl ⟨by rfl, ?_⟩) ?_ ?_
                                                                        rotate_left
                                                                        · intro w'
                                                                          go_simp
                                                                          with_reducible rfl
                                                                        rotate_left
                                                                        · simp only [Act.put, List.setIfInBounds_toArray, List.set_cons_zero, List.set_cons_succ, i64_w, i32_w]
                                                                          rfl
                                                                        refine pure_ (i := 20) (N := some 54) (v := ?_) (a' := ?_) #[true, true, true, true, true, true, true, true, true, true, true, true, true, true, true, true, true, true, true, true, true, false, false, false, false, false, false, false, false, false, false, false, false, false, false, false, false, false, false, false, false, false, false, false, false, false, false, false, false, false, false, false, false, false, false, false, false, false, false, false, false, false] rfl rfl (any_of HT_.out (by kernel_rfl)) (fun _ _ _ h => h) (Or.inl ⟨by rfl, ?_⟩) ?_ ?_
                                                                        rotate_left
                                                                        · intro w'
                                                                          go_simp
                                                                          with_reducible rfl
                                                                        rotate_left
                                                                        · simp only [Act.put, List.setIfInBounds_toArray, List.set_cons_zero, List.set_cons_succ, i64_w, i32_w]
                                                                          rfl
                                                                        refine pure_ (i := 21) (N := some 55) (v := ?_) (a' := ?_) #[true, true, true, true, true, true, true, true, true, true, true, true, true, true, true, true, true, true, true, true, true, true, false, false, false, false, false, false, false, false, false, false, false, false, false, false, false, false, false, false, false, false, false, false, false, false, false, false, false, false, false, false, false, false, false, false, false, false, false, false, false, false] rfl rfl (any_of HT_.out (by kernel_rfl)) (fun _ _ _ h => h) (Or.inl ⟨by rfl, ?_⟩) ?_ ?_
                                                                        rotate_left
                                                                        · intro w'
                                                                          go_simp
                                                                          with_reducible rfl
                                                                        rotate_left
                                                                        · simp only [Act.put, List.setIfInBounds_toArray, List.set_cons_zero, List.set_cons_succ, i64_w, i32_w]
                                                                          rfl
                                                                        refine pure_ (i := 22) (N := some 56) (v := ?_) (a' := ?_) #[true, true, true, true, true, true, true, true, true, true, true, true, true, true, true, true, true, true, true, true, true, true, true, false, false, false, false, false, false, false, false, false, false, false, false, false, false, false, false, false, false, false, false, false, false, false, false, false, false, false, false, false, false, false, false, false, false, false, false, false, false, false] rfl rfl (any_of HT_.out (by kernel_rfl)) (fun _ _ _ h => h) (Or.inl ⟨by rfl, ?_⟩) ?_ ?_
                                                                        rotate_left
                                                                        · intro w'
                                                                          go_simp
                                                                          with_reducible rfl
                                                                        rotate_left
                                                                        · simp only [Act.put, List.setIfInBounds_toArray, List.set_cons_zero, List.set_cons_succ, i64_w, i32_w]
                                                                          rfl
                                                                        refine pure_ (i := 23) (N := some 57) (v := ?_) (a' := ?_) #[true, true, true, true, true, true, true, true, true, true, true, true, true, true, true, true, true, true, true, true, true, true, true, true, false, false, false, false, false, false, false, false, false, false, false, false, false, false, false, false, false, false, false, false, false, false, false, false, false, false, false, false, false, false, false, false, false, false, false, false, false, false] rfl rfl (any_of HT_.out (by kernel_rfl)) (fun _ _ _ h => h) (Or.inl ⟨by rfl, ?_⟩) ?_ ?_
                                                                        rotate_left
                                                                        · intro w'
                                                                          go_simp
                                                                          with_reducible rfl
                                                                        rotate_left
                                                                        · simp only [Act.put, List.setIfInBounds_toArray, List.set_cons_zero, List.set_cons_succ, i64_w, i32_w]
                                                                          rfl
                                                                        refine pure_ (i := 25) (N := some 59) (v := ?_) (a' := ?_) #[true, true, true, true, true, true, true, true, true, true, true, true, true, true, true, true, true, true, true, true, true, true, true, true, false, true, false, false, false, false, false, false, false, false, false, false, false, false, false, false, false, false, false, false, false, false, false, false, false, false, false, false, false, false, false, false, false, false, false, false, false, false] rfl rfl (any_of HT_.out (by kernel_rfl)) (fun _ _ _ h => h) (Or.inl ⟨by rfl, ?_⟩) ?_ ?_
                                                                        rotate_left
                                                                        · intro w'
                                                                          go_simp
                                                                          with_reducible rfl
                                                                        rotate_left
                                                                        · simp only [Act.put, List.setIfInBounds_toArray, List.set_cons_zero, List.set_cons_succ, i64_w, i32_w]
                                                                          rfl
                                                                        refine pure_ (i := 26) (N := some 60) (v := ?_) (a' := ?_) #[true, true, true, true, true, true, true, true, true, true, true, true, true, true, true, true, true, true, true, true, true, true, true, true, false, true, true, false, false, false, false, false, false, false, false, false, false, false, false, false, false, false, false, false, false, false, false, false, false, false, false, false, false, false, false, false, false, false, false, false, false, false] rfl rfl (any_of HT_.out (by kernel_rfl)) (fun _ _ _ h => h) (Or.inl ⟨by rfl, ?_⟩) ?_ ?_
                                                                        rotate_left
                                                                        · intro w'
                                                                          go_simp
                                                                          with_reducible rfl
                                                                        rotate_left
                                                                        · simp only [Act.put, List.setIfInBounds_toArray, List.set_cons_zero, List.set_cons_succ, i64_w, i32_w]
                                                                          rfl
                                                                        refine pure_ (i := 27) (N := some 61) (v := ?_) (a' := ?_) #[true, true, true, true, true, true, true, true, true, true, true, true, true, true, true, true, true, true, true, true, true, true, true, true, false, true, true, true, false, false, false, false, false, false, false, false, false, false, false, false, false, false, false, false, false, false, false, false, false, false, false, false, false, false, false, false, false, false, false, false, false, false] rfl rfl (any_of HT_.out (by kernel_rfl)) (fun _ _ _ h => h) (Or.inl ⟨by rfl, ?_⟩) ?_ ?_
                                                                        rotate_left
                                                                        · intro w'
                                                                          go_simp
                                                                          with_reducible rfl
                                                                        rotate_left
                                                                        · simp only [Act.put, List.setIfInBounds_toArray, List.set_cons_zero, List.set_cons_succ, i64_w, i32_w]
                                                                          rfl
                                                                        refine pure_ (i := 28) (N := some 62) (v := ?_) (a' := ?_) #[true, true, true, true, true, true, true, true, true, true, true, true, true, true, true, true, true, true, true, true, true, true, true, true, false, true, true, true, true, false, false, false, false, false, false, false, false, false, false, false, false, false, false, false, false, false, false, false, false, false, false, false, false, false, false, false, false, false, false, false, false, false] rfl rfl (any_of HT_.out (by kernel_rfl)) (fun _ _ _ h => h) (Or.inl ⟨by rfl, ?_⟩) ?_ ?_
                                                                        rotate_left
                                                                        · intro w'
                                                                          go_simp
                                                                          with_reducible rfl
                                                                        rotate_left
                                                                        · simp only [Act.put, List.setIfInBounds_toArray, List.set_cons_zero, List.set_cons_succ, i64_w, i32_w]
                                                                          rfl
                                                                        refine pure_ (i := 29) (N := some 63) (v := ?_) (a' := ?_) #[true, true, true, true, true, true, true, true, true, true, true, true, true, true, true, true, true, true, true, true, true, true, true, true, false, true, true, true, true, true, false, false, false, false, false, false, false, false, false, false, false, false, false, false, false, false, false, false, false, false, false, false, false, false, false, false, false, false, false, false, false, false] rfl rfl (any_of HT_.out (by kernel_rfl)) (fun _ _ _ h => h) (Or.inl ⟨by rfl, ?_⟩) ?_ ?_
                                                                        rotate_left
                                                                        · intro w'
                                                                          go_simp
                                                                          with_reducible rfl
                                                                        rotate_left
                                                                        · simp only [Act.put, List.setIfInBounds_toArray, List.set_cons_zero, List.set_cons_succ, i64_w, i32_w]
                                                                          rfl
                                                                        refine pure_ (i := 30) (N := some 64) (v := ?_) (a' := ?_) #[true, true, true, true, true, true, true, true, true, true, true, true, true, true, true, true, true, true, true, true, true, true, true, true, false, true, true, true, true, true, true, false, false, false, false, false, false, false, false, false, false, false, false, false, false, false, false, false, false, false, false, false, false, false, false, false, false, false, false, false, false, false] rfl rfl (any_of HT_.out (by kernel_rfl)) (fun _ _ _ h => h) (Or.inl ⟨by rfl, ?_⟩) ?_ ?_
                                                                        rotate_left
                                                                        · intro w'
                                                                          go_simp
                                                                          with_reducible rfl
                                                                        rotate_left
                                                                        · simp only [Act.put, List.setIfInBounds_toArray, List.set_cons_zero, List.set_cons_succ, i64_w, i32_w]
                                                                          rfl
                                                                        refine pure_ (i := 32) (N := some 66) (v := ?_) (a' := ?_) #[true, true, true, true, true, true, true, true, true, true, true, true, true, true, true, true, true, true, true, true, true, true, true, true, false, true, true, true, true, true, true, false, true, false, false, false, false, false, false, false, false, false, false, false, false, false, false, false, false, false, false, false, false, false, false, false, false, false, false, false, false, false] rfl rfl (any_of HT_.out (by kernel_rfl)) (fun _ _ _ h => h) (Or.inl ⟨by rfl, ?_⟩) ?_ ?_
                                                                        rotate_left
                                                                        · intro w'
                                                                          go_simp
                                                                          with_reducible rfl
                                                                        rotate_left
                                                                        · simp only [Act.put, List.setIfInBounds_toArray, List.set_cons_zero, List.set_cons_succ, i64_w, i32_w]
                                                                          rfl
                                                                        refine pure_ (i := 33) (N := some 67) (v := ?_) (a' := ?_) #[true, true, true, true, true, true, true, true, true, true, true, true, true, true, true, true, true, true, true, true, true, true, true, true, false, true, true, true, true, true, true, false, true, true, false, false, false, false, false, false, false, false, false, false, false, false, false, false, false, false, false, false, false, false, false, false, false, false, false, false, false, false] rfl rfl (any_of HT_.out (by kernel_rfl)) (fun _ _ _ h => h) (Or.inl ⟨by rfl, ?_⟩) ?_ ?_
                                                                        rotate_left
                                                                        · intro w'
                                                                          go_simp
                                                                          with_reducible rfl
                                                                        rotate_left
                                                                        · simp only [Act.put, List.setIfInBounds_toArray, List.set_cons_zero, List.set_cons_succ, i64_w, i32_w]
                                                                          rfl
                                                                        refine pure_ (i := 34) (N := some 68) (v := ?_) (a' := ?_) #[true, true, true, true, true, true, true, true, true, true, true, true, true, true, true, true, true, true, true, true, true, true, true, true, false, true, true, true, true, true, true, false, true, true, true, false, false, false, false, false, false, false, false, false, false, false, false, false, false, false, false, false, false, false, false, false, false, false, false, false, false, false] rfl rfl (any_of HT_.out (by kernel_rfl)) (fun _ _ _ h => h) (Or.inl ⟨by rfl, ?_⟩) ?_ ?_
                                                                        rotate_left
                                                                        · intro w'
                                                                          go_simp
                                                                          with_reducible rfl
                                                                        rotate_left
                                                                        · simp only [Act.put, List.setIfInBounds_toArray, List.set_cons_zero, List.set_cons_succ, i64_w, i32_w]
                                                                          rfl
                                                                        refine pure_ (i := 35) (N := some 69) (v := ?_) (a' := ?_) #[true, true, true, true, true, true, true, true, true, true, true, true, true, true, true, true, true, true, true, true, true, true, true, true, false, true, true, true, true, true, true, false, true, true, true, true, false, false, false, false, false, false, false, false, false, false, false, false, false, false, false, false, false, false, false, false, false, false, false, false, false, false] rfl rfl (any_of HT_.out (by kernel_rfl)) (fun _ _ _ h => h) (Or.inl ⟨by rfl, ?_⟩) ?_ ?_
                                                                        rotate_left
                                                                        · intro w'
                                                                          go_simp
                                                                          with_reducible rfl
                                                                        rotate_left
                                                                        · simp only [Act.put, List.setIfInBounds_toArray, List.set_cons_zero, List.set_cons_succ, i64_w, i32_w]
                                                                          rfl
                                                                        refine pure_ (i := 36) (N := some 70) (v := ?_) (a' := ?_) #[true, true, true, true, true, true, true, true, true, true, true, true, true, true, true, true, true, true, true, true, true, true, true, true, false, true, true, true, true, true, true, false, true, true, true, true, true, false, false, false, false, false, false, false, false, false, false, false, false, false, false, false, false, false, false, false, false, false, false, false, false, false] rfl rfl (any_of HT_.out (by kernel_rfl)) (fun _ _ _ h => h) (Or.inl ⟨by rfl, ?_⟩) ?_ ?_
                                                                        rotate_left
                                                                        · intro w'
                                                                          go_simp
                                                                          with_reducible rfl
                                                                        rotate_left
                                                                        · simp only [Act.put, List.setIfInBounds_toArray, List.set_cons_zero, List.set_cons_succ, i64_w, i32_w]
                                                                          rfl
                                                                        refine pure_ (i := 37) (N := some 71) (v := ?_) (a' := ?_) #[true, true, true, true, true, true, true, true, true, true, true, true, true, true, true, true, true, true, true, true, true, true, true, true, false, true, true, true, true, true, true, false, true, true, true, true, true, true, false, false, false, false, false, false, false, false, false, false, false, false, false, false, false, false, false, false, false, false, false, false, false, false] rfl rfl (any_of HT_.out (by kernel_rfl)) (fun _ _ _ h => h) (Or.inl ⟨by rfl, ?_⟩) ?_ ?_
                                                                        rotate_left
                                                                        · intro w'
                                                                          go_simp
                                                                          with_reducible rfl
                                                                        rotate_left
                                                                        · simp only [Act.put, List.setIfInBounds_toArray, List.set_cons_zero, List.set_cons_succ, i64_w, i32_w]
                                                                          rfl
                                                                        refine pure_ (i := 39) (N := some 73) (v := ?_) (a' := ?_) #[true, true, true, true, true, true, true, true, true, true, true, true, true, true, true, true, true, true, true, true, true, true, true, true, false, true, true, true, true, true, true, false, true, true, true, true, true, true, false, true, false, false, false, false, false, false, false, false, false, false, false, false, false, false, false, false, false, false, false, false, false, false] rfl rfl (any_of HT_.out (by kernel_rfl)) (fun _ _ _ h => h) (Or.inl ⟨by rfl, ?_⟩) ?_ ?_
                                                                        rotate_left
                                                                        · intro w'
                                                                          go_simp
                                                                          with_reducible rfl
                                                                        rotate_left
                                                                        · simp only [Act.put, List.setIfInBounds_toArray, List.set_cons_zero, List.set_cons_succ, i64_w, i32_w]
                                                                          rfl
                                                                        refine pure_ (i := 40) (N := some 74) (v := ?_) (a' := ?_) #[true, true, true, true, true, true, true, true, true, true, true, true, true, true, true, true, true, true, true, true, true, true, true, true, false, true, true, true, true, true, true, false, true, true, true, true, true, true, false, true, true, false, false, false, false, false, false, false, false, false, false, false, false, false, false, false, false, false, false, false, false, false] rfl rfl (any_of HT_.out (by kernel_rfl)) (fun _ _ _ h => h) (Or.inl ⟨by rfl, ?_⟩) ?_ ?_
                                                                        rotate_left
                                                                        · intro w'
                                                                          go_simp
                                                                          with_reducible rfl
                                                                        rotate_left
                                                                        · simp only [Act.put, List.setIfInBounds_toArray, List.set_cons_zero, List.set_cons_succ, i64_w, i32_w]
                                                                          rfl
                                                                        refine pure_ (i := 41) (N := some 75) (v := ?_) (a' := ?_) #[true, true, true, true, true, true, true, true, true, true, true, true, true, true, true, true, true, true, true, true, true, true, true, true, false, true, true, true, true, true, true, false, true, true, true, true, true, true, false, true, true, true, false, false, false, false, false, false, false, false, false, false, false, false, false, false, false, false, false, false, false, false] rfl rfl (any_of HT_.out (by kernel_rfl)) (fun _ _ _ h => h) (Or.inl ⟨by rfl, ?_⟩) ?_ ?_
                                                                        rotate_left
                                                                        · intro w'
                                                                          go_simp
                                                                          with_reducible rfl
                                                                        rotate_left
                                                                        · simp only [Act.put, List.setIfInBounds_toArray, List.set_cons_zero, List.set_cons_succ, i64_w, i32_w]
                                                                          rfl
                                                                        refine pure_ (i := 42) (N := some 76) (v := ?_) (a' := ?_) #[true, true, true, true, true, true, true, true, true, true, true, true, true, true, true, true, true, true, true, true, true, true, true, true, false, true, true, true, true, true, true, false, true, true, true, true, true, true, false, true, true, true, true, false, false, false, false, false, false, false, false, false, false, false, false, false, false, false, false, false, false, false] rfl rfl (any_of HT_.out (by kernel_rfl)) (fun _ _ _ h => h) (Or.inl ⟨by rfl, ?_⟩) ?_ ?_
                                                                        rotate_left
                                                                        · intro w'
                                                                          go_simp
                                                                          with_reducible rfl
                                                                        rotate_left
                                                                        · simp only [Act.put, List.setIfInBounds_toArray, List.set_cons_zero, List.set_cons_succ, i64_w, i32_w]
                                                                          rfl
                                                                        refine pure_ (i := 43) (N := some 77) (v := ?_) (a' := ?_) #[true, true, true, true, true, true, true, true, true, true, true, true, true, true, true, true, true, true, true, true, true, true, true, true, false, true, true, true, true, true, true, false, true, true, true, true, true, true, false, true, true, true, true, true, false, false, false, false, false, false, false, false, false, false, false, false, false, false, false, false, false, false] rfl rfl (any_of HT_.out (by kernel_rfl)) (fun _ _ _ h => h) (Or.inl ⟨by rfl, ?_⟩) ?_ ?_
                                                                        rotate_left
                                                                        · intro w'
                                                                          go_simp
                                                                          with_reducible rfl
                                                                        rotate_left
                                                                        · simp only [Act.put, List.setIfInBounds_toArray, List.set_cons_zero, List.set_cons_succ, i64_w, i32_w]
                                                                          rfl
                                                                        refine pure_ (i := 44) (N := some 78) (v := ?_) (a' := ?_) #[true, true, true, true, true, true, true, true, true, true, true, true, true, true, true, true, true, true, true, true, true, true, true, true, false, true, true, true, true, true, true, false, true, true, true, true, true, true, false, true, true, true, true, true, true, false, false, false, false, false, false, false, false, false, false, false, false, false, false, false, false, false] rfl rfl (any_of HT_.out (by kernel_rfl)) (fun _ _ _ h => h) (Or.inl ⟨by rfl, ?_⟩) ?_ ?_
                                                                        rotate_left
                                                                        · intro w'
                                                                          go_simp
                                                                          with_reducible rfl
                                                                        rotate_left
                                                                        · simp only [Act.put, List.setIfInBounds_toArray, List.set_cons_zero, List.set_cons_succ, i64_w, i32_w]
                                                                          rfl
                                                                        refine pure_ (i := 46) (N := some 80) (v := ?_) (a' := ?_) #[true, true, true, true, true, true, true, true, true, true, true, true, true, true, true, true, true, true, true, true, true, true, true, true, false, true, true, true, true, true, true, false, true, true, true, true, true, true, false, true, true, true, true, true, true, false, true, false, false, false, false, false, false, false, false, false, false, false, false, false, false, false] rfl rfl (any_of HT_.out (by kernel_rfl)) (fun _ _ _ h => h) (Or.inl ⟨by rfl, ?_⟩) ?_ ?_
                                                                        rotate_left
                                                                        · intro w'
                                                                          go_simp
                                                                          with_reducible rfl
                                                                        rotate_left
                                                                        · simp only [Act.put, List.setIfInBounds_toArray, List.set_cons_zero, List.set_cons_succ, i64_w, i32_w]
                                                                          rfl
                                                                        refine pure_ (i := 47) (N := some 81) (v := ?_) (a' := ?_) #[true, true, true, true, true, true, true, true, true, true, true, true, true, true, true, true, true, true, true, true, true, true, true, true, false, true, true, true, true, true, true, false, true, true, true, true, true, true, false, true, true, true, true, true, true, false, true, true, false, false, false, false, false, false, false, false, false, false, false, false, false, false] rfl rfl (any_of HT_.out (by kernel_rfl)) (fun _ _ _ h => h) (Or.inl ⟨by rfl, ?_⟩) ?_ ?_
                                                                        rotate_left
                                                                        · intro w'
                                                                          go_simp
                                                                          with_reducible rfl
                                                                        rotate_left
                                                                        · simp only [Act.put, List.setIfInBounds_toArray, List.set_cons_zero, List.set_cons_succ, i64_w, i32_w]
                                                                          rfl
                                                                        refine pure_ (i := 48) (N := some 82) (v := ?_) (a' := ?_) #[true, true, true, true, true, true, true, true, true, true, true, true, true, true, true, true, true, true, true, true, true, true, true, true, false, true, true, true, true, true, true, false, true, true, true, true, true, true, false, true, true, true, true, true, true, false, true, true, true, false, false, false, false, false, false, false, false, false, false, false, false, false] rfl rfl (any_of HT_.out (by kernel_rfl)) (fun _ _ _ h => h) (Or.inl ⟨by rfl, ?_⟩) ?_ ?_
                                                                        rotate_left
                                                                        · intro w'
                                                                          go_simp
                                                                          with_reducible rfl
                                                                        rotate_left
                                                                        · simp only [Act.put, List.setIfInBounds_toArray, List.set_cons_zero, List.set_cons_succ, i64_w, i32_w]
                                                                          rfl
                                                                        refine pure_ (i := 49) (N := some 83) (v := ?_) (a' := ?_) #[true, true, true, true, true, true, true, true, true, true, true, true, true, true, true, true, true, true, true, true, true, true, true, true, false, true, true, true, true, true, true, false, true, true, true, true, true, true, false, true, true, true, true, true, true, false, true, true, true, true, false, false, false, false, false, false, false, false, false, false, false, false] rfl rfl (any_of HT_.out (by kernel_rfl)) (fun _ _ _ h => h) (Or.inl ⟨by rfl, ?_⟩) ?_ ?_
                                                                        rotate_left
                                                                        · intro w'
                                                                          go_simp
                                                                          with_reducible rfl
                                                                        rotate_left
                                                                        · simp only [Act.put, List.setIfInBounds_toArray, List.set_cons_zero, List.set_cons_succ, i64_w, i32_w]
                                                                          rfl
                                                                        refine pure_ (i := 50) (N := some 84) (v := ?_) (a' := ?_) #[true, true, true, true, true, true, true, true, true, true, true, true, true, true, true, true, true, true, true, true, true, true, true, true, false, true, true, true, true, true, true, false, true, true, true, true, true, true, false, true, true, true, true, true, true, false, true, true, true, true, true, false, false, false, false, false, false, false, false, false, false, false] rfl rfl (any_of HT_.out (by kernel_rfl)) (fun _ _ _ h => h) (Or.inl ⟨by rfl, ?_⟩) ?_ ?_
                                                                        rotate_left
                                                                        · intro w'
                                                                          go_simp
                                                                          with_reducible rfl
                                                                        rotate_left
                                                                        · simp only [Act.put, List.setIfInBounds_toArray, List.set_cons_zero, List.set_cons_succ, i64_w, i32_w]
                                                                          rfl
                                                                        refine pure_ (i := 51) (N := some 85) (v := ?_) (a' := ?_) #[true, true, true, true, true, true, true, true, true, true, true, true, true, true, true, true, true, true, true, true, true, true, true, true, false, true, true, true, true, true, true, false, true, true, true, true, true, true, false, true, true, true, true, true, true, false, true, true, true, true, true, true, false, false, false, false, false, false, false, false, false, false] rfl rfl (any_of HT_.out (by kernel_rfl)) (fun _ _ _ h => h) (Or.inl ⟨by rfl, ?_⟩) ?_ ?_
                                                                        rotate_left
                                                                        · intro w'
                                                                          go_simp
                                                                          with_reducible rfl
                                                                        rotate_left
                                                                        · simp only [Act.put, List.setIfInBounds_toArray, List.set_cons_zero, List.set_cons_succ, i64_w, i32_w]
                                                                          rfl
                                                                        refine pure_ (i := 53) (N := some 87) (v := ?_) (a' := ?_) #[true, true, true, true, true, true, true, true, true, true, true, true, true, true, true, true, true, true, true, true, true, true, true, true, false, true, true, true, true, true, true, false, true, true, true, true, true, true, false, true, true, true, true, true, true, false, true, true, true, true, true, true, false, true, false, false, false, false, false, false, false, false] rfl rfl (any_of HT_.out (by kernel_rfl)) (fun _ _ _ h => h) (Or.inl ⟨by rfl, ?_⟩) ?_ ?_
                                                                        rotate_left
                                                                        · intro w'
                                                                          go_simp
                                                                          with_reducible rfl
                                                                        rotate_left
                                                                        · simp only [Act.put, List.setIfInBounds_toArray, List.set_cons_zero, List.set_cons_succ, i64_w, i32_w]
                                                                          rfl
                                                                        refine pure_ (i := 54) (N := some 88) (v := ?_) (a' := ?_) #[true, true, true, true, true, true, true, true, true, true, true, true, true, true, true, true, true, true, true, true, true, true, true, true, false, true, true, true, true, true, true, false, true, true, true, true, true, true, false, true, true, true, true, true, true, false, true, true, true, true, true, true, false, true, true, false, false, false, false, false, false, false] rfl rfl (any_of HT_.out (by kernel_rfl)) (fun _ _ _ h => h) (Or.inl ⟨by rfl, ?_⟩) ?_ ?_
                                                                        rotate_left
                                                                        · intro w'
                                                                          go_simp
                                                                          with_reducible rfl
                                                                        rotate_left
                                                                        · simp only [Act.put, List.setIfInBounds_toArray, List.set_cons_zero, List.set_cons_succ, i64_w, i32_w]
                                                                          rfl
                                                                        refine pure_ (i := 55) (N := some 89) (v := ?_) (a' := ?_) #[true, true, true, true, true, true, true, true, true, true, true, true, true, true, true, true, true, true, true, true, true, true, true, true, false, true, true, true, true, true, true, false, true, true, true, true, true, true, false, true, true, true, true, true, true, false, true, true, true, true, true, true, false, true, true, true, false, false, false, false, false, false] rfl rfl (any_of HT_.out (by kernel_rfl)) (fun _ _ _ h => h) (Or.inl ⟨by rfl, ?_⟩) ?_ ?_
                                                                        rotate_left
                                                                        · intro w'
                                                                          go_simp
                                                                          with_reducible rfl
                                                                        rotate_left
                                                                        · simp only [Act.put, List.setIfInBounds_toArray, List.set_cons_zero, List.set_cons_succ, i64_w, i32_w]
                                                                          rfl
                                                                        refine pure_ (i := 56) (N := some 90) (v := ?_) (a' := ?_) #[true, true, true, true, true, true, true, true, true, true, true, true, true, true, true, true, true, true, true, true, true, true, true, true, false, true, true, true, true, true, true, false, true, true, true, true, true, true, false, true, true, true, true, true, true, false, true, true, true, true, true, true, false, true, true, true, true, false, false, false, false, false] rfl rfl (any_of HT_.out (by kernel_rfl)) (fun _ _ _ h => h) (Or.inl ⟨by rfl, ?_⟩) ?_ ?_
                                                                        rotate_left
                                                                        · intro w'
                                                                          go_simp
                                                                          with_reducible rfl
                                                                        rotate_left
                                                                        · simp only [Act.put, List.setIfInBounds_toArray, List.set_cons_zero, List.set_cons_succ, i64_w, i32_w]
                                                                          rfl
                                                                        refine pure_ (i := 57) (N := some 91) (v := ?_) (a' := ?_) #[true, true, true, true, true, true, true, true, true, true, true, true, true, true, true, true, true, true, true, true, true, true, true, true, false, true, true, true, true, true, true, false, true, true, true, true, true, true, false, true, true, true, true, true, true, false, true, true, true, true, true, true, false, true, true, true, true, true, false, false, false, false] rfl rfl (any_of HT_.out (by kernel_rfl)) (fun _ _ _ h => h) (Or.inl ⟨by rfl, ?_⟩) ?_ ?_
                                                                        rotate_left
                                                                        · intro w'
                                                                          go_simp
                                                                          with_reducible rfl
                                                                        rotate_left
                                                                        · simp only [Act.put, List.setIfInBounds_toArray, List.set_cons_zero, List.set_cons_succ, i64_w, i32_w]
                                                                          rfl
                                                                        refine pure_ (i := 58) (N := some 92) (v := ?_) (a' := ?_) #[true, true, true, true, true, true, true, true, true, true, true, true, true, true, true, true, true, true, true, true, true, true, true, true, false, true, true, true, true, true, true, false, true, true, true, true, true, true, false, true, true, true, true, true, true, false, true, true, true, true, true, true, false, true, true, true, true, true, true, false, false, false] rfl rfl (any_of HT_.out (by kernel_rfl)) (fun _ _ _ h => h) (Or.inl ⟨by rfl, ?_⟩) ?_ ?_
                                                                        rotate_left
                                                                        · intro w'
                                                                          go_simp
                                                                          with_reducible rfl
                                                                        rotate_left
                                                                        · simp only [Act.put, List.setIfInBounds_toArray, List.set_cons_zero, List.set_cons_succ, i64_w, i32_w]
                                                                          rfl
                                                                        refine one_ (i := 24) (N := some 58) #[true, true, true, true, true, true, true, true, true, true, true, true, true, true, true, true, true, true, true, true, true, true, true, true, true, true, true, true, true, true, true, false, true, true, true, true, true, true, false, true, true, true, true, true, true, false, true, true, true, true, true, true, false, true, true, true, true, true, true, false, false, false] rfl rfl (one_of HT_.out (by kernel_rfl)) (by decide) (fun K hK => ?_)
                                                                        refine goes_ Try.func22 (by kernel_rfl) rfl #[.string ((⟨#[70]⟩ : ByteArray) ++ (t269.extract 1 t269.size))] (by rfl) rfl rfl (by (try simp only [List.map_toArray, List.map_cons, List.map_nil]); first | done | rfl | (simp only [List.length_drop, List.length_take]; rfl)) ?_
                                                                        with_reducible refine (wharfagelaw2_whole.calls kj9 ((⟨#[70]⟩ : ByteArray) ++ (t269.extract 1 t269.size)) t272 _ A31.out).mono ?_
                                                                        rintro e w68 ⟨rfl, hb⟩
                                                                        refine ⟨_, rfl, ?_⟩
                                                                        have n0_ := Aside0.mk (below_step (by repeat (first | (with_reducible first | exact HB.out | apply below_alloc | apply pw_below_drewN | apply below_drew1) | exact HB.out)) hb)
                                                                        clear HB
                                                                        have HB := n0_
                                                                        clear n0_
                                                                        (try clear hb)
                                                                        (try clear hb2)
                                                                        (try clear hk)
                                                                        (try clear hi)
                                                                        refine hK.out _ _ trivial (fun hHeld => ?_)
                                                                        clear hK K
                                                                        refine norm_ (a' := ?_) ?_ ?_
                                                                        rotate_left
                                                                        · show Act.put _ (some 58) _ = _
                                                                          simp only [Act.put, List.setIfInBounds_toArray, List.set_cons_zero, List.set_cons_succ, i64_w, i32_w]
                                                                          rfl
                                                                        refine one_ (i := 31) (N := some 65) #[true, true, true, true, true, true, true, true, true, true, true, true, true, true, true, true, true, true, true, true, true, true, true, true, true, true, true, true, true, true, true, true, true, true, true, true, true, true, false, true, true, true, true, true, true, false, true, true, true, true, true, true, false, true, true, true, true, true, true, false, false, false] rfl rfl (one_of HT_.out (by kernel_rfl)) (by decide) (fun K hK => ?_)
                                                                        refine goes_ Try.func22 (by kernel_rfl) rfl #[.string (((t269.extract 0 6) ++ (⟨#[32, 0]⟩ : ByteArray)) ++ (t269.extract 8 t269.size))] (by rfl) rfl rfl (by (try simp only [List.map_toArray, List.map_cons, List.map_nil]); first | done | rfl | (simp only [List.length_drop, List.length_take]; rfl)) ?_
                                                                        with_reducible refine (wharfagelaw2_whole.calls kj9 (((t269.extract 0 6) ++ (⟨#[32, 0]⟩ : ByteArray)) ++ (t269.extract 8 t269.size)) t273 _ A37.out).mono ?_
                                                                        rintro e w69 ⟨rfl, hb⟩
                                                                        refine ⟨_, rfl, ?_⟩
                                                                        have n0_ := Aside0.mk (below_step (by repeat (first | (with_reducible first | exact HB.out | apply below_alloc | apply pw_below_drewN | apply below_drew1) | exact HB.out)) hb)
                                                                        clear HB
                                                                        have HB := n0_
                                                                        clear n0_
                                                                        (try clear hb)
                                                                        (try clear hb2)
                                                                        (try clear hk)
                                                                        (try clear hi)
                                                                        refine hK.out _ _ trivial (fun hHeld => ?_)
                                                                        clear hK K
                                                                        refine norm_ (a' := ?_) ?_ ?_
                                                                        rotate_left
                                                                        · show Act.put _ (some 65) _ = _
                                                                          simp only [Act.put, List.setIfInBounds_toArray, List.set_cons_zero, List.set_cons_succ, i64_w, i32_w]
                                                                          rfl
                                                                        refine one_ (i := 38) (N := some 72) #[true, true, true, true, true, true, true, true, true, true, true, true, true, true, true, true, true, true, true, true, true, true, true, true, true, true, true, true, true, true, true, true, true, true, true, true, true, true, true, true, true, true, true, true, true, false, true, true, true, true, true, true, false, true, true, true, true, true, true, false, false, false] rfl rfl (one_of HT_.out (by kernel_rfl)) (by decide) (fun K hK => ?_)
                                                                        refine goes_ Try.func22 (by kernel_rfl) rfl #[.string (((t269.extract 0 6) ++ (⟨#[0, 1]⟩ : ByteArray)) ++ (t269.extract 8 t269.size))] (by rfl) rfl rfl (by (try simp only [List.map_toArray, List.map_cons, List.map_nil]); first | done | rfl | (simp only [List.length_drop, List.length_take]; rfl)) ?_
                                                                        with_reducible refine (wharfagelaw2_whole.calls kj9 (((t269.extract 0 6) ++ (⟨#[0, 1]⟩ : ByteArray)) ++ (t269.extract 8 t269.size)) t274 _ A42.out).mono ?_
                                                                        rintro e w70 ⟨rfl, hb⟩
                                                                        refine ⟨_, rfl, ?_⟩
                                                                        have n0_ := Aside0.mk (below_step (by repeat (first | (with_reducible first | exact HB.out | apply below_alloc | apply pw_below_drewN | apply below_drew1) | exact HB.out)) hb)
                                                                        clear HB
                                                                        have HB := n0_
                                                                        clear n0_
                                                                        (try clear hb)
                                                                        (try clear hb2)
                                                                        (try clear hk)
                                                                        (try clear hi)
                                                                        refine hK.out _ _ trivial (fun hHeld => ?_)
                                                                        clear hK K
                                                                        refine norm_ (a' := ?_) ?_ ?_
                                                                        rotate_left
                                                                        · show Act.put _ (some 72) _ = _
                                                                          simp only [Act.put, List.setIfInBounds_toArray, List.set_cons_zero, List.set_cons_succ, i64_w, i32_w]
                                                                          rfl
                                                                        refine one_ (i := 45) (N := some 79) #[true, true, true, true, true, true, true, true, true, true, true, true, true, true, true, true, true, true, true, true, true, true, true, true, true, true, true, true, true, true, true, true, true, true, true, true, true, true, true, true, true, true, true, true, true, true, true, true, true, true, true, true, false, true, true, true, true, true, true, false, false, false] rfl rfl (one_of HT_.out (by kernel_rfl)) (by decide) (fun K hK => ?_)
                                                                        refine goes_ Try.func22 (by kernel_rfl) rfl #[.string (((t269.extract 0 6) ++ (⟨#[128, 0]⟩ : ByteArray)) ++ (t269.extract 8 t269.size))] (by rfl) rfl rfl (by (try simp only [List.map_toArray, List.map_cons, List.map_nil]); first | done | rfl | (simp only [List.length_drop, List.length_take]; rfl)) ?_
                                                                        with_reducible refine (wharfagelaw2_whole.calls kj9 (((t269.extract 0 6) ++ (⟨#[128, 0]⟩ : ByteArray)) ++ (t269.extract 8 t269.size)) t275 _ A47.out).mono ?_
                                                                        rintro e w71 ⟨rfl, hb⟩
                                                                        refine ⟨_, rfl, ?_⟩
                                                                        have n0_ := Aside0.mk (below_step (by repeat (first | (with_reducible first | exact HB.out | apply below_alloc | apply pw_below_drewN | apply below_drew1) | exact HB.out)) hb)
                                                                        clear HB
                                                                        have HB := n0_
                                                                        clear n0_
                                                                        (try clear hb)
                                                                        (try clear hb2)
                                                                        (try clear hk)
                                                                        (try clear hi)
                                                                        refine hK.out _ _ trivial (fun hHeld => ?_)
                                                                        clear hK K
                                                                        refine norm_ (a' := ?_) ?_ ?_
                                                                        rotate_left
                                                                        · show Act.put _ (some 79) _ = _
                                                                          simp only [Act.put, List.setIfInBounds_toArray, List.set_cons_zero, List.set_cons_succ, i64_w, i32_w]
                                                                          rfl
                                                                        refine one_ (i := 52) (N := some 86) #[true, true, true, true, true, true, true, true, true, true, true, true, true, true, true, true, true, true, true, true, true, true, true, true, true, true, true, true, true, true, true, true, true, true, true, true, true, true, true, true, true, true, true, true, true, true, true, true, true, true, true, true, true, true, true, true, true, true, true, false, false, false] rfl rfl (one_of HT_.out (by kernel_rfl)) (by decide) (fun K hK => ?_)
                                                                        refine goes_ Try.func22 (by kernel_rfl) rfl #[.string (((t269.extract 0 6) ++ (⟨#[0, 0]⟩ : ByteArray)) ++ (t269.extract 8 t269.size))] (by rfl) rfl rfl (by (try simp only [List.map_toArray, List.map_cons, List.map_nil]); first | done | rfl | (simp only [List.length_drop, List.length_take]; rfl)) ?_
                                                                        with_reducible refine (wharfagelaw2_whole.calls kj9 (((t269.extract 0 6) ++ (⟨#[0, 0]⟩ : ByteArray)) ++ (t269.extract 8 t269.size)) t276 _ A52.out).mono ?_
                                                                        rintro e w72 ⟨rfl, hb⟩
                                                                        refine ⟨_, rfl, ?_⟩
                                                                        have n0_ := Aside0.mk (below_step (by repeat (first | (with_reducible first | exact HB.out | apply below_alloc | apply pw_below_drewN | apply below_drew1) | exact HB.out)) hb)
                                                                        clear HB
                                                                        have HB := n0_
                                                                        clear n0_
                                                                        (try clear hb)
                                                                        (try clear hb2)
                                                                        (try clear hk)
                                                                        (try clear hi)
                                                                        refine hK.out _ _ trivial (fun hHeld => ?_)
                                                                        clear hK K
                                                                        refine norm_ (a' := ?_) ?_ ?_
                                                                        rotate_left
                                                                        · show Act.put _ (some 86) _ = _
                                                                          simp only [Act.put, List.setIfInBounds_toArray, List.set_cons_zero, List.set_cons_succ, i64_w, i32_w]
                                                                          rfl
                                                                        refine one_ (i := 59) (N := some 93) #[true, true, true, true, true, true, true, true, true, true, true, true, true, true, true, true, true, true, true, true, true, true, true, true, true, true, true, true, true, true, true, true, true, true, true, true, true, true, true, true, true, true, true, true, true, true, true, true, true, true, true, true, true, true, true, true, true, true, true, true, false, false] rfl rfl (one_of HT_.out (by kernel_rfl)) (by decide) (fun K hK => ?_)
                                                                        refine goes_ Try.func22 (by kernel_rfl) rfl #[.string (((t269.extract 0 1) ++ (⟨#[255]⟩ : ByteArray)) ++ (t269.extract 2 t269.size))] (by rfl) rfl rfl (by (try simp only [List.map_toArray, List.map_cons, List.map_nil]); first | done | rfl | (simp only [List.length_drop, List.length_take]; rfl)) ?_
                                                                        with_reducible refine (wharfagelaw2_whole.calls kj9 (((t269.extract 0 1) ++ (⟨#[255]⟩ : ByteArray)) ++ (t269.extract 2 t269.size)) t277 _ A58.out).mono ?_
                                                                        rintro e w73 ⟨rfl, hb⟩
                                                                        refine ⟨_, rfl, ?_⟩
                                                                        have n0_ := Aside0.mk (below_step (by repeat (first | (with_reducible first | exact HB.out | apply below_alloc | apply pw_below_drewN | apply below_drew1) | exact HB.out)) hb)
                                                                        clear HB
                                                                        have HB := n0_
                                                                        clear n0_
                                                                        (try clear hb)
                                                                        (try clear hb2)
                                                                        (try clear hk)
                                                                        (try clear hi)
                                                                        refine hK.out _ _ trivial (fun hHeld => ?_)
                                                                        clear hK K
                                                                        refine norm_ (a' := ?_) ?_ ?_
                                                                        rotate_left
                                                                        · show Act.put _ (some 93) _ = _
                                                                          simp only [Act.put, List.setIfInBounds_toArray, List.set_cons_zero, List.set_cons_succ, i64_w, i32_w]
                                                                          rfl
                                                                        refine one_ (i := 60) (N := some 94) #[true, true, true, true, true, true, true, true, true, true, true, true, true, true, true, true, true, true, true, true, true, true, true, true, true, true, true, true, true, true, true, true, true, true, true, true, true, true, true, true, true, true, true, true, true, true, true, true, true, true, true, true, true, true, true, true, true, true, true, true, true, false] rfl rfl (one_of HT_.out (by kernel_rfl)) (by decide) (fun K hK => ?_)
                                                                        refine Kd.R_lit_step Kd.string _ 9 ?hg (N := 94) ?hd (xs := ([(⟨#[]⟩ : ByteArray), t269.extract 0 19, t269.extract 0 ((ji18) : Int).toNat, t269 ++ (⟨#[120]⟩ : ByteArray), (⟨#[101]⟩ : ByteArray) ++ (t269.extract 1 t269.size), (⟨#[68]⟩ : ByteArray) ++ (t269.extract 1 t269.size), ((t269.extract 0 8) ++ (⟨#[10]⟩ : ByteArray)) ++ (t269.extract 9 t269.size), t272, t273, t274, t275, t276, t277] : List ByteArray)) (inner := [.string (⟨#[]⟩ : ByteArray), .string (t269.extract 0 19), .string (t269.extract 0 ((ji18) : Int).toNat), .string (t269 ++ (⟨#[120]⟩ : ByteArray)), .string ((⟨#[101]⟩ : ByteArray) ++ (t269.extract 1 t269.size)), .string ((⟨#[68]⟩ : ByteArray) ++ (t269.extract 1 t269.size)), .string (((t269.extract 0 8) ++ (⟨#[10]⟩ : ByteArray)) ++ (t269.extract 9 t269.size)), .string t272, .string t273, .string t274, .string t275, .string t276, .string t277]) (ok := fun _ => True) (okp := fun _ => True) ?hr ?hp (fun _ hk => hk) trivial (Below.refl _ _) (Nat.le_refl _) (by simp) ?_; (case hd => rfl); (case hg => rfl); (case hr => first | (go_simp; done) | (go_simp; rfl)); (case hp => exact (Reps.one (show Kd.M Kd.string _ _ _ (⟨#[]⟩ : ByteArray) [.string (⟨#[]⟩ : ByteArray)] from rfl) (Reps.one (show Kd.M Kd.string _ _ _ (t269.extract 0 19) [.string (t269.extract 0 19)] from rfl) (Reps.one (show Kd.M Kd.string _ _ _ (t269.extract 0 ((ji18) : Int).toNat) [.string (t269.extract 0 ((ji18) : Int).toNat)] from rfl) (Reps.one (show Kd.M Kd.string _ _ _ (t269 ++ (⟨#[120]⟩ : ByteArray)) [.string (t269 ++ (⟨#[120]⟩ : ByteArray))] from rfl) (Reps.one (show Kd.M Kd.string _ _ _ ((⟨#[101]⟩ : ByteArray) ++ (t269.extract 1 t269.size)) [.string ((⟨#[101]⟩ : ByteArray) ++ (t269.extract 1 t269.size))] from rfl) (Reps.one (show Kd.M Kd.string _ _ _ ((⟨#[68]⟩ : ByteArray) ++ (t269.extract 1 t269.size)) [.string ((⟨#[68]⟩ : ByteArray) ++ (t269.extract 1 t269.size))] from rfl) (Reps.one (show Kd.M Kd.string _ _ _ (((t269.extract 0 8) ++ (⟨#[10]⟩ : ByteArray)) ++ (t269.extract 9 t269.size)) [.string (((t269.extract 0 8) ++ (⟨#[10]⟩ : ByteArray)) ++ (t269.extract 9 t269.size))] from rfl) (Reps.one (show Kd.M Kd.string _ _ _ t272 [.string t272] from rfl) (Reps.one (show Kd.M Kd.string _ _ _ t273 [.string t273] from rfl) (Reps.one (show Kd.M Kd.string _ _ _ t274 [.string t274] from rfl) (Reps.one (show Kd.M Kd.string _ _ _ t275 [.string t275] from rfl) (Reps.one (show Kd.M Kd.string _ _ _ t276 [.string t276] from rfl) (Reps.one (show Kd.M Kd.string _ _ _ t277 [.string t277] from rfl) (Reps.none _ _)))))))))))))))
                                                                        intro v279 w74 ho75 hb hg_ hnew_
                                                                        clear hg_ hnew_
                                                                        (first | rw [← Ny278.out] at ho75 | (simp only [Int.reduceToNat] at ho75; rw [← Ny278.out] at ho75))
                                                                        have n0_ := Aside0.mk (Kd.R_lower ho75 (below_size (by repeat (first | (with_reducible first | exact HB.out | apply below_alloc | apply pw_below_drewN | apply below_drew1) | exact HB.out))))
                                                                        have n1_ := Aside0.mk (below_step (by repeat (first | (with_reducible first | exact HB.out | apply below_alloc | apply pw_below_drewN | apply below_drew1) | exact HB.out)) hb)
                                                                        clear HB
                                                                        have HO280 := n0_
                                                                        have HB := n1_
                                                                        clear n0_ n1_
                                                                        clear hb ho75
                                                                        refine hK.out _ _ trivial (fun hHeld => ?_)
                                                                        clear hK K
                                                                        refine norm_ (a' := ?_) ?_ ?_
                                                                        rotate_left
                                                                        · show Act.put _ (some 94) _ = _
                                                                          simp only [Act.put, List.setIfInBounds_toArray, List.set_cons_zero, List.set_cons_succ, i64_w, i32_w]
                                                                          rfl
                                                                        refine pure_ (i := 61) (N := some 7) (v := ?_) (a' := ?_) #[true, true, true, true, true, true, true, true, true, true, true, true, true, true, true, true, true, true, true, true, true, true, true, true, true, true, true, true, true, true, true, true, true, true, true, true, true, true, true, true, true, true, true, true, true, true, true, true, true, true, true, true, true, true, true, true, true, true, true, true, true, true] rfl rfl (any_of HT_.out (by kernel_rfl)) (fun _ _ _ h => h) (Or.inl ⟨by rfl, ?_⟩) ?_ ?_
                                                                        rotate_left
                                                                        · intro w'
                                                                          go_simp
                                                                          with_reducible rfl
                                                                        rotate_left
                                                                        · simp only [Act.put, List.setIfInBounds_toArray, List.set_cons_zero, List.set_cons_succ, i64_w, i32_w]
                                                                          rfl
                                                                        refine done_ (done_of HT_.out (by kernel_rfl)) ?_
                                                                        try go_wp2_with (first | ((with_reducible refine gate_dst (N := 95) rfl ?_); (try (refine gate_guard (by rfl) ?_; dsimp only)); refine Kd.R_lit (Kd.int .i64) _ 3 ?hg (N := 95) ?hd (xs := ([1, 1, 1, 1, 1, 1, 1, 3, 2, 2, 2, 0, 0] : List Int)) (inner := [.int .i64 1, .int .i64 1, .int .i64 1, .int .i64 1, .int .i64 1, .int .i64 1, .int .i64 1, .int .i64 3, .int .i64 2, .int .i64 2, .int .i64 2, .int .i64 0, .int .i64 0]) (ok := fun _ => True) (okp := fun _ => True) ?hr ?hp (fun _ hk => hk) trivial (Below.refl _ _) (Nat.le_refl _) (by simp) ?_; (case hd => rfl); (case hg => rfl); (case hr => first | (go_simp; done) | (go_simp; rfl)); (case hp => exact (Reps.one (show Kd.M (Kd.int .i64) _ _ _ 1 [.int .i64 1] from rfl) (Reps.one (show Kd.M (Kd.int .i64) _ _ _ 1 [.int .i64 1] from rfl) (Reps.one (show Kd.M (Kd.int .i64) _ _ _ 1 [.int .i64 1] from rfl) (Reps.one (show Kd.M (Kd.int .i64) _ _ _ 1 [.int .i64 1] from rfl) (Reps.one (show Kd.M (Kd.int .i64) _ _ _ 1 [.int .i64 1] from rfl) (Reps.one (show Kd.M (Kd.int .i64) _ _ _ 1 [.int .i64 1] from rfl) (Reps.one (show Kd.M (Kd.int .i64) _ _ _ 1 [.int .i64 1] from rfl) (Reps.one (show Kd.M (Kd.int .i64) _ _ _ 3 [.int .i64 3] from rfl) (Reps.one (show Kd.M (Kd.int .i64) _ _ _ 2 [.int .i64 2] from rfl) (Reps.one (show Kd.M (Kd.int .i64) _ _ _ 2 [.int .i64 2] from rfl) (Reps.one (show Kd.M (Kd.int .i64) _ _ _ 2 [.int .i64 2] from rfl) (Reps.one (show Kd.M (Kd.int .i64) _ _ _ 0 [.int .i64 0] from rfl) (Reps.one (show Kd.M (Kd.int .i64) _ _ _ 0 [.int .i64 0] from rfl) (Reps.none _ _))))))))))))))); intro v282 w76 ho77 hb hg_ hnew_; clear hg_ hnew_; (first | rw [← Ny281.out] at ho77 | (simp only [Int.reduceToNat] at ho77; rw [← Ny281.out] at ho77)); have n0_ := Aside0.mk (Kd.R_below (by (with_reducible repeat (first | apply Kd.R_alloc | apply Kd.R_drewN | apply Kd.R_drew)); exact HO280.out) hb); have n1_ := Aside0.mk (Kd.R_lower ho77 (below_size (by repeat (first | (with_reducible first | exact HB.out | apply below_alloc | apply pw_below_drewN | apply below_drew1) | exact HB.out)))); have n2_ := Aside0.mk (below_step (by repeat (first | (with_reducible first | exact HB.out | apply below_alloc | apply pw_below_drewN | apply below_drew1) | exact HB.out)) hb); clear HO280; clear HB; have HO280 := n0_; have HO283 := n1_; have HB := n2_; clear n0_ n1_ n2_; clear hb ho77; obtain ⟨Ao78, co78, eo78⟩ := Kd.R_slice HO280.out; subst eo78; have p284 : 0 ≤ ((ji59) : Int) := of_decide_eq_true (by first | (with_reducible assumption) | assumption); have q284 : (ji59) < (y278.length : Int) := of_decide_eq_true (by first | (with_reducible assumption) | assumption); obtain ⟨ad284, e284, hx284_0⟩ := Kd.at_string (Kd.R_reads' HO280.out).2.2 (ji59) p284 q284; cases e284; replace p284 := eq_true p284; replace q284 := eq_true q284) | ((with_reducible refine gate_callee (f := 23) rfl ?_); refine goesL_ (some 105) rfl rfl Try.func23 (by kernel_rfl) rfl #[.string (rdOf ByteArray.empty y278 (ji59))] rfl (by (try simp only [List.map_toArray, List.map_cons, List.map_nil]); first | done | (simp only [hji59]; rfl) | rfl | (simp only [List.length_drop, List.length_take]; rfl)) ?_; (with_reducible refine (ip_Get.calls kj9 (rdOf ByteArray.empty y278 (ji59)) t285 t286 t287 t288 t289 t290 t291 t292 _ A62.out).mono ?_); rintro e w79 ⟨rfl, hb⟩; refine ⟨_, rfl, ?_⟩; have n0_ := Aside0.mk (Kd.R_below (by (with_reducible repeat (first | apply Kd.R_alloc | apply Kd.R_drewN | apply Kd.R_drew)); exact HO280.out) hb); have n1_ := Aside0.mk (Kd.R_below (by (with_reducible repeat (first | apply Kd.R_alloc | apply Kd.R_drewN | apply Kd.R_drew)); exact HO283.out) hb); have n2_ := Aside0.mk (below_step (by repeat (first | (with_reducible first | exact HB.out | apply below_alloc | apply pw_below_drewN | apply below_drew1) | exact HB.out)) hb); clear HO280; clear HO283; clear HB; have HO280 := n0_; have HO283 := n1_; have HB := n2_; clear n0_ n1_ n2_; (try clear hb); (try clear hb2); (try clear hk); (try clear hi)) | ((with_reducible refine gate_dst (N := 10) rfl ?_); (try (refine gate_guard (by rfl) ?_; dsimp only)); refine box_event ?hg (N := 10) ?hd (cs := #[.int .i64 0, .int .i64 0, .int .i64 0, .int .i64 0, .int .i64 0, .string (⟨#[]⟩ : ByteArray)]) (t := 23) ?hr ?_; (case hd => rfl); (case hg => rfl); (case hr => first | (go_simp; done) | (go_simp; rfl)); intro gb293 hg w80 hbox hb; have n0_ := Aside0.mk (Kd.R_below (by (with_reducible repeat (first | apply Kd.R_alloc | apply Kd.R_drewN | apply Kd.R_drew)); exact HO280.out) hb); have n1_ := Aside0.mk (Kd.R_below (by (with_reducible repeat (first | apply Kd.R_alloc | apply Kd.R_drewN | apply Kd.R_drew)); exact HO283.out) hb); have n2_ := Aside0.mk (below_step (by repeat (first | (with_reducible first | exact HB.out | apply below_alloc | apply pw_below_drewN | apply below_drew1) | exact HB.out)) hb); have n3_ := Aside0.mk (hbox); have n4_ := Aside0.mk ((by rw [hg]; exact (below_size (by repeat (first | (with_reducible first | exact HB.out | apply below_alloc | apply pw_below_drewN | apply below_drew1) | exact HB.out))) : w.heap.size ≤ gb293)); have n5_ := Aside0.mk ((by rw [hg]; exact (below_size (by repeat (first | (with_reducible first | exact HB.out | apply below_alloc | apply pw_below_drewN | apply below_drew1) | exact HB.out))) : w.heap.size ≤ gb293)); clear HO280; clear HO283; clear HB; have HO280 := n0_; have HO283 := n1_; have HB := n2_; have BK293 := n3_; have GW293 := n4_; have GE293 := n5_; clear n0_ n1_ n2_ n3_ n4_ n5_; clear hb hbox hg; have hcz81_0 : w80.cell? ⟨gb293, 0, none⟩ = some (.int .i64 0) := (blk_cell BK293.out 0).trans rfl; have hcz81_1 : w80.cell? ⟨gb293, 1, none⟩ = some (.int .i64 0) := (blk_cell BK293.out 1).trans rfl; have hcz81_2 : w80.cell? ⟨gb293, 2, none⟩ = some (.int .i64 0) := (blk_cell BK293.out 2).trans rfl; have hcz81_3 : w80.cell? ⟨gb293, 3, none⟩ = some (.int .i64 0) := (blk_cell BK293.out 3).trans rfl; have hcz81_4 : w80.cell? ⟨gb293, 4, none⟩ = some (.int .i64 0) := (blk_cell BK293.out 4).trans rfl; have hcz81_5 : w80.cell? ⟨gb293, 5, none⟩ = some (.string (⟨#[]⟩ : ByteArray)) := (blk_cell BK293.out 5).trans rfl; have hfz81_0 := blk_frozen BK293.out 0; have hfz81_1 := blk_frozen BK293.out 1; have hfz81_2 := blk_frozen BK293.out 2; have hfz81_3 := blk_frozen BK293.out 3; have hfz81_4 := blk_frozen BK293.out 4; have hfz81_5 := blk_frozen BK293.out 5; obtain ⟨Ao82, co82, eo82⟩ := Kd.R_slice HO283.out; subst eo82; have p294 : 0 ≤ ((ji59) : Int) := of_decide_eq_true (by first | (with_reducible assumption) | assumption); have q294 : (ji59) < (y281.length : Int) := of_decide_eq_true (by first | (with_reducible assumption) | assumption); obtain ⟨ad294, e294, hx294_0⟩ := Kd.at_int (Kd.R_reads' HO283.out).2.2 (ji59) p294 q294; cases e294; have hn294_0 : ad294.block ≠ gb293 := Kd.own_blk (Kd.R_ne HO283.out BK293.out (by decide)); have hn294_1 : ad294.block ≠ gb293 := Kd.own_blk (Kd.R_ne HO283.out BK293.out (by decide)); have hn294_2 : ad294.block ≠ gb293 := Kd.own_blk (Kd.R_ne HO283.out BK293.out (by decide)); have hn294_3 : ad294.block ≠ gb293 := Kd.own_blk (Kd.R_ne HO283.out BK293.out (by decide)); have hn294_4 : ad294.block ≠ gb293 := Kd.own_blk (Kd.R_ne HO283.out BK293.out (by decide)); have hn294_5 : ad294.block ≠ gb293 := Kd.own_blk (Kd.R_ne HO283.out BK293.out (by decide)); replace hx294_0 := (cell_far (p := ⟨gb293, 0, none⟩) (by first | (rw [add_block]; exact hn294_0) | (show (Addr.add _ _).block ≠ _; rw [add_block]; exact hn294_0) | exact hn294_0) (.int .i64 t285)).trans hx294_0; replace hx294_0 := (cell_far (p := ⟨gb293, 1, none⟩) (by first | (rw [add_block]; exact hn294_1) | (show (Addr.add _ _).block ≠ _; rw [add_block]; exact hn294_1) | exact hn294_1) (.int .i64 t286)).trans hx294_0; replace hx294_0 := (cell_far (p := ⟨gb293, 2, none⟩) (by first | (rw [add_block]; exact hn294_2) | (show (Addr.add _ _).block ≠ _; rw [add_block]; exact hn294_2) | exact hn294_2) (.int .i64 t287)).trans hx294_0; replace hx294_0 := (cell_far (p := ⟨gb293, 3, none⟩) (by first | (rw [add_block]; exact hn294_3) | (show (Addr.add _ _).block ≠ _; rw [add_block]; exact hn294_3) | exact hn294_3) (.int .i64 t288)).trans hx294_0; replace hx294_0 := (cell_far (p := ⟨gb293, 4, none⟩) (by first | (rw [add_block]; exact hn294_4) | (show (Addr.add _ _).block ≠ _; rw [add_block]; exact hn294_4) | exact hn294_4) (.int .i64 t289)).trans hx294_0; replace hx294_0 := (cell_far (p := ⟨gb293, 5, none⟩) (by first | (rw [add_block]; exact hn294_5) | (show (Addr.add _ _).block ≠ _; rw [add_block]; exact hn294_5) | exact hn294_5) (.string t290)).trans hx294_0; clear hn294_0; clear hn294_1; clear hn294_2; clear hn294_3; clear hn294_4; clear hn294_5; replace p294 := eq_true p294; replace q294 := eq_true q294) | (go_at_call 19; (with_reducible refine (wharfagelaw0_Num.calls t292 t295 _ A65.out).mono ?_); rintro e w' ⟨rfl, ⟨nd, rfl⟩⟩))
                                                                        go_ret
                                                                        exact ⟨by first | rfl | (simp [errW_none, errW_some] <;> rfl) | (simp only [← hji5, ← hji18, ← hji59]; first | rfl | (simp [errW_none, errW_some] <;> rfl)) | (simp [*, errW_none, errW_some] <;> rfl), by repeat (first | (with_reducible first | exact HB.out | apply below_alloc | apply pw_below_drewN | apply below_drew1 | refine below_set ?_ GE293.out) | exact HB.out)⟩
                                                                      · rw [if_neg c66] at H
                                                                        exact absurd H (by simp)
                                                                    · rw [if_neg c64] at H
                                                                      exact absurd H (by simp)
                                                                  · rw [if_neg c63] at H
                                                                    exact absurd H (by simp)
                                                                · rw [if_neg c61] at H
                                                                  exact absurd H (by simp)
                                                              · rw [if_neg c60] at H
                                                                exact absurd H (by simp)
                                                            · rw [if_neg c57] at H
                                                              exact absurd H (by simp)
                                                          · rw [if_neg c56] at H
                                                            exact absurd H (by simp)
                                                        · rw [if_neg c55] at H
                                                          exact absurd H (by simp)
                                                      · rw [if_neg c53] at H
                                                        exact absurd H (by simp)
                                                    · rw [if_neg c51] at H
                                                      exact absurd H (by simp)
                                                  · rw [if_neg c46] at H
                                                    exact absurd H (by simp)
                                                · rw [if_neg c41] at H
                                                  exact absurd H (by simp)
                                              · rw [if_neg c36] at H
                                                exact absurd H (by simp)
                                            · rw [if_neg c34] at H
                                              exact absurd H (by simp)
                                          · rw [if_neg c33] at H
                                            exact absurd H (by simp)
                                        · rw [if_neg c32] at H
                                          exact absurd H (by simp)
                                      · rw [if_neg c29] at H
                                        exact absurd H (by simp)
                                    · rw [if_neg c28] at H
                                      exact absurd H (by simp)
                                  · rw [if_neg c27] at H
                                    exact absurd H (by simp)
                                · rw [if_neg c26] at H
                                  exact absurd H (by simp)
                              · rw [if_neg c25] at H
                                exact absurd H (by simp)
                            · rw [if_neg c23] at H
                              exact absurd H (by simp)
                          · rw [if_neg c22] at H
                            exact absurd H (by simp)
                        · rw [if_neg c21] at H
                          exact absurd H (by simp)
                      · rw [if_neg c20] at H
                        exact absurd H (by simp)
                    · rw [if_neg c19] at H
                      exact absurd H (by simp)
                  · rw [if_neg c17] at H
                    exact absurd H (by simp)
                · rw [if_neg c16] at H
                  exact absurd H (by simp)
        · rw [if_neg c8] at H
          exact absurd H (by simp)
      · rw [if_neg c7] at H
        exact absurd H (by simp)
    · rw [if_neg c6] at H
      exact absurd H (by simp)
  · replace c4 := Bool.eq_false_iff.mpr c4
    subst c4
    have H1 : (none) = some r := by rw [if_neg (show ¬ (false = true) by decide)] at H; exact H
    clear H
    have H := H1
    clear H1
    exact absurd H (by simp)

/-- THE ONE PURE STATEMENT of wharfagelaw2_IpClasses: yours. -/
def wharfagelaw2_IpClasses.Pure : Prop := ∀ (a0 : Int) (a1 : ByteArray), (Lit.int .i64 a0).wf = true → a1.size ≤ 140737488351232 → ∃ k, wharfagelaw2_IpClasses.f k a0 a1 = some true
theorem wharfagelaw2_IpClasses.walk (P : wharfagelaw2_IpClasses.Pure) (a0 : Int) (a1 : ByteArray) (w : World) (w0 : (Lit.int .i64 a0).wf = true) (w1 : a1.size ≤ 140737488351232) :
    Calls Try.prog 6 #[.int .i64 a0, .string a1] w fun e w' => e = .returned (.bool true) ∧ Below w.heap.size w w' := by
  obtain ⟨k, h⟩ := P a0 a1 w0 w1
  refine (wharfagelaw2_IpClasses.calls k a0 a1 true w h).mono ?_
  rintro e w' ⟨rfl, hd⟩
  exact ⟨rfl, hd⟩

end Go.Proofs.Ytnhbieicjlnakaa.PA
