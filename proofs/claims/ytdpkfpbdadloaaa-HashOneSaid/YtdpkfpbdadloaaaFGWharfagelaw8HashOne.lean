-- printed by a program of this session (myprint.py) out of the translation
import Derived.Test.YtdpkfpbdadloaaaFG0
import Derived.Test.YtdpkfpbdadloaaaFGWharfagelaw0Num
import Derived.Test.YtdpkfpbdadloaaaFGHashMixB
import Derived.Test.YtdpkfpbdadloaaaFGWharfagelaw8Awake
namespace Go.Proofs.Ytdpkfpbdadloaaa.PG
open Go.RowKit Go.Proofs.YtdpkfpbdadloaaaW.PrintWords Go.Proofs.YtdpkfpbdadloaaaW.PrintLast Go.Proofs.YtdpkfpbdadloaaaW.PrintMore
attribute [local go_sem] max2_int min2_int max_two min_two max_three min_three max_four min_four   -- for this text's walks alone
set_option linter.unusedVariables false
set_option linter.unusedSimpArgs false

/-! ### wharfagelaw8_HashOne: function 13 -/
def wharfagelaw8_HashOne.f (k : Nat) (a0 : Int) (a1 : Int) (a2 : Int) : Option (Bool) := (wharfagelaw8_awake.f k).bind fun t130 => (if t130 = true then ((hash_Mix.f ((IntKind.u64.wrap (a0)) % 4294967296) ((IntKind.u64.wrap (a1)) % 4294967296)).bind fun bt131 => ((hash_Mix.f ((IntKind.u64.wrap (a0)) % 4294967296) ((IntKind.u64.wrap (a2)) % 4294967296)).bind fun bt133 => ((hash_Mix.f ((IntKind.u64.wrap (a1)) % 4294967296) ((IntKind.u64.wrap (a0)) % 4294967296)).bind fun bt135 => ((hash_Mix.f ((IntKind.u64.wrap (a2)) % 4294967296) ((IntKind.u64.wrap (a0)) % 4294967296)).bind fun bt137 => ((wharfagelaw0_Num.f bt131.2).bind fun t139 => (if t139 = 0 then ((wharfagelaw0_Num.f bt133.2).bind fun t140 => (if t140 = 0 then ((wharfagelaw0_Num.f bt135.2).bind fun t141 => (if t141 = 0 then ((wharfagelaw0_Num.f bt137.2).bind fun t142 => (if t142 = 0 then (if ((bt131.1 == bt133.1) == (((IntKind.u64.wrap (a1)) % 4294967296) == ((IntKind.u64.wrap (a2)) % 4294967296))) = true then (some ((bt135.1 == bt137.1) == (((IntKind.u64.wrap (a1)) % 4294967296) == ((IntKind.u64.wrap (a2)) % 4294967296)))) else (none)) else (none))) else (none))) else (none))) else (none))))))) else (none))
theorem wharfagelaw8_HashOne.mono : ∀ a0 a1 a2 k, LeO (wharfagelaw8_HashOne.f k a0 a1 a2) (wharfagelaw8_HashOne.f (k + 1) a0 a1 a2) := by
  intro a0 a1 a2 k
  unfold wharfagelaw8_HashOne.f
  repeat' first
      | (with_reducible exact wharfagelaw8_awake.mono _)
      | (with_reducible exact LeO.refl _)
      | (with_reducible exact LeO.none _)
      | (with_reducible refine LeO.ite ?_ ?_)
      | (with_reducible refine LeO.bind ?_ (fun _ => ?_))
      | exact wharfagelaw8_awake.mono _
      | exact LeO.none _
      | refine LeO.ite ?_ ?_
      | refine LeO.bind ?_ (fun _ => ?_)
set_option maxHeartbeats 8000000 in
set_option maxRecDepth 100000 in
theorem wharfagelaw8_HashOne.calls (k : Nat) (a0 : Int) (a1 : Int) (a2 : Int) (r : Bool) (w : World) (h : wharfagelaw8_HashOne.f k a0 a1 a2 = some r) :
    Calls Try.prog 13 #[.int .i64 a0, .int .i64 a1, .int .i64 a2] w fun e w' => e = .returned (.bool r) ∧ Below w.heap.size w w' := by
  have HB := Aside0.mk (Below.refl w.heap.size w)
  have H : ((wharfagelaw8_awake.f k).bind fun t130 => (if t130 = true then ((hash_Mix.f ((IntKind.u64.wrap (a0)) % 4294967296) ((IntKind.u64.wrap (a1)) % 4294967296)).bind fun bt131 => ((hash_Mix.f ((IntKind.u64.wrap (a0)) % 4294967296) ((IntKind.u64.wrap (a2)) % 4294967296)).bind fun bt133 => ((hash_Mix.f ((IntKind.u64.wrap (a1)) % 4294967296) ((IntKind.u64.wrap (a0)) % 4294967296)).bind fun bt135 => ((hash_Mix.f ((IntKind.u64.wrap (a2)) % 4294967296) ((IntKind.u64.wrap (a0)) % 4294967296)).bind fun bt137 => ((wharfagelaw0_Num.f bt131.2).bind fun t139 => (if t139 = 0 then ((wharfagelaw0_Num.f bt133.2).bind fun t140 => (if t140 = 0 then ((wharfagelaw0_Num.f bt135.2).bind fun t141 => (if t141 = 0 then ((wharfagelaw0_Num.f bt137.2).bind fun t142 => (if t142 = 0 then (if ((bt131.1 == bt133.1) == (((IntKind.u64.wrap (a1)) % 4294967296) == ((IntKind.u64.wrap (a2)) % 4294967296))) = true then (some ((bt135.1 == bt137.1) == (((IntKind.u64.wrap (a1)) % 4294967296) == ((IntKind.u64.wrap (a2)) % 4294967296)))) else (none)) else (none))) else (none))) else (none))) else (none))))))) else (none))) = some r := h
  clear h
  replace H := Option.bind_eq_some_iff.mp H
  obtain ⟨t130, A40, H⟩ := H
  replace H : (if t130 = true then ((hash_Mix.f ((IntKind.u64.wrap (a0)) % 4294967296) ((IntKind.u64.wrap (a1)) % 4294967296)).bind fun bt131 => ((hash_Mix.f ((IntKind.u64.wrap (a0)) % 4294967296) ((IntKind.u64.wrap (a2)) % 4294967296)).bind fun bt133 => ((hash_Mix.f ((IntKind.u64.wrap (a1)) % 4294967296) ((IntKind.u64.wrap (a0)) % 4294967296)).bind fun bt135 => ((hash_Mix.f ((IntKind.u64.wrap (a2)) % 4294967296) ((IntKind.u64.wrap (a0)) % 4294967296)).bind fun bt137 => ((wharfagelaw0_Num.f bt131.2).bind fun t139 => (if t139 = 0 then ((wharfagelaw0_Num.f bt133.2).bind fun t140 => (if t140 = 0 then ((wharfagelaw0_Num.f bt135.2).bind fun t141 => (if t141 = 0 then ((wharfagelaw0_Num.f bt137.2).bind fun t142 => (if t142 = 0 then (if ((bt131.1 == bt133.1) == (((IntKind.u64.wrap (a1)) % 4294967296) == ((IntKind.u64.wrap (a2)) % 4294967296))) = true then (some ((bt135.1 == bt137.1) == (((IntKind.u64.wrap (a1)) % 4294967296) == ((IntKind.u64.wrap (a2)) % 4294967296)))) else (none)) else (none))) else (none))) else (none))) else (none))))))) else (none)) = some r := H
  have A4 := Aside0.mk A40
  clear A40
  by_cases c5 : t130 = true
  · subst c5
    have H1 : ((hash_Mix.f ((IntKind.u64.wrap (a0)) % 4294967296) ((IntKind.u64.wrap (a1)) % 4294967296)).bind fun bt131 => ((hash_Mix.f ((IntKind.u64.wrap (a0)) % 4294967296) ((IntKind.u64.wrap (a2)) % 4294967296)).bind fun bt133 => ((hash_Mix.f ((IntKind.u64.wrap (a1)) % 4294967296) ((IntKind.u64.wrap (a0)) % 4294967296)).bind fun bt135 => ((hash_Mix.f ((IntKind.u64.wrap (a2)) % 4294967296) ((IntKind.u64.wrap (a0)) % 4294967296)).bind fun bt137 => ((wharfagelaw0_Num.f bt131.2).bind fun t139 => (if t139 = 0 then ((wharfagelaw0_Num.f bt133.2).bind fun t140 => (if t140 = 0 then ((wharfagelaw0_Num.f bt135.2).bind fun t141 => (if t141 = 0 then ((wharfagelaw0_Num.f bt137.2).bind fun t142 => (if t142 = 0 then (if ((bt131.1 == bt133.1) == (((IntKind.u64.wrap (a1)) % 4294967296) == ((IntKind.u64.wrap (a2)) % 4294967296))) = true then (some ((bt135.1 == bt137.1) == (((IntKind.u64.wrap (a1)) % 4294967296) == ((IntKind.u64.wrap (a2)) % 4294967296)))) else (none)) else (none))) else (none))) else (none))) else (none))))))) = some r := by rw [if_pos rfl] at H; exact H
    clear H
    have H := H1
    clear H1
    replace H := Option.bind_eq_some_iff.mp H
    obtain ⟨⟨t131, t132⟩, A60, H⟩ := H
    replace H : ((hash_Mix.f ((IntKind.u64.wrap (a0)) % 4294967296) ((IntKind.u64.wrap (a2)) % 4294967296)).bind fun bt133 => ((hash_Mix.f ((IntKind.u64.wrap (a1)) % 4294967296) ((IntKind.u64.wrap (a0)) % 4294967296)).bind fun bt135 => ((hash_Mix.f ((IntKind.u64.wrap (a2)) % 4294967296) ((IntKind.u64.wrap (a0)) % 4294967296)).bind fun bt137 => ((wharfagelaw0_Num.f t132).bind fun t139 => (if t139 = 0 then ((wharfagelaw0_Num.f bt133.2).bind fun t140 => (if t140 = 0 then ((wharfagelaw0_Num.f bt135.2).bind fun t141 => (if t141 = 0 then ((wharfagelaw0_Num.f bt137.2).bind fun t142 => (if t142 = 0 then (if ((t131 == bt133.1) == (((IntKind.u64.wrap (a1)) % 4294967296) == ((IntKind.u64.wrap (a2)) % 4294967296))) = true then (some ((bt135.1 == bt137.1) == (((IntKind.u64.wrap (a1)) % 4294967296) == ((IntKind.u64.wrap (a2)) % 4294967296)))) else (none)) else (none))) else (none))) else (none))) else (none)))))) = some r := H
    have A6 := Aside0.mk A60
    clear A60
    replace H := Option.bind_eq_some_iff.mp H
    obtain ⟨⟨t133, t134⟩, A70, H⟩ := H
    replace H : ((hash_Mix.f ((IntKind.u64.wrap (a1)) % 4294967296) ((IntKind.u64.wrap (a0)) % 4294967296)).bind fun bt135 => ((hash_Mix.f ((IntKind.u64.wrap (a2)) % 4294967296) ((IntKind.u64.wrap (a0)) % 4294967296)).bind fun bt137 => ((wharfagelaw0_Num.f t132).bind fun t139 => (if t139 = 0 then ((wharfagelaw0_Num.f t134).bind fun t140 => (if t140 = 0 then ((wharfagelaw0_Num.f bt135.2).bind fun t141 => (if t141 = 0 then ((wharfagelaw0_Num.f bt137.2).bind fun t142 => (if t142 = 0 then (if ((t131 == t133) == (((IntKind.u64.wrap (a1)) % 4294967296) == ((IntKind.u64.wrap (a2)) % 4294967296))) = true then (some ((bt135.1 == bt137.1) == (((IntKind.u64.wrap (a1)) % 4294967296) == ((IntKind.u64.wrap (a2)) % 4294967296)))) else (none)) else (none))) else (none))) else (none))) else (none))))) = some r := H
    have A7 := Aside0.mk A70
    clear A70
    replace H := Option.bind_eq_some_iff.mp H
    obtain ⟨⟨t135, t136⟩, A80, H⟩ := H
    replace H : ((hash_Mix.f ((IntKind.u64.wrap (a2)) % 4294967296) ((IntKind.u64.wrap (a0)) % 4294967296)).bind fun bt137 => ((wharfagelaw0_Num.f t132).bind fun t139 => (if t139 = 0 then ((wharfagelaw0_Num.f t134).bind fun t140 => (if t140 = 0 then ((wharfagelaw0_Num.f t136).bind fun t141 => (if t141 = 0 then ((wharfagelaw0_Num.f bt137.2).bind fun t142 => (if t142 = 0 then (if ((t131 == t133) == (((IntKind.u64.wrap (a1)) % 4294967296) == ((IntKind.u64.wrap (a2)) % 4294967296))) = true then (some ((t135 == bt137.1) == (((IntKind.u64.wrap (a1)) % 4294967296) == ((IntKind.u64.wrap (a2)) % 4294967296)))) else (none)) else (none))) else (none))) else (none))) else (none)))) = some r := H
    have A8 := Aside0.mk A80
    clear A80
    replace H := Option.bind_eq_some_iff.mp H
    obtain ⟨⟨t137, t138⟩, A90, H⟩ := H
    replace H : ((wharfagelaw0_Num.f t132).bind fun t139 => (if t139 = 0 then ((wharfagelaw0_Num.f t134).bind fun t140 => (if t140 = 0 then ((wharfagelaw0_Num.f t136).bind fun t141 => (if t141 = 0 then ((wharfagelaw0_Num.f t138).bind fun t142 => (if t142 = 0 then (if ((t131 == t133) == (((IntKind.u64.wrap (a1)) % 4294967296) == ((IntKind.u64.wrap (a2)) % 4294967296))) = true then (some ((t135 == t137) == (((IntKind.u64.wrap (a1)) % 4294967296) == ((IntKind.u64.wrap (a2)) % 4294967296)))) else (none)) else (none))) else (none))) else (none))) else (none))) = some r := H
    have A9 := Aside0.mk A90
    clear A90
    replace H := Option.bind_eq_some_iff.mp H
    obtain ⟨t139, A100, H⟩ := H
    replace H : (if t139 = 0 then ((wharfagelaw0_Num.f t134).bind fun t140 => (if t140 = 0 then ((wharfagelaw0_Num.f t136).bind fun t141 => (if t141 = 0 then ((wharfagelaw0_Num.f t138).bind fun t142 => (if t142 = 0 then (if ((t131 == t133) == (((IntKind.u64.wrap (a1)) % 4294967296) == ((IntKind.u64.wrap (a2)) % 4294967296))) = true then (some ((t135 == t137) == (((IntKind.u64.wrap (a1)) % 4294967296) == ((IntKind.u64.wrap (a2)) % 4294967296)))) else (none)) else (none))) else (none))) else (none))) else (none)) = some r := H
    have A10 := Aside0.mk A100
    clear A100
    by_cases c11 : t139 = 0
    · rw [if_pos c11] at H
      have c11b0 : (t139 == 0) = true := beq_iff_eq.mpr c11
      have c11b1 : (t139 != 0) = false := bne_eq_false_iff_eq.mpr c11
      clear c11
      replace H := Option.bind_eq_some_iff.mp H
      obtain ⟨t140, A120, H⟩ := H
      replace H : (if t140 = 0 then ((wharfagelaw0_Num.f t136).bind fun t141 => (if t141 = 0 then ((wharfagelaw0_Num.f t138).bind fun t142 => (if t142 = 0 then (if ((t131 == t133) == (((IntKind.u64.wrap (a1)) % 4294967296) == ((IntKind.u64.wrap (a2)) % 4294967296))) = true then (some ((t135 == t137) == (((IntKind.u64.wrap (a1)) % 4294967296) == ((IntKind.u64.wrap (a2)) % 4294967296)))) else (none)) else (none))) else (none))) else (none)) = some r := H
      have A12 := Aside0.mk A120
      clear A120
      by_cases c13 : t140 = 0
      · rw [if_pos c13] at H
        have c13b0 : (t140 == 0) = true := beq_iff_eq.mpr c13
        have c13b1 : (t140 != 0) = false := bne_eq_false_iff_eq.mpr c13
        clear c13
        replace H := Option.bind_eq_some_iff.mp H
        obtain ⟨t141, A140, H⟩ := H
        replace H : (if t141 = 0 then ((wharfagelaw0_Num.f t138).bind fun t142 => (if t142 = 0 then (if ((t131 == t133) == (((IntKind.u64.wrap (a1)) % 4294967296) == ((IntKind.u64.wrap (a2)) % 4294967296))) = true then (some ((t135 == t137) == (((IntKind.u64.wrap (a1)) % 4294967296) == ((IntKind.u64.wrap (a2)) % 4294967296)))) else (none)) else (none))) else (none)) = some r := H
        have A14 := Aside0.mk A140
        clear A140
        by_cases c15 : t141 = 0
        · rw [if_pos c15] at H
          have c15b0 : (t141 == 0) = true := beq_iff_eq.mpr c15
          have c15b1 : (t141 != 0) = false := bne_eq_false_iff_eq.mpr c15
          clear c15
          replace H := Option.bind_eq_some_iff.mp H
          obtain ⟨t142, A160, H⟩ := H
          replace H : (if t142 = 0 then (if ((t131 == t133) == (((IntKind.u64.wrap (a1)) % 4294967296) == ((IntKind.u64.wrap (a2)) % 4294967296))) = true then (some ((t135 == t137) == (((IntKind.u64.wrap (a1)) % 4294967296) == ((IntKind.u64.wrap (a2)) % 4294967296)))) else (none)) else (none)) = some r := H
          have A16 := Aside0.mk A160
          clear A160
          by_cases c17 : t142 = 0
          · rw [if_pos c17] at H
            have c17b0 : (t142 == 0) = true := beq_iff_eq.mpr c17
            have c17b1 : (t142 != 0) = false := bne_eq_false_iff_eq.mpr c17
            clear c17
            by_cases c18 : ((t131 == t133) == (((IntKind.u64.wrap (a1)) % 4294967296) == ((IntKind.u64.wrap (a2)) % 4294967296))) = true
            · rw [if_pos c18] at H
              have c18b0 : ((t131 == t133) == (((IntKind.u64.wrap (a1)) % 4294967296) == ((IntKind.u64.wrap (a2)) % 4294967296))) = true := c18
              (try (have c18b1 : decide ((t131 == t133) = (((IntKind.u64.wrap (a1)) % 4294967296) == ((IntKind.u64.wrap (a2)) % 4294967296))) = true := by simpa using c18))
              (try (have c18b2 : ((t131 == t133) == (((IntKind.u64.wrap (a1)) % 4294967296) == ((IntKind.u64.wrap (a2)) % 4294967296))) = true := by simpa using c18))
              clear c18
              obtain rfl := Option.some.inj H
              go_enter Try.func13, Try.ntmps13
              go_wp2_with (first | ((with_reducible refine gate_callee (f := 42) rfl ?_); refine goesL_ (some 18) rfl rfl Try.func42 (by kernel_rfl) rfl #[] rfl (by (try simp only [List.map_toArray, List.map_cons, List.map_nil]); first | done | rfl | (simp only [List.length_drop, List.length_take]; rfl)) ?_; (with_reducible refine (wharfagelaw8_awake.calls k  true _ A4.out).mono ?_); rintro e w19 ⟨rfl, hb⟩; refine ⟨_, rfl, ?_⟩; have n0_ := Aside0.mk (below_step (by repeat (first | (with_reducible first | exact HB.out | apply below_alloc | apply pw_below_drewN | apply below_drew1) | exact HB.out)) hb); clear HB; have HB := n0_; clear n0_; (try clear hb); (try clear hb2); (try clear hk); (try clear hi)) | ((with_reducible refine gate_callee (f := 38) rfl ?_); refine goesL_ (some 35) rfl rfl Try.func38 (by kernel_rfl) rfl #[.int .i64 ((IntKind.u64.wrap (a0)) % 4294967296), .int .i64 ((IntKind.u64.wrap (a1)) % 4294967296)] rfl (by (try simp only [List.map_toArray, List.map_cons, List.map_nil]); first | done | rfl | (simp only [List.length_drop, List.length_take]; rfl)) ?_; (with_reducible refine (hash_Mix.calls ((IntKind.u64.wrap (a0)) % 4294967296) ((IntKind.u64.wrap (a1)) % 4294967296) t131 t132 _ A6.out).mono ?_); rintro e w' ⟨rfl, ⟨nd, rfl⟩⟩; refine ⟨_, rfl, ?_⟩) | ((with_reducible refine gate_callee (f := 38) rfl ?_); refine goesL_ (some 41) rfl rfl Try.func38 (by kernel_rfl) rfl #[.int .i64 ((IntKind.u64.wrap (a0)) % 4294967296), .int .i64 ((IntKind.u64.wrap (a2)) % 4294967296)] rfl (by (try simp only [List.map_toArray, List.map_cons, List.map_nil]); first | done | rfl | (simp only [List.length_drop, List.length_take]; rfl)) ?_; (with_reducible refine (hash_Mix.calls ((IntKind.u64.wrap (a0)) % 4294967296) ((IntKind.u64.wrap (a2)) % 4294967296) t133 t134 _ A7.out).mono ?_); rintro e w' ⟨rfl, ⟨nd, rfl⟩⟩; refine ⟨_, rfl, ?_⟩) | ((with_reducible refine gate_callee (f := 38) rfl ?_); refine goesL_ (some 47) rfl rfl Try.func38 (by kernel_rfl) rfl #[.int .i64 ((IntKind.u64.wrap (a1)) % 4294967296), .int .i64 ((IntKind.u64.wrap (a0)) % 4294967296)] rfl (by (try simp only [List.map_toArray, List.map_cons, List.map_nil]); first | done | rfl | (simp only [List.length_drop, List.length_take]; rfl)) ?_; (with_reducible refine (hash_Mix.calls ((IntKind.u64.wrap (a1)) % 4294967296) ((IntKind.u64.wrap (a0)) % 4294967296) t135 t136 _ A8.out).mono ?_); rintro e w' ⟨rfl, ⟨nd, rfl⟩⟩; refine ⟨_, rfl, ?_⟩) | ((with_reducible refine gate_callee (f := 38) rfl ?_); refine goesL_ (some 53) rfl rfl Try.func38 (by kernel_rfl) rfl #[.int .i64 ((IntKind.u64.wrap (a2)) % 4294967296), .int .i64 ((IntKind.u64.wrap (a0)) % 4294967296)] rfl (by (try simp only [List.map_toArray, List.map_cons, List.map_nil]); first | done | rfl | (simp only [List.length_drop, List.length_take]; rfl)) ?_; (with_reducible refine (hash_Mix.calls ((IntKind.u64.wrap (a2)) % 4294967296) ((IntKind.u64.wrap (a0)) % 4294967296) t137 t138 _ A9.out).mono ?_); rintro e w' ⟨rfl, ⟨nd, rfl⟩⟩; refine ⟨_, rfl, ?_⟩) | ((with_reducible refine gate_callee (f := 28) rfl ?_); refine goesL_ (some 57) rfl rfl Try.func28 (by kernel_rfl) rfl #[.int .i64 t132] rfl (by (try simp only [List.map_toArray, List.map_cons, List.map_nil]); first | done | rfl | (simp only [List.length_drop, List.length_take]; rfl)) ?_; (with_reducible refine (wharfagelaw0_Num.calls t132 t139 _ A10.out).mono ?_); rintro e w' ⟨rfl, ⟨nd, rfl⟩⟩; refine ⟨_, rfl, ?_⟩) | (go_at_call 28; (with_reducible refine (wharfagelaw0_Num.calls t134 t140 _ A12.out).mono ?_); rintro e w' ⟨rfl, ⟨nd, rfl⟩⟩) | (go_at_call 28; (with_reducible refine (wharfagelaw0_Num.calls t136 t141 _ A14.out).mono ?_); rintro e w' ⟨rfl, ⟨nd, rfl⟩⟩) | (go_at_call 28; (with_reducible refine (wharfagelaw0_Num.calls t138 t142 _ A16.out).mono ?_); rintro e w' ⟨rfl, ⟨nd, rfl⟩⟩))
              go_ret
              exact ⟨by first | rfl | (simp [errW_none, errW_some] <;> rfl) | (simp [*, errW_none, errW_some] <;> rfl), by repeat (first | (with_reducible first | exact HB.out | apply below_alloc | apply pw_below_drewN | apply below_drew1) | exact HB.out)⟩
            · rw [if_neg c18] at H
              exact absurd H (by simp)
          · rw [if_neg c17] at H
            exact absurd H (by simp)
        · rw [if_neg c15] at H
          exact absurd H (by simp)
      · rw [if_neg c13] at H
        exact absurd H (by simp)
    · rw [if_neg c11] at H
      exact absurd H (by simp)
  · replace c5 := Bool.eq_false_iff.mpr c5
    subst c5
    have H1 : (none) = some r := by rw [if_neg (show ¬ (false = true) by decide)] at H; exact H
    clear H
    have H := H1
    clear H1
    exact absurd H (by simp)

/-- THE ONE PURE STATEMENT of wharfagelaw8_HashOne: yours. -/
def wharfagelaw8_HashOne.Pure : Prop := ∀ (a0 : Int) (a1 : Int) (a2 : Int), (Lit.int .i64 a0).wf = true → (Lit.int .i64 a1).wf = true → (Lit.int .i64 a2).wf = true → ∃ k, wharfagelaw8_HashOne.f k a0 a1 a2 = some true
theorem wharfagelaw8_HashOne.walk (P : wharfagelaw8_HashOne.Pure) (a0 : Int) (a1 : Int) (a2 : Int) (w : World) (w0 : (Lit.int .i64 a0).wf = true) (w1 : (Lit.int .i64 a1).wf = true) (w2 : (Lit.int .i64 a2).wf = true) :
    Calls Try.prog 13 #[.int .i64 a0, .int .i64 a1, .int .i64 a2] w fun e w' => e = .returned (.bool true) ∧ Below w.heap.size w w' := by
  obtain ⟨k, h⟩ := P a0 a1 a2 w0 w1 w2
  refine (wharfagelaw8_HashOne.calls k a0 a1 a2 true w h).mono ?_
  rintro e w' ⟨rfl, hd⟩
  exact ⟨rfl, hd⟩

end Go.Proofs.Ytdpkfpbdadloaaa.PG
