-- printed by a program of this session (myprint.py) out of the translation
import Derived.Test.YtnhbieicjlnakaaFA0
import Derived.Test.YtnhbieicjlnakaaFAEq1
import Derived.Test.YtnhbieicjlnakaaFAIpMay
import Derived.Test.YtnhbieicjlnakaaFAIpPut
import Derived.Test.YtnhbieicjlnakaaFAWharfagelaw0Num
import Derived.Test.YtnhbieicjlnakaaFAWharfagelaw2Whole
import Derived.Test.YtnhbieicjlnakaaFAIpGet
namespace Go.Proofs.Ytnhbieicjlnakaa.PA
open Go.RowKit Go.Proofs.YtnhbieicjlnakaaW.PrintWords Go.Proofs.YtnhbieicjlnakaaW.PrintLast Go.Proofs.YtnhbieicjlnakaaW.PrintMore
attribute [local go_sem] max2_int min2_int max_two min_two max_three min_three max_four min_four   -- for this text's walks alone
set_option linter.unusedVariables false
set_option linter.unusedSimpArgs false

attribute [local go_sem high] eqA23
/-! ### wharfagelaw2_awake: function 25 -/
def wharfagelaw2_awake.f (k : Nat)  : Option (Bool) := (ip_Put.f k 1 258 17 64 7 (⟨#[104, 105]⟩ : ByteArray)).bind fun bt180 => ((ip_Get.f k bt180.1).bind fun bt182 => (if bt180.1.size + 1 ≤ 9223372036854775807 then ((ip_Get.f k (bt180.1 ++ (⟨#[120]⟩ : ByteArray))).bind fun bt191 => ((ip_Put.f k (-1) 0 0 0 0 (⟨#[]⟩ : ByteArray)).bind fun bt200 => (if (bt180.1.size : Int) = 22 then (if 0 ≤ 6 then (if 6 ≤ (bt180.1.size : Int) then (if (bt180.1.extract 0 6).size + 2 ≤ 9223372036854775807 then (if 8 ≤ (bt180.1.size : Int) then (if ((bt180.1.extract 0 6) ++ (⟨#[32, 1]⟩ : ByteArray)).size + (bt180.1.extract 8 bt180.1.size).size ≤ 9223372036854775807 then ((wharfagelaw2_whole.f k (((bt180.1.extract 0 6) ++ (⟨#[32, 1]⟩ : ByteArray)) ++ (bt180.1.extract 8 bt180.1.size))).bind fun t202 => ((ip_Get.f k t202).bind fun bt203 => (if 0 ≤ 10 then (if 10 ≤ (bt180.1.size : Int) then (if (bt180.1.extract 0 10).toList = ([69, 0, 0, 22, 0, 7, 64, 0, 64, 17] : List UInt8) then ((wharfagelaw0_Num.f bt180.2).bind fun t212 => (if t212 = 0 then (if (bt182.1 == 1 && (bt182.2.1 == 258 && (bt182.2.2.1 == 17 && (bt182.2.2.2.1 == 64 && (bt182.2.2.2.2.1 == 7 && (bt182.2.2.2.2.2.1.toList == ([104, 105] : List UInt8))))))) = true then (if bt182.2.2.2.2.2.2.1 = 0 then ((wharfagelaw0_Num.f bt182.2.2.2.2.2.2.2).bind fun t213 => (if t213 = 0 then (if bt191.2.2.2.2.2.2.1 = 1 then ((wharfagelaw0_Num.f bt191.2.2.2.2.2.2.2).bind fun t214 => (if t214 = 200 then ((wharfagelaw0_Num.f bt200.2).bind fun t215 => (if t215 = 200 then (if (bt203.1 == 0 && (bt203.2.1 == 0 && (bt203.2.2.1 == 0 && (bt203.2.2.2.1 == 0 && (bt203.2.2.2.2.1 == 0 && (bt203.2.2.2.2.2.1.toList == ([] : List UInt8))))))) = true then (if bt203.2.2.2.2.2.2.1 = 2 then ((wharfagelaw0_Num.f bt203.2.2.2.2.2.2.2).bind fun t216 => (if t216 = 0 then ((ip_May.f 1 258 17 64 7 (⟨#[104, 105]⟩ : ByteArray)).bind fun t217 => (some t217)) else (none))) else (none)) else (none)) else (none))) else (none))) else (none)) else (none))) else (none)) else (none)) else (none))) else (none)) else (none)) else (none)))) else (none)) else (none)) else (none)) else (none)) else (none)) else (none)))) else (none)))
theorem wharfagelaw2_awake.mono : ∀ k, LeO (wharfagelaw2_awake.f k ) (wharfagelaw2_awake.f (k + 1) ) := by
  intro  k
  unfold wharfagelaw2_awake.f
  repeat' first
      | (with_reducible exact ip_Get.mono _ _)
      | (with_reducible exact ip_Put.mono _ _ _ _ _ _ _)
      | (with_reducible exact wharfagelaw2_whole.mono _ _)
      | (with_reducible exact LeO.refl _)
      | (with_reducible exact LeO.none _)
      | (with_reducible refine LeO.ite ?_ ?_)
      | (with_reducible refine LeO.bind ?_ (fun _ => ?_))
      | exact ip_Get.mono _ _
      | exact ip_Put.mono _ _ _ _ _ _ _
      | exact wharfagelaw2_whole.mono _ _
      | exact LeO.none _
      | refine LeO.ite ?_ ?_
      | refine LeO.bind ?_ (fun _ => ?_)
def wharfagelaw2_awake.T8 : Bool × List (List Nat × List Nat) := (true, [([], []), ([0], [0]), ([1], [1]), ([], []), ([3], [3]), ([2, 4], [2, 4]), ([5], [5]), ([6, 6], [6]), ([7], [7]), ([8], [8]), ([8], [8]), ([8], [8]), ([], []), ([12, 9, 7, 0, 1, 2, 3, 4, 5, 6, 7, 8, 9, 12], [9, 12]), ([10, 13, 0, 1, 2, 3, 4, 5, 6, 7, 8, 9, 10, 12, 13], [10]), ([11, 14, 0, 1, 2, 3, 4, 5, 6, 7, 8, 9, 10, 11, 12, 13, 14], [11])])
def wharfagelaw2_awake.B8 : List Nat := [0, 1, 3, 0, 8, 31, 63, 127, 255, 511, 511, 511, 0, 5119, 14335, 32767]
theorem wharfagelaw2_awake.tab8 : rtab .any (opsOf Try.f25 8) = wharfagelaw2_awake.T8 := by kernel_rfl
theorem wharfagelaw2_awake.bits8 : waitsOk wharfagelaw2_awake.T8.2 wharfagelaw2_awake.B8 = true := by kernel_rfl
set_option maxHeartbeats 8000000 in
set_option maxRecDepth 100000 in
theorem wharfagelaw2_awake.calls (k : Nat)  (r : Bool) (w : World) (h : wharfagelaw2_awake.f k  = some r) :
    Calls Try.prog 25 #[] w fun e w' => e = .returned (.bool r) ∧ Below w.heap.size w w' := by
  have hu23 := Try.underlying23
  have HB := Aside0.mk (Below.refl w.heap.size w)
  have H : ((ip_Put.f k 1 258 17 64 7 (⟨#[104, 105]⟩ : ByteArray)).bind fun bt180 => ((ip_Get.f k bt180.1).bind fun bt182 => (if bt180.1.size + 1 ≤ 9223372036854775807 then ((ip_Get.f k (bt180.1 ++ (⟨#[120]⟩ : ByteArray))).bind fun bt191 => ((ip_Put.f k (-1) 0 0 0 0 (⟨#[]⟩ : ByteArray)).bind fun bt200 => (if (bt180.1.size : Int) = 22 then (if 0 ≤ 6 then (if 6 ≤ (bt180.1.size : Int) then (if (bt180.1.extract 0 6).size + 2 ≤ 9223372036854775807 then (if 8 ≤ (bt180.1.size : Int) then (if ((bt180.1.extract 0 6) ++ (⟨#[32, 1]⟩ : ByteArray)).size + (bt180.1.extract 8 bt180.1.size).size ≤ 9223372036854775807 then ((wharfagelaw2_whole.f k (((bt180.1.extract 0 6) ++ (⟨#[32, 1]⟩ : ByteArray)) ++ (bt180.1.extract 8 bt180.1.size))).bind fun t202 => ((ip_Get.f k t202).bind fun bt203 => (if 0 ≤ 10 then (if 10 ≤ (bt180.1.size : Int) then (if (bt180.1.extract 0 10).toList = ([69, 0, 0, 22, 0, 7, 64, 0, 64, 17] : List UInt8) then ((wharfagelaw0_Num.f bt180.2).bind fun t212 => (if t212 = 0 then (if (bt182.1 == 1 && (bt182.2.1 == 258 && (bt182.2.2.1 == 17 && (bt182.2.2.2.1 == 64 && (bt182.2.2.2.2.1 == 7 && (bt182.2.2.2.2.2.1.toList == ([104, 105] : List UInt8))))))) = true then (if bt182.2.2.2.2.2.2.1 = 0 then ((wharfagelaw0_Num.f bt182.2.2.2.2.2.2.2).bind fun t213 => (if t213 = 0 then (if bt191.2.2.2.2.2.2.1 = 1 then ((wharfagelaw0_Num.f bt191.2.2.2.2.2.2.2).bind fun t214 => (if t214 = 200 then ((wharfagelaw0_Num.f bt200.2).bind fun t215 => (if t215 = 200 then (if (bt203.1 == 0 && (bt203.2.1 == 0 && (bt203.2.2.1 == 0 && (bt203.2.2.2.1 == 0 && (bt203.2.2.2.2.1 == 0 && (bt203.2.2.2.2.2.1.toList == ([] : List UInt8))))))) = true then (if bt203.2.2.2.2.2.2.1 = 2 then ((wharfagelaw0_Num.f bt203.2.2.2.2.2.2.2).bind fun t216 => (if t216 = 0 then ((ip_May.f 1 258 17 64 7 (⟨#[104, 105]⟩ : ByteArray)).bind fun t217 => (some t217)) else (none))) else (none)) else (none)) else (none))) else (none))) else (none)) else (none))) else (none)) else (none)) else (none))) else (none)) else (none)) else (none)))) else (none)) else (none)) else (none)) else (none)) else (none)) else (none)))) else (none)))) = some r := h
  clear h
  replace H := Option.bind_eq_some_iff.mp H
  obtain ⟨⟨t180, t181⟩, A10, H⟩ := H
  replace H : ((ip_Get.f k t180).bind fun bt182 => (if t180.size + 1 ≤ 9223372036854775807 then ((ip_Get.f k (t180 ++ (⟨#[120]⟩ : ByteArray))).bind fun bt191 => ((ip_Put.f k (-1) 0 0 0 0 (⟨#[]⟩ : ByteArray)).bind fun bt200 => (if (t180.size : Int) = 22 then (if 0 ≤ 6 then (if 6 ≤ (t180.size : Int) then (if (t180.extract 0 6).size + 2 ≤ 9223372036854775807 then (if 8 ≤ (t180.size : Int) then (if ((t180.extract 0 6) ++ (⟨#[32, 1]⟩ : ByteArray)).size + (t180.extract 8 t180.size).size ≤ 9223372036854775807 then ((wharfagelaw2_whole.f k (((t180.extract 0 6) ++ (⟨#[32, 1]⟩ : ByteArray)) ++ (t180.extract 8 t180.size))).bind fun t202 => ((ip_Get.f k t202).bind fun bt203 => (if 0 ≤ 10 then (if 10 ≤ (t180.size : Int) then (if (t180.extract 0 10).toList = ([69, 0, 0, 22, 0, 7, 64, 0, 64, 17] : List UInt8) then ((wharfagelaw0_Num.f t181).bind fun t212 => (if t212 = 0 then (if (bt182.1 == 1 && (bt182.2.1 == 258 && (bt182.2.2.1 == 17 && (bt182.2.2.2.1 == 64 && (bt182.2.2.2.2.1 == 7 && (bt182.2.2.2.2.2.1.toList == ([104, 105] : List UInt8))))))) = true then (if bt182.2.2.2.2.2.2.1 = 0 then ((wharfagelaw0_Num.f bt182.2.2.2.2.2.2.2).bind fun t213 => (if t213 = 0 then (if bt191.2.2.2.2.2.2.1 = 1 then ((wharfagelaw0_Num.f bt191.2.2.2.2.2.2.2).bind fun t214 => (if t214 = 200 then ((wharfagelaw0_Num.f bt200.2).bind fun t215 => (if t215 = 200 then (if (bt203.1 == 0 && (bt203.2.1 == 0 && (bt203.2.2.1 == 0 && (bt203.2.2.2.1 == 0 && (bt203.2.2.2.2.1 == 0 && (bt203.2.2.2.2.2.1.toList == ([] : List UInt8))))))) = true then (if bt203.2.2.2.2.2.2.1 = 2 then ((wharfagelaw0_Num.f bt203.2.2.2.2.2.2.2).bind fun t216 => (if t216 = 0 then ((ip_May.f 1 258 17 64 7 (⟨#[104, 105]⟩ : ByteArray)).bind fun t217 => (some t217)) else (none))) else (none)) else (none)) else (none))) else (none))) else (none)) else (none))) else (none)) else (none)) else (none))) else (none)) else (none)) else (none)))) else (none)) else (none)) else (none)) else (none)) else (none)) else (none)))) else (none))) = some r := H
  have A1 := Aside0.mk A10
  clear A10
  replace H := Option.bind_eq_some_iff.mp H
  obtain ⟨⟨t182, t183, t184, t185, t186, t187, t188, t189⟩, A20, H⟩ := H
  replace H : (if t180.size + 1 ≤ 9223372036854775807 then ((ip_Get.f k (t180 ++ (⟨#[120]⟩ : ByteArray))).bind fun bt191 => ((ip_Put.f k (-1) 0 0 0 0 (⟨#[]⟩ : ByteArray)).bind fun bt200 => (if (t180.size : Int) = 22 then (if 0 ≤ 6 then (if 6 ≤ (t180.size : Int) then (if (t180.extract 0 6).size + 2 ≤ 9223372036854775807 then (if 8 ≤ (t180.size : Int) then (if ((t180.extract 0 6) ++ (⟨#[32, 1]⟩ : ByteArray)).size + (t180.extract 8 t180.size).size ≤ 9223372036854775807 then ((wharfagelaw2_whole.f k (((t180.extract 0 6) ++ (⟨#[32, 1]⟩ : ByteArray)) ++ (t180.extract 8 t180.size))).bind fun t202 => ((ip_Get.f k t202).bind fun bt203 => (if 0 ≤ 10 then (if 10 ≤ (t180.size : Int) then (if (t180.extract 0 10).toList = ([69, 0, 0, 22, 0, 7, 64, 0, 64, 17] : List UInt8) then ((wharfagelaw0_Num.f t181).bind fun t212 => (if t212 = 0 then (if (t182 == 1 && (t183 == 258 && (t184 == 17 && (t185 == 64 && (t186 == 7 && (t187.toList == ([104, 105] : List UInt8))))))) = true then (if t188 = 0 then ((wharfagelaw0_Num.f t189).bind fun t213 => (if t213 = 0 then (if bt191.2.2.2.2.2.2.1 = 1 then ((wharfagelaw0_Num.f bt191.2.2.2.2.2.2.2).bind fun t214 => (if t214 = 200 then ((wharfagelaw0_Num.f bt200.2).bind fun t215 => (if t215 = 200 then (if (bt203.1 == 0 && (bt203.2.1 == 0 && (bt203.2.2.1 == 0 && (bt203.2.2.2.1 == 0 && (bt203.2.2.2.2.1 == 0 && (bt203.2.2.2.2.2.1.toList == ([] : List UInt8))))))) = true then (if bt203.2.2.2.2.2.2.1 = 2 then ((wharfagelaw0_Num.f bt203.2.2.2.2.2.2.2).bind fun t216 => (if t216 = 0 then ((ip_May.f 1 258 17 64 7 (⟨#[104, 105]⟩ : ByteArray)).bind fun t217 => (some t217)) else (none))) else (none)) else (none)) else (none))) else (none))) else (none)) else (none))) else (none)) else (none)) else (none))) else (none)) else (none)) else (none)))) else (none)) else (none)) else (none)) else (none)) else (none)) else (none)))) else (none)) = some r := H
  have A2 := Aside0.mk A20
  clear A20
  by_cases c3 : t180.size + 1 ≤ 9223372036854775807
  · rw [if_pos c3] at H
    have c3b0 := eq_true c3
    have c3b1 : decide (t180.size + 1 ≤ 9223372036854775807) = true := decide_eq_true c3
    try have c3b2 : (9223372036854775807 < t180.size + 1) = False := eq_false (Nat.not_lt.2 c3)
    replace H := Option.bind_eq_some_iff.mp H
    obtain ⟨⟨t191, t192, t193, t194, t195, t196, t197, t198⟩, A40, H⟩ := H
    replace H : ((ip_Put.f k (-1) 0 0 0 0 (⟨#[]⟩ : ByteArray)).bind fun bt200 => (if (t180.size : Int) = 22 then (if 0 ≤ 6 then (if 6 ≤ (t180.size : Int) then (if (t180.extract 0 6).size + 2 ≤ 9223372036854775807 then (if 8 ≤ (t180.size : Int) then (if ((t180.extract 0 6) ++ (⟨#[32, 1]⟩ : ByteArray)).size + (t180.extract 8 t180.size).size ≤ 9223372036854775807 then ((wharfagelaw2_whole.f k (((t180.extract 0 6) ++ (⟨#[32, 1]⟩ : ByteArray)) ++ (t180.extract 8 t180.size))).bind fun t202 => ((ip_Get.f k t202).bind fun bt203 => (if 0 ≤ 10 then (if 10 ≤ (t180.size : Int) then (if (t180.extract 0 10).toList = ([69, 0, 0, 22, 0, 7, 64, 0, 64, 17] : List UInt8) then ((wharfagelaw0_Num.f t181).bind fun t212 => (if t212 = 0 then (if (t182 == 1 && (t183 == 258 && (t184 == 17 && (t185 == 64 && (t186 == 7 && (t187.toList == ([104, 105] : List UInt8))))))) = true then (if t188 = 0 then ((wharfagelaw0_Num.f t189).bind fun t213 => (if t213 = 0 then (if t197 = 1 then ((wharfagelaw0_Num.f t198).bind fun t214 => (if t214 = 200 then ((wharfagelaw0_Num.f bt200.2).bind fun t215 => (if t215 = 200 then (if (bt203.1 == 0 && (bt203.2.1 == 0 && (bt203.2.2.1 == 0 && (bt203.2.2.2.1 == 0 && (bt203.2.2.2.2.1 == 0 && (bt203.2.2.2.2.2.1.toList == ([] : List UInt8))))))) = true then (if bt203.2.2.2.2.2.2.1 = 2 then ((wharfagelaw0_Num.f bt203.2.2.2.2.2.2.2).bind fun t216 => (if t216 = 0 then ((ip_May.f 1 258 17 64 7 (⟨#[104, 105]⟩ : ByteArray)).bind fun t217 => (some t217)) else (none))) else (none)) else (none)) else (none))) else (none))) else (none)) else (none))) else (none)) else (none)) else (none))) else (none)) else (none)) else (none)))) else (none)) else (none)) else (none)) else (none)) else (none)) else (none))) = some r := H
    have A4 := Aside0.mk A40
    clear A40
    replace H := Option.bind_eq_some_iff.mp H
    obtain ⟨⟨t200, t201⟩, A50, H⟩ := H
    replace H : (if (t180.size : Int) = 22 then (if 0 ≤ 6 then (if 6 ≤ (t180.size : Int) then (if (t180.extract 0 6).size + 2 ≤ 9223372036854775807 then (if 8 ≤ (t180.size : Int) then (if ((t180.extract 0 6) ++ (⟨#[32, 1]⟩ : ByteArray)).size + (t180.extract 8 t180.size).size ≤ 9223372036854775807 then ((wharfagelaw2_whole.f k (((t180.extract 0 6) ++ (⟨#[32, 1]⟩ : ByteArray)) ++ (t180.extract 8 t180.size))).bind fun t202 => ((ip_Get.f k t202).bind fun bt203 => (if 0 ≤ 10 then (if 10 ≤ (t180.size : Int) then (if (t180.extract 0 10).toList = ([69, 0, 0, 22, 0, 7, 64, 0, 64, 17] : List UInt8) then ((wharfagelaw0_Num.f t181).bind fun t212 => (if t212 = 0 then (if (t182 == 1 && (t183 == 258 && (t184 == 17 && (t185 == 64 && (t186 == 7 && (t187.toList == ([104, 105] : List UInt8))))))) = true then (if t188 = 0 then ((wharfagelaw0_Num.f t189).bind fun t213 => (if t213 = 0 then (if t197 = 1 then ((wharfagelaw0_Num.f t198).bind fun t214 => (if t214 = 200 then ((wharfagelaw0_Num.f t201).bind fun t215 => (if t215 = 200 then (if (bt203.1 == 0 && (bt203.2.1 == 0 && (bt203.2.2.1 == 0 && (bt203.2.2.2.1 == 0 && (bt203.2.2.2.2.1 == 0 && (bt203.2.2.2.2.2.1.toList == ([] : List UInt8))))))) = true then (if bt203.2.2.2.2.2.2.1 = 2 then ((wharfagelaw0_Num.f bt203.2.2.2.2.2.2.2).bind fun t216 => (if t216 = 0 then ((ip_May.f 1 258 17 64 7 (⟨#[104, 105]⟩ : ByteArray)).bind fun t217 => (some t217)) else (none))) else (none)) else (none)) else (none))) else (none))) else (none)) else (none))) else (none)) else (none)) else (none))) else (none)) else (none)) else (none)))) else (none)) else (none)) else (none)) else (none)) else (none)) else (none)) = some r := H
    have A5 := Aside0.mk A50
    clear A50
    by_cases c6 : (t180.size : Int) = 22
    · rw [if_pos c6] at H
      have c6b0 : ((t180.size : Int) == 22) = true := beq_iff_eq.mpr c6
      have c6b1 : ((t180.size : Int) != 22) = false := bne_eq_false_iff_eq.mpr c6
      clear c6
      by_cases c7 : 0 ≤ 6
      · rw [if_pos c7] at H
        have c7b0 := eq_true c7
        have c7b1 : decide (0 ≤ 6) = true := decide_eq_true c7
        clear c7
        by_cases c8 : 6 ≤ (t180.size : Int)
        · rw [if_pos c8] at H
          have c8b0 := eq_true c8
          have c8b1 : decide (6 ≤ (t180.size : Int)) = true := decide_eq_true c8
          clear c8
          by_cases c9 : (t180.extract 0 6).size + 2 ≤ 9223372036854775807
          · rw [if_pos c9] at H
            have c9b0 := eq_true c9
            have c9b1 : decide ((t180.extract 0 6).size + 2 ≤ 9223372036854775807) = true := decide_eq_true c9
            try have c9b2 : (9223372036854775807 < (t180.extract 0 6).size + 2) = False := eq_false (Nat.not_lt.2 c9)
            have c9z := eq_false (Nat.not_lt.mpr c9)
            (try simp only [ByteArray.size_append', ByteArray.size_mk', ByteArray.size_extract, List.size_toArray, List.length_cons, List.length_nil, Nat.reduceAdd, Nat.zero_add, Nat.sub_zero, Nat.min_self] at c9z)
            by_cases c10 : 8 ≤ (t180.size : Int)
            · rw [if_pos c10] at H
              have c10b0 := eq_true c10
              have c10b1 : decide (8 ≤ (t180.size : Int)) = true := decide_eq_true c10
              clear c10
              by_cases c11 : ((t180.extract 0 6) ++ (⟨#[32, 1]⟩ : ByteArray)).size + (t180.extract 8 t180.size).size ≤ 9223372036854775807
              · rw [if_pos c11] at H
                have c11b0 := eq_true c11
                have c11b1 : decide (((t180.extract 0 6) ++ (⟨#[32, 1]⟩ : ByteArray)).size + (t180.extract 8 t180.size).size ≤ 9223372036854775807) = true := decide_eq_true c11
                try have c11b2 : (9223372036854775807 < ((t180.extract 0 6) ++ (⟨#[32, 1]⟩ : ByteArray)).size + (t180.extract 8 t180.size).size) = False := eq_false (Nat.not_lt.2 c11)
                have c11z := eq_false (Nat.not_lt.mpr c11)
                (try simp only [ByteArray.size_append', ByteArray.size_mk', ByteArray.size_extract, List.size_toArray, List.length_cons, List.length_nil, Nat.reduceAdd, Nat.zero_add, Nat.sub_zero, Nat.min_self] at c11z)
                replace H := Option.bind_eq_some_iff.mp H
                obtain ⟨t202, A120, H⟩ := H
                replace H : ((ip_Get.f k t202).bind fun bt203 => (if 0 ≤ 10 then (if 10 ≤ (t180.size : Int) then (if (t180.extract 0 10).toList = ([69, 0, 0, 22, 0, 7, 64, 0, 64, 17] : List UInt8) then ((wharfagelaw0_Num.f t181).bind fun t212 => (if t212 = 0 then (if (t182 == 1 && (t183 == 258 && (t184 == 17 && (t185 == 64 && (t186 == 7 && (t187.toList == ([104, 105] : List UInt8))))))) = true then (if t188 = 0 then ((wharfagelaw0_Num.f t189).bind fun t213 => (if t213 = 0 then (if t197 = 1 then ((wharfagelaw0_Num.f t198).bind fun t214 => (if t214 = 200 then ((wharfagelaw0_Num.f t201).bind fun t215 => (if t215 = 200 then (if (bt203.1 == 0 && (bt203.2.1 == 0 && (bt203.2.2.1 == 0 && (bt203.2.2.2.1 == 0 && (bt203.2.2.2.2.1 == 0 && (bt203.2.2.2.2.2.1.toList == ([] : List UInt8))))))) = true then (if bt203.2.2.2.2.2.2.1 = 2 then ((wharfagelaw0_Num.f bt203.2.2.2.2.2.2.2).bind fun t216 => (if t216 = 0 then ((ip_May.f 1 258 17 64 7 (⟨#[104, 105]⟩ : ByteArray)).bind fun t217 => (some t217)) else (none))) else (none)) else (none)) else (none))) else (none))) else (none)) else (none))) else (none)) else (none)) else (none))) else (none)) else (none)) else (none))) = some r := H
                have A12 := Aside0.mk A120
                clear A120
                replace H := Option.bind_eq_some_iff.mp H
                obtain ⟨⟨t203, t204, t205, t206, t207, t208, t209, t210⟩, A130, H⟩ := H
                replace H : (if 0 ≤ 10 then (if 10 ≤ (t180.size : Int) then (if (t180.extract 0 10).toList = ([69, 0, 0, 22, 0, 7, 64, 0, 64, 17] : List UInt8) then ((wharfagelaw0_Num.f t181).bind fun t212 => (if t212 = 0 then (if (t182 == 1 && (t183 == 258 && (t184 == 17 && (t185 == 64 && (t186 == 7 && (t187.toList == ([104, 105] : List UInt8))))))) = true then (if t188 = 0 then ((wharfagelaw0_Num.f t189).bind fun t213 => (if t213 = 0 then (if t197 = 1 then ((wharfagelaw0_Num.f t198).bind fun t214 => (if t214 = 200 then ((wharfagelaw0_Num.f t201).bind fun t215 => (if t215 = 200 then (if (t203 == 0 && (t204 == 0 && (t205 == 0 && (t206 == 0 && (t207 == 0 && (t208.toList == ([] : List UInt8))))))) = true then (if t209 = 2 then ((wharfagelaw0_Num.f t210).bind fun t216 => (if t216 = 0 then ((ip_May.f 1 258 17 64 7 (⟨#[104, 105]⟩ : ByteArray)).bind fun t217 => (some t217)) else (none))) else (none)) else (none)) else (none))) else (none))) else (none)) else (none))) else (none)) else (none)) else (none))) else (none)) else (none)) else (none)) = some r := H
                have A13 := Aside0.mk A130
                clear A130
                by_cases c14 : 0 ≤ 10
                · rw [if_pos c14] at H
                  have c14b0 := eq_true c14
                  have c14b1 : decide (0 ≤ 10) = true := decide_eq_true c14
                  clear c14
                  by_cases c15 : 10 ≤ (t180.size : Int)
                  · rw [if_pos c15] at H
                    have c15b0 := eq_true c15
                    have c15b1 : decide (10 ≤ (t180.size : Int)) = true := decide_eq_true c15
                    clear c15
                    by_cases c16 : (t180.extract 0 10).toList = ([69, 0, 0, 22, 0, 7, 64, 0, 64, 17] : List UInt8)
                    · rw [if_pos c16] at H
                      have c16b0 : ((t180.extract 0 10).toList == ([69, 0, 0, 22, 0, 7, 64, 0, 64, 17] : List UInt8)) = true := beq_iff_eq.mpr c16
                      have c16b1 : ((t180.extract 0 10).toList != ([69, 0, 0, 22, 0, 7, 64, 0, 64, 17] : List UInt8)) = false := bne_eq_false_iff_eq.mpr c16
                      clear c16
                      replace H := Option.bind_eq_some_iff.mp H
                      obtain ⟨t212, A170, H⟩ := H
                      replace H : (if t212 = 0 then (if (t182 == 1 && (t183 == 258 && (t184 == 17 && (t185 == 64 && (t186 == 7 && (t187.toList == ([104, 105] : List UInt8))))))) = true then (if t188 = 0 then ((wharfagelaw0_Num.f t189).bind fun t213 => (if t213 = 0 then (if t197 = 1 then ((wharfagelaw0_Num.f t198).bind fun t214 => (if t214 = 200 then ((wharfagelaw0_Num.f t201).bind fun t215 => (if t215 = 200 then (if (t203 == 0 && (t204 == 0 && (t205 == 0 && (t206 == 0 && (t207 == 0 && (t208.toList == ([] : List UInt8))))))) = true then (if t209 = 2 then ((wharfagelaw0_Num.f t210).bind fun t216 => (if t216 = 0 then ((ip_May.f 1 258 17 64 7 (⟨#[104, 105]⟩ : ByteArray)).bind fun t217 => (some t217)) else (none))) else (none)) else (none)) else (none))) else (none))) else (none)) else (none))) else (none)) else (none)) else (none)) = some r := H
                      have A17 := Aside0.mk A170
                      clear A170
                      by_cases c18 : t212 = 0
                      · rw [if_pos c18] at H
                        have c18b0 : (t212 == 0) = true := beq_iff_eq.mpr c18
                        have c18b1 : (t212 != 0) = false := bne_eq_false_iff_eq.mpr c18
                        clear c18
                        by_cases c19 : (t182 == 1 && (t183 == 258 && (t184 == 17 && (t185 == 64 && (t186 == 7 && (t187.toList == ([104, 105] : List UInt8))))))) = true
                        · rw [if_pos c19] at H
                          have c19b0 : (t182 == 1 && (t183 == 258 && (t184 == 17 && (t185 == 64 && (t186 == 7 && (t187.toList == ([104, 105] : List UInt8))))))) = true := c19
                          (try (have c19b1 : decide (t182 = 1 && (t183 == 258 && (t184 == 17 && (t185 == 64 && (t186 == 7 && (t187.toList == ([104, 105] : List UInt8))))))) = true := by simpa using c19))
                          (try (have c19b2 : (t182 == 1 && (t183 == 258 && (t184 == 17 && (t185 == 64 && (t186 == 7 && (t187.toList == ([104, 105] : List UInt8))))))) = true := by simpa using c19))
                          clear c19
                          by_cases c20 : t188 = 0
                          · rw [if_pos c20] at H
                            have c20b0 : (t188 == 0) = true := beq_iff_eq.mpr c20
                            have c20b1 : (t188 != 0) = false := bne_eq_false_iff_eq.mpr c20
                            clear c20
                            replace H := Option.bind_eq_some_iff.mp H
                            obtain ⟨t213, A210, H⟩ := H
                            replace H : (if t213 = 0 then (if t197 = 1 then ((wharfagelaw0_Num.f t198).bind fun t214 => (if t214 = 200 then ((wharfagelaw0_Num.f t201).bind fun t215 => (if t215 = 200 then (if (t203 == 0 && (t204 == 0 && (t205 == 0 && (t206 == 0 && (t207 == 0 && (t208.toList == ([] : List UInt8))))))) = true then (if t209 = 2 then ((wharfagelaw0_Num.f t210).bind fun t216 => (if t216 = 0 then ((ip_May.f 1 258 17 64 7 (⟨#[104, 105]⟩ : ByteArray)).bind fun t217 => (some t217)) else (none))) else (none)) else (none)) else (none))) else (none))) else (none)) else (none)) = some r := H
                            have A21 := Aside0.mk A210
                            clear A210
                            by_cases c22 : t213 = 0
                            · rw [if_pos c22] at H
                              have c22b0 : (t213 == 0) = true := beq_iff_eq.mpr c22
                              have c22b1 : (t213 != 0) = false := bne_eq_false_iff_eq.mpr c22
                              clear c22
                              by_cases c23 : t197 = 1
                              · rw [if_pos c23] at H
                                have c23b0 : (t197 == 1) = true := beq_iff_eq.mpr c23
                                have c23b1 : (t197 != 1) = false := bne_eq_false_iff_eq.mpr c23
                                clear c23
                                replace H := Option.bind_eq_some_iff.mp H
                                obtain ⟨t214, A240, H⟩ := H
                                replace H : (if t214 = 200 then ((wharfagelaw0_Num.f t201).bind fun t215 => (if t215 = 200 then (if (t203 == 0 && (t204 == 0 && (t205 == 0 && (t206 == 0 && (t207 == 0 && (t208.toList == ([] : List UInt8))))))) = true then (if t209 = 2 then ((wharfagelaw0_Num.f t210).bind fun t216 => (if t216 = 0 then ((ip_May.f 1 258 17 64 7 (⟨#[104, 105]⟩ : ByteArray)).bind fun t217 => (some t217)) else (none))) else (none)) else (none)) else (none))) else (none)) = some r := H
                                have A24 := Aside0.mk A240
                                clear A240
                                by_cases c25 : t214 = 200
                                · rw [if_pos c25] at H
                                  have c25b0 : (t214 == 200) = true := beq_iff_eq.mpr c25
                                  have c25b1 : (t214 != 200) = false := bne_eq_false_iff_eq.mpr c25
                                  clear c25
                                  replace H := Option.bind_eq_some_iff.mp H
                                  obtain ⟨t215, A260, H⟩ := H
                                  replace H : (if t215 = 200 then (if (t203 == 0 && (t204 == 0 && (t205 == 0 && (t206 == 0 && (t207 == 0 && (t208.toList == ([] : List UInt8))))))) = true then (if t209 = 2 then ((wharfagelaw0_Num.f t210).bind fun t216 => (if t216 = 0 then ((ip_May.f 1 258 17 64 7 (⟨#[104, 105]⟩ : ByteArray)).bind fun t217 => (some t217)) else (none))) else (none)) else (none)) else (none)) = some r := H
                                  have A26 := Aside0.mk A260
                                  clear A260
                                  by_cases c27 : t215 = 200
                                  · rw [if_pos c27] at H
                                    have c27b0 : (t215 == 200) = true := beq_iff_eq.mpr c27
                                    have c27b1 : (t215 != 200) = false := bne_eq_false_iff_eq.mpr c27
                                    clear c27
                                    by_cases c28 : (t203 == 0 && (t204 == 0 && (t205 == 0 && (t206 == 0 && (t207 == 0 && (t208.toList == ([] : List UInt8))))))) = true
                                    · rw [if_pos c28] at H
                                      have c28b0 : (t203 == 0 && (t204 == 0 && (t205 == 0 && (t206 == 0 && (t207 == 0 && (t208.toList == ([] : List UInt8))))))) = true := c28
                                      (try (have c28b1 : decide (t203 = 0 && (t204 == 0 && (t205 == 0 && (t206 == 0 && (t207 == 0 && (t208.toList == ([] : List UInt8))))))) = true := by simpa using c28))
                                      (try (have c28b2 : (t203 == 0 && (t204 == 0 && (t205 == 0 && (t206 == 0 && (t207 == 0 && (t208.toList == ([] : List UInt8))))))) = true := by simpa using c28))
                                      clear c28
                                      by_cases c29 : t209 = 2
                                      · rw [if_pos c29] at H
                                        have c29b0 : (t209 == 2) = true := beq_iff_eq.mpr c29
                                        have c29b1 : (t209 != 2) = false := bne_eq_false_iff_eq.mpr c29
                                        clear c29
                                        replace H := Option.bind_eq_some_iff.mp H
                                        obtain ⟨t216, A300, H⟩ := H
                                        replace H : (if t216 = 0 then ((ip_May.f 1 258 17 64 7 (⟨#[104, 105]⟩ : ByteArray)).bind fun t217 => (some t217)) else (none)) = some r := H
                                        have A30 := Aside0.mk A300
                                        clear A300
                                        by_cases c31 : t216 = 0
                                        · rw [if_pos c31] at H
                                          have c31b0 : (t216 == 0) = true := beq_iff_eq.mpr c31
                                          have c31b1 : (t216 != 0) = false := bne_eq_false_iff_eq.mpr c31
                                          clear c31
                                          replace H := Option.bind_eq_some_iff.mp H
                                          obtain ⟨t217, A320, H⟩ := H
                                          replace H : (some t217) = some r := H
                                          have A32 := Aside0.mk A320
                                          clear A320
                                          obtain rfl := Option.some.inj H
                                          go_enter Try.func25, Try.ntmps25
                                          try go_wp2_with (first | ((with_reducible refine gate_dst (N := 1) rfl ?_); refine box_event ?hg (N := 1) ?hd (cs := #[.int .i64 0, .int .i64 0, .int .i64 0, .int .i64 0, .int .i64 0, .string (⟨#[]⟩ : ByteArray)]) (t := 23) ?hr ?_; (case hd => rfl); (case hg => rfl); (case hr => first | (go_simp; done) | (go_simp; rfl)); intro gb179 hg w33 hbox hb; have n0_ := Aside0.mk (below_step (by repeat (first | (with_reducible first | exact HB.out | apply below_alloc | apply pw_below_drewN | apply below_drew1) | exact HB.out)) hb); have n1_ := Aside0.mk (hbox); have n2_ := Aside0.mk ((by rw [hg]; exact (below_size (by repeat (first | (with_reducible first | exact HB.out | apply below_alloc | apply pw_below_drewN | apply below_drew1) | exact HB.out))) : w.heap.size ≤ gb179)); have n3_ := Aside0.mk ((by rw [hg]; exact (below_size (by repeat (first | (with_reducible first | exact HB.out | apply below_alloc | apply pw_below_drewN | apply below_drew1) | exact HB.out))) : w.heap.size ≤ gb179)); clear HB; have HB := n0_; have BK179 := n1_; have GW179 := n2_; have GE179 := n3_; clear n0_ n1_ n2_ n3_; clear hb hbox hg; have hcz34_0 : w33.cell? ⟨gb179, 0, none⟩ = some (.int .i64 0) := (blk_cell BK179.out 0).trans rfl; have hcz34_1 : w33.cell? ⟨gb179, 1, none⟩ = some (.int .i64 0) := (blk_cell BK179.out 1).trans rfl; have hcz34_2 : w33.cell? ⟨gb179, 2, none⟩ = some (.int .i64 0) := (blk_cell BK179.out 2).trans rfl; have hcz34_3 : w33.cell? ⟨gb179, 3, none⟩ = some (.int .i64 0) := (blk_cell BK179.out 3).trans rfl; have hcz34_4 : w33.cell? ⟨gb179, 4, none⟩ = some (.int .i64 0) := (blk_cell BK179.out 4).trans rfl; have hcz34_5 : w33.cell? ⟨gb179, 5, none⟩ = some (.string (⟨#[]⟩ : ByteArray)) := (blk_cell BK179.out 5).trans rfl; have hfz34_0 := blk_frozen BK179.out 0; have hfz34_1 := blk_frozen BK179.out 1; have hfz34_2 := blk_frozen BK179.out 2; have hfz34_3 := blk_frozen BK179.out 3; have hfz34_4 := blk_frozen BK179.out 4; have hfz34_5 := blk_frozen BK179.out 5) | ((with_reducible refine gate_callee (f := 17) rfl ?_); refine goesL_ (some 18) rfl rfl Try.func17 (by kernel_rfl) rfl #[.agg #[.int .i64 1, .int .i64 258, .int .i64 17, .int .i64 64, .int .i64 7, .string (⟨#[104, 105]⟩ : ByteArray)]] rfl (by (try simp only [List.map_toArray, List.map_cons, List.map_nil]); first | done | rfl | (simp only [List.length_drop, List.length_take]; rfl)) ?_; (with_reducible refine (ip_Put.calls k 1 258 17 64 7 (⟨#[104, 105]⟩ : ByteArray) t180 t181 _ A1.out).mono ?_); rintro e w35 ⟨rfl, hb⟩; refine ⟨_, rfl, ?_⟩; have n0_ := Aside0.mk (blk_below (g := gb179) (o := .cells #[.int .i64 1, .int .i64 258, .int .i64 17, .int .i64 64, .int .i64 7, .string (⟨#[104, 105]⟩ : ByteArray)] 23 (0, 0)) (by (with_reducible repeat (first | refine blk_drewN ?_ _ | refine blk_drew ?_ | refine blk_alloc ?_ _)); refine blk_put (cs := #[.int .i64 1, .int .i64 258, .int .i64 17, .int .i64 64, .int .i64 7, .string (⟨#[]⟩ : ByteArray)]) ?_ 5 _ (by first | rfl | (simp [*]; done)); (with_reducible repeat (first | refine blk_drewN ?_ _ | refine blk_drew ?_ | refine blk_alloc ?_ _)); refine blk_put (cs := #[.int .i64 1, .int .i64 258, .int .i64 17, .int .i64 64, .int .i64 0, .string (⟨#[]⟩ : ByteArray)]) ?_ 4 _ (by first | rfl | (simp [*]; done)); (with_reducible repeat (first | refine blk_drewN ?_ _ | refine blk_drew ?_ | refine blk_alloc ?_ _)); refine blk_put (cs := #[.int .i64 1, .int .i64 258, .int .i64 17, .int .i64 0, .int .i64 0, .string (⟨#[]⟩ : ByteArray)]) ?_ 3 _ (by first | rfl | (simp [*]; done)); (with_reducible repeat (first | refine blk_drewN ?_ _ | refine blk_drew ?_ | refine blk_alloc ?_ _)); refine blk_put (cs := #[.int .i64 1, .int .i64 258, .int .i64 0, .int .i64 0, .int .i64 0, .string (⟨#[]⟩ : ByteArray)]) ?_ 2 _ (by first | rfl | (simp [*]; done)); (with_reducible repeat (first | refine blk_drewN ?_ _ | refine blk_drew ?_ | refine blk_alloc ?_ _)); refine blk_put (cs := #[.int .i64 1, .int .i64 0, .int .i64 0, .int .i64 0, .int .i64 0, .string (⟨#[]⟩ : ByteArray)]) ?_ 1 _ (by first | rfl | (simp [*]; done)); (with_reducible repeat (first | refine blk_drewN ?_ _ | refine blk_drew ?_ | refine blk_alloc ?_ _)); refine blk_put (cs := #[.int .i64 0, .int .i64 0, .int .i64 0, .int .i64 0, .int .i64 0, .string (⟨#[]⟩ : ByteArray)]) ?_ 0 _ (by first | rfl | (simp [*]; done)); (with_reducible repeat (first | refine blk_drewN ?_ _ | refine blk_drew ?_ | refine blk_alloc ?_ _)); exact BK179.out) hb); have n1_ := Aside0.mk (below_step (by repeat (first | (with_reducible first | exact HB.out | apply below_alloc | apply pw_below_drewN | apply below_drew1 | refine below_set ?_ GE179.out) | exact HB.out)) hb); clear BK179; clear HB; have BK179 := n0_; have HB := n1_; clear n0_ n1_; (try clear hb); (try clear hb2); (try clear hk); (try clear hi)) | ((with_reducible refine gate_callee (f := 23) rfl ?_); refine goesL_ (some 23) rfl rfl Try.func23 (by kernel_rfl) rfl #[.string t180] rfl (by (try simp only [List.map_toArray, List.map_cons, List.map_nil]); first | done | rfl | (simp only [List.length_drop, List.length_take]; rfl)) ?_; (with_reducible refine (ip_Get.calls k t180 t182 t183 t184 t185 t186 t187 t188 t189 _ A2.out).mono ?_); rintro e w36 ⟨rfl, hb⟩; refine ⟨_, rfl, ?_⟩; have n0_ := Aside0.mk (blk_below (g := gb179) (o := .cells #[.int .i64 1, .int .i64 258, .int .i64 17, .int .i64 64, .int .i64 7, .string (⟨#[104, 105]⟩ : ByteArray)] 23 (0, 0)) (by (with_reducible repeat (first | refine blk_drewN ?_ _ | refine blk_drew ?_ | refine blk_alloc ?_ _)); exact BK179.out) hb); have n1_ := Aside0.mk (below_step (by repeat (first | (with_reducible first | exact HB.out | apply below_alloc | apply pw_below_drewN | apply below_drew1 | refine below_set ?_ GE179.out) | exact HB.out)) hb); clear BK179; clear HB; have BK179 := n0_; have HB := n1_; clear n0_ n1_; (try clear hb); (try clear hb2); (try clear hk); (try clear hi)) | ((with_reducible refine gate_dst (N := 4) rfl ?_); refine box_event ?hg (N := 4) ?hd (cs := #[.int .i64 0, .int .i64 0, .int .i64 0, .int .i64 0, .int .i64 0, .string (⟨#[]⟩ : ByteArray)]) (t := 23) ?hr ?_; (case hd => rfl); (case hg => rfl); (case hr => first | (go_simp; done) | (go_simp; rfl)); intro gb190 hg w37 hbox hb; have n0_ := Aside0.mk (blk_below (g := gb179) (o := .cells #[.int .i64 1, .int .i64 258, .int .i64 17, .int .i64 64, .int .i64 7, .string (⟨#[104, 105]⟩ : ByteArray)] 23 (0, 0)) (by (with_reducible repeat (first | refine blk_drewN ?_ _ | refine blk_drew ?_ | refine blk_alloc ?_ _)); exact BK179.out) hb); have n1_ := Aside0.mk (below_step (by repeat (first | (with_reducible first | exact HB.out | apply below_alloc | apply pw_below_drewN | apply below_drew1 | refine below_set ?_ GE179.out) | exact HB.out)) hb); have n2_ := Aside0.mk (hbox); have n3_ := Aside0.mk ((by rw [hg]; exact (below_size (by repeat (first | (with_reducible first | exact HB.out | apply below_alloc | apply pw_below_drewN | apply below_drew1 | refine below_set ?_ GE179.out) | exact HB.out))) : w.heap.size ≤ gb190)); have n4_ := Aside0.mk ((by rw [hg]; exact (below_size (by repeat (first | (with_reducible first | exact HB.out | apply below_alloc | apply pw_below_drewN | apply below_drew1 | refine below_set ?_ GE179.out) | exact HB.out))) : w.heap.size ≤ gb190)); have n5_ := Aside0.mk ((by rw [hg]; exact Nat.ne_of_lt (blk_lt (g := gb179) (o := .cells #[.int .i64 1, .int .i64 258, .int .i64 17, .int .i64 64, .int .i64 7, .string (⟨#[104, 105]⟩ : ByteArray)] 23 (0, 0)) (by (with_reducible repeat (first | refine blk_drewN ?_ _ | refine blk_drew ?_ | refine blk_alloc ?_ _)); exact BK179.out)) : gb179 ≠ gb190)); have n6_ := Aside0.mk ((by rw [hg]; exact Nat.ne_of_gt (blk_lt (g := gb179) (o := .cells #[.int .i64 1, .int .i64 258, .int .i64 17, .int .i64 64, .int .i64 7, .string (⟨#[104, 105]⟩ : ByteArray)] 23 (0, 0)) (by (with_reducible repeat (first | refine blk_drewN ?_ _ | refine blk_drew ?_ | refine blk_alloc ?_ _)); exact BK179.out)) : gb190 ≠ gb179)); clear BK179; clear HB; have BK179 := n0_; have HB := n1_; have BK190 := n2_; have GW190 := n3_; have GE190 := n4_; have NB179_190 := n5_; have NB190_179 := n6_; clear n0_ n1_ n2_ n3_ n4_ n5_ n6_; clear hb hbox hg; have hnb38 := NB190_179.out; have hnc38 := NB179_190.out; have hcz39_0 : w37.cell? ⟨gb190, 0, none⟩ = some (.int .i64 0) := (blk_cell BK190.out 0).trans rfl; have hcz39_1 : w37.cell? ⟨gb190, 1, none⟩ = some (.int .i64 0) := (blk_cell BK190.out 1).trans rfl; have hcz39_2 : w37.cell? ⟨gb190, 2, none⟩ = some (.int .i64 0) := (blk_cell BK190.out 2).trans rfl; have hcz39_3 : w37.cell? ⟨gb190, 3, none⟩ = some (.int .i64 0) := (blk_cell BK190.out 3).trans rfl; have hcz39_4 : w37.cell? ⟨gb190, 4, none⟩ = some (.int .i64 0) := (blk_cell BK190.out 4).trans rfl; have hcz39_5 : w37.cell? ⟨gb190, 5, none⟩ = some (.string (⟨#[]⟩ : ByteArray)) := (blk_cell BK190.out 5).trans rfl; have hfz39_0 := blk_frozen BK190.out 0; have hfz39_1 := blk_frozen BK190.out 1; have hfz39_2 := blk_frozen BK190.out 2; have hfz39_3 := blk_frozen BK190.out 3; have hfz39_4 := blk_frozen BK190.out 4; have hfz39_5 := blk_frozen BK190.out 5) | ((with_reducible refine gate_callee (f := 23) rfl ?_); refine goesL_ (some 30) rfl rfl Try.func23 (by kernel_rfl) rfl #[.string (t180 ++ (⟨#[120]⟩ : ByteArray))] rfl (by (try simp only [List.map_toArray, List.map_cons, List.map_nil]); first | done | rfl | (simp only [List.length_drop, List.length_take]; rfl)) ?_; (with_reducible refine (ip_Get.calls k (t180 ++ (⟨#[120]⟩ : ByteArray)) t191 t192 t193 t194 t195 t196 t197 t198 _ A4.out).mono ?_); rintro e w40 ⟨rfl, hb⟩; refine ⟨_, rfl, ?_⟩; have n0_ := Aside0.mk (blk_below (g := gb179) (o := .cells #[.int .i64 1, .int .i64 258, .int .i64 17, .int .i64 64, .int .i64 7, .string (⟨#[104, 105]⟩ : ByteArray)] 23 (0, 0)) (by (with_reducible repeat (first | refine blk_drewN ?_ _ | refine blk_drew ?_ | refine blk_alloc ?_ _)); refine blk_far ?_ NB179_190.out _; (with_reducible repeat (first | refine blk_drewN ?_ _ | refine blk_drew ?_ | refine blk_alloc ?_ _)); refine blk_far ?_ NB179_190.out _; (with_reducible repeat (first | refine blk_drewN ?_ _ | refine blk_drew ?_ | refine blk_alloc ?_ _)); refine blk_far ?_ NB179_190.out _; (with_reducible repeat (first | refine blk_drewN ?_ _ | refine blk_drew ?_ | refine blk_alloc ?_ _)); refine blk_far ?_ NB179_190.out _; (with_reducible repeat (first | refine blk_drewN ?_ _ | refine blk_drew ?_ | refine blk_alloc ?_ _)); refine blk_far ?_ NB179_190.out _; (with_reducible repeat (first | refine blk_drewN ?_ _ | refine blk_drew ?_ | refine blk_alloc ?_ _)); refine blk_far ?_ NB179_190.out _; (with_reducible repeat (first | refine blk_drewN ?_ _ | refine blk_drew ?_ | refine blk_alloc ?_ _)); exact BK179.out) hb); have n1_ := Aside0.mk (blk_below (g := gb190) (o := .cells #[.int .i64 t182, .int .i64 t183, .int .i64 t184, .int .i64 t185, .int .i64 t186, .string t187] 23 (0, 0)) (by (with_reducible repeat (first | refine blk_drewN ?_ _ | refine blk_drew ?_ | refine blk_alloc ?_ _)); refine blk_put (cs := #[.int .i64 t182, .int .i64 t183, .int .i64 t184, .int .i64 t185, .int .i64 t186, .string (⟨#[]⟩ : ByteArray)]) ?_ 5 _ (by first | rfl | (simp [*]; done)); (with_reducible repeat (first | refine blk_drewN ?_ _ | refine blk_drew ?_ | refine blk_alloc ?_ _)); refine blk_put (cs := #[.int .i64 t182, .int .i64 t183, .int .i64 t184, .int .i64 t185, .int .i64 0, .string (⟨#[]⟩ : ByteArray)]) ?_ 4 _ (by first | rfl | (simp [*]; done)); (with_reducible repeat (first | refine blk_drewN ?_ _ | refine blk_drew ?_ | refine blk_alloc ?_ _)); refine blk_put (cs := #[.int .i64 t182, .int .i64 t183, .int .i64 t184, .int .i64 0, .int .i64 0, .string (⟨#[]⟩ : ByteArray)]) ?_ 3 _ (by first | rfl | (simp [*]; done)); (with_reducible repeat (first | refine blk_drewN ?_ _ | refine blk_drew ?_ | refine blk_alloc ?_ _)); refine blk_put (cs := #[.int .i64 t182, .int .i64 t183, .int .i64 0, .int .i64 0, .int .i64 0, .string (⟨#[]⟩ : ByteArray)]) ?_ 2 _ (by first | rfl | (simp [*]; done)); (with_reducible repeat (first | refine blk_drewN ?_ _ | refine blk_drew ?_ | refine blk_alloc ?_ _)); refine blk_put (cs := #[.int .i64 t182, .int .i64 0, .int .i64 0, .int .i64 0, .int .i64 0, .string (⟨#[]⟩ : ByteArray)]) ?_ 1 _ (by first | rfl | (simp [*]; done)); (with_reducible repeat (first | refine blk_drewN ?_ _ | refine blk_drew ?_ | refine blk_alloc ?_ _)); refine blk_put (cs := #[.int .i64 0, .int .i64 0, .int .i64 0, .int .i64 0, .int .i64 0, .string (⟨#[]⟩ : ByteArray)]) ?_ 0 _ (by first | rfl | (simp [*]; done)); (with_reducible repeat (first | refine blk_drewN ?_ _ | refine blk_drew ?_ | refine blk_alloc ?_ _)); exact BK190.out) hb); have n2_ := Aside0.mk (below_step (by repeat (first | (with_reducible first | exact HB.out | apply below_alloc | apply pw_below_drewN | apply below_drew1 | refine below_set ?_ GE179.out | refine below_set ?_ GE190.out) | exact HB.out)) hb); clear BK179; clear BK190; clear HB; have BK179 := n0_; have BK190 := n1_; have HB := n2_; clear n0_ n1_ n2_; (try clear hb); (try clear hb2); (try clear hk); (try clear hi)) | ((with_reducible refine gate_dst (N := 7) rfl ?_); refine box_event ?hg (N := 7) ?hd (cs := #[.int .i64 0, .int .i64 0, .int .i64 0, .int .i64 0, .int .i64 0, .string (⟨#[]⟩ : ByteArray)]) (t := 23) ?hr ?_; (case hd => rfl); (case hg => rfl); (case hr => first | (go_simp; done) | (go_simp; rfl)); intro gb199 hg w41 hbox hb; have n0_ := Aside0.mk (blk_below (g := gb179) (o := .cells #[.int .i64 1, .int .i64 258, .int .i64 17, .int .i64 64, .int .i64 7, .string (⟨#[104, 105]⟩ : ByteArray)] 23 (0, 0)) (by (with_reducible repeat (first | refine blk_drewN ?_ _ | refine blk_drew ?_ | refine blk_alloc ?_ _)); exact BK179.out) hb); have n1_ := Aside0.mk (blk_below (g := gb190) (o := .cells #[.int .i64 t182, .int .i64 t183, .int .i64 t184, .int .i64 t185, .int .i64 t186, .string t187] 23 (0, 0)) (by (with_reducible repeat (first | refine blk_drewN ?_ _ | refine blk_drew ?_ | refine blk_alloc ?_ _)); exact BK190.out) hb); have n2_ := Aside0.mk (below_step (by repeat (first | (with_reducible first | exact HB.out | apply below_alloc | apply pw_below_drewN | apply below_drew1 | refine below_set ?_ GE179.out | refine below_set ?_ GE190.out) | exact HB.out)) hb); have n3_ := Aside0.mk (hbox); have n4_ := Aside0.mk ((by rw [hg]; exact (below_size (by repeat (first | (with_reducible first | exact HB.out | apply below_alloc | apply pw_below_drewN | apply below_drew1 | refine below_set ?_ GE179.out | refine below_set ?_ GE190.out) | exact HB.out))) : w.heap.size ≤ gb199)); have n5_ := Aside0.mk ((by rw [hg]; exact (below_size (by repeat (first | (with_reducible first | exact HB.out | apply below_alloc | apply pw_below_drewN | apply below_drew1 | refine below_set ?_ GE179.out | refine below_set ?_ GE190.out) | exact HB.out))) : w.heap.size ≤ gb199)); have n6_ := Aside0.mk ((by rw [hg]; exact Nat.ne_of_lt (blk_lt (g := gb179) (o := .cells #[.int .i64 1, .int .i64 258, .int .i64 17, .int .i64 64, .int .i64 7, .string (⟨#[104, 105]⟩ : ByteArray)] 23 (0, 0)) (by (with_reducible repeat (first | refine blk_drewN ?_ _ | refine blk_drew ?_ | refine blk_alloc ?_ _)); exact BK179.out)) : gb179 ≠ gb199)); have n7_ := Aside0.mk ((by rw [hg]; exact Nat.ne_of_gt (blk_lt (g := gb179) (o := .cells #[.int .i64 1, .int .i64 258, .int .i64 17, .int .i64 64, .int .i64 7, .string (⟨#[104, 105]⟩ : ByteArray)] 23 (0, 0)) (by (with_reducible repeat (first | refine blk_drewN ?_ _ | refine blk_drew ?_ | refine blk_alloc ?_ _)); exact BK179.out)) : gb199 ≠ gb179)); have n8_ := Aside0.mk ((by rw [hg]; exact Nat.ne_of_lt (blk_lt (g := gb190) (o := .cells #[.int .i64 t182, .int .i64 t183, .int .i64 t184, .int .i64 t185, .int .i64 t186, .string t187] 23 (0, 0)) (by (with_reducible repeat (first | refine blk_drewN ?_ _ | refine blk_drew ?_ | refine blk_alloc ?_ _)); exact BK190.out)) : gb190 ≠ gb199)); have n9_ := Aside0.mk ((by rw [hg]; exact Nat.ne_of_gt (blk_lt (g := gb190) (o := .cells #[.int .i64 t182, .int .i64 t183, .int .i64 t184, .int .i64 t185, .int .i64 t186, .string t187] 23 (0, 0)) (by (with_reducible repeat (first | refine blk_drewN ?_ _ | refine blk_drew ?_ | refine blk_alloc ?_ _)); exact BK190.out)) : gb199 ≠ gb190)); clear BK179; clear BK190; clear HB; have BK179 := n0_; have BK190 := n1_; have HB := n2_; have BK199 := n3_; have GW199 := n4_; have GE199 := n5_; have NB179_199 := n6_; have NB199_179 := n7_; have NB190_199 := n8_; have NB199_190 := n9_; clear n0_ n1_ n2_ n3_ n4_ n5_ n6_ n7_ n8_ n9_; clear hb hbox hg; have hnb42 := NB199_179.out; have hnc42 := NB179_199.out; have hnb43 := NB199_190.out; have hnc43 := NB190_199.out; have hcz44_0 : w41.cell? ⟨gb199, 0, none⟩ = some (.int .i64 0) := (blk_cell BK199.out 0).trans rfl; have hcz44_1 : w41.cell? ⟨gb199, 1, none⟩ = some (.int .i64 0) := (blk_cell BK199.out 1).trans rfl; have hcz44_2 : w41.cell? ⟨gb199, 2, none⟩ = some (.int .i64 0) := (blk_cell BK199.out 2).trans rfl; have hcz44_3 : w41.cell? ⟨gb199, 3, none⟩ = some (.int .i64 0) := (blk_cell BK199.out 3).trans rfl; have hcz44_4 : w41.cell? ⟨gb199, 4, none⟩ = some (.int .i64 0) := (blk_cell BK199.out 4).trans rfl; have hcz44_5 : w41.cell? ⟨gb199, 5, none⟩ = some (.string (⟨#[]⟩ : ByteArray)) := (blk_cell BK199.out 5).trans rfl; have hfz44_0 := blk_frozen BK199.out 0; have hfz44_1 := blk_frozen BK199.out 1; have hfz44_2 := blk_frozen BK199.out 2; have hfz44_3 := blk_frozen BK199.out 3; have hfz44_4 := blk_frozen BK199.out 4; have hfz44_5 := blk_frozen BK199.out 5) | ((with_reducible refine gate_callee (f := 17) rfl ?_); refine goesL_ (some 36) rfl rfl Try.func17 (by kernel_rfl) rfl #[.agg #[.int .i64 (-1), .int .i64 0, .int .i64 0, .int .i64 0, .int .i64 0, .string (⟨#[]⟩ : ByteArray)]] rfl (by (try simp only [List.map_toArray, List.map_cons, List.map_nil]); first | done | rfl | (simp only [List.length_drop, List.length_take]; rfl)) ?_; (with_reducible refine (ip_Put.calls k (-1) 0 0 0 0 (⟨#[]⟩ : ByteArray) t200 t201 _ A5.out).mono ?_); rintro e w45 ⟨rfl, hb⟩; refine ⟨_, rfl, ?_⟩; have n0_ := Aside0.mk (blk_below (g := gb179) (o := .cells #[.int .i64 1, .int .i64 258, .int .i64 17, .int .i64 64, .int .i64 7, .string (⟨#[104, 105]⟩ : ByteArray)] 23 (0, 0)) (by (with_reducible repeat (first | refine blk_drewN ?_ _ | refine blk_drew ?_ | refine blk_alloc ?_ _)); refine blk_far ?_ NB179_199.out _; (with_reducible repeat (first | refine blk_drewN ?_ _ | refine blk_drew ?_ | refine blk_alloc ?_ _)); refine blk_far ?_ NB179_199.out _; (with_reducible repeat (first | refine blk_drewN ?_ _ | refine blk_drew ?_ | refine blk_alloc ?_ _)); refine blk_far ?_ NB179_199.out _; (with_reducible repeat (first | refine blk_drewN ?_ _ | refine blk_drew ?_ | refine blk_alloc ?_ _)); refine blk_far ?_ NB179_199.out _; (with_reducible repeat (first | refine blk_drewN ?_ _ | refine blk_drew ?_ | refine blk_alloc ?_ _)); refine blk_far ?_ NB179_199.out _; (with_reducible repeat (first | refine blk_drewN ?_ _ | refine blk_drew ?_ | refine blk_alloc ?_ _)); refine blk_far ?_ NB179_199.out _; (with_reducible repeat (first | refine blk_drewN ?_ _ | refine blk_drew ?_ | refine blk_alloc ?_ _)); exact BK179.out) hb); have n1_ := Aside0.mk (blk_below (g := gb190) (o := .cells #[.int .i64 t182, .int .i64 t183, .int .i64 t184, .int .i64 t185, .int .i64 t186, .string t187] 23 (0, 0)) (by (with_reducible repeat (first | refine blk_drewN ?_ _ | refine blk_drew ?_ | refine blk_alloc ?_ _)); refine blk_far ?_ NB190_199.out _; (with_reducible repeat (first | refine blk_drewN ?_ _ | refine blk_drew ?_ | refine blk_alloc ?_ _)); refine blk_far ?_ NB190_199.out _; (with_reducible repeat (first | refine blk_drewN ?_ _ | refine blk_drew ?_ | refine blk_alloc ?_ _)); refine blk_far ?_ NB190_199.out _; (with_reducible repeat (first | refine blk_drewN ?_ _ | refine blk_drew ?_ | refine blk_alloc ?_ _)); refine blk_far ?_ NB190_199.out _; (with_reducible repeat (first | refine blk_drewN ?_ _ | refine blk_drew ?_ | refine blk_alloc ?_ _)); refine blk_far ?_ NB190_199.out _; (with_reducible repeat (first | refine blk_drewN ?_ _ | refine blk_drew ?_ | refine blk_alloc ?_ _)); refine blk_far ?_ NB190_199.out _; (with_reducible repeat (first | refine blk_drewN ?_ _ | refine blk_drew ?_ | refine blk_alloc ?_ _)); exact BK190.out) hb); have n2_ := Aside0.mk (blk_below (g := gb199) (o := .cells #[.int .i64 t191, .int .i64 t192, .int .i64 t193, .int .i64 t194, .int .i64 t195, .string t196] 23 (0, 0)) (by (with_reducible repeat (first | refine blk_drewN ?_ _ | refine blk_drew ?_ | refine blk_alloc ?_ _)); refine blk_put (cs := #[.int .i64 t191, .int .i64 t192, .int .i64 t193, .int .i64 t194, .int .i64 t195, .string (⟨#[]⟩ : ByteArray)]) ?_ 5 _ (by first | rfl | (simp [*]; done)); (with_reducible repeat (first | refine blk_drewN ?_ _ | refine blk_drew ?_ | refine blk_alloc ?_ _)); refine blk_put (cs := #[.int .i64 t191, .int .i64 t192, .int .i64 t193, .int .i64 t194, .int .i64 0, .string (⟨#[]⟩ : ByteArray)]) ?_ 4 _ (by first | rfl | (simp [*]; done)); (with_reducible repeat (first | refine blk_drewN ?_ _ | refine blk_drew ?_ | refine blk_alloc ?_ _)); refine blk_put (cs := #[.int .i64 t191, .int .i64 t192, .int .i64 t193, .int .i64 0, .int .i64 0, .string (⟨#[]⟩ : ByteArray)]) ?_ 3 _ (by first | rfl | (simp [*]; done)); (with_reducible repeat (first | refine blk_drewN ?_ _ | refine blk_drew ?_ | refine blk_alloc ?_ _)); refine blk_put (cs := #[.int .i64 t191, .int .i64 t192, .int .i64 0, .int .i64 0, .int .i64 0, .string (⟨#[]⟩ : ByteArray)]) ?_ 2 _ (by first | rfl | (simp [*]; done)); (with_reducible repeat (first | refine blk_drewN ?_ _ | refine blk_drew ?_ | refine blk_alloc ?_ _)); refine blk_put (cs := #[.int .i64 t191, .int .i64 0, .int .i64 0, .int .i64 0, .int .i64 0, .string (⟨#[]⟩ : ByteArray)]) ?_ 1 _ (by first | rfl | (simp [*]; done)); (with_reducible repeat (first | refine blk_drewN ?_ _ | refine blk_drew ?_ | refine blk_alloc ?_ _)); refine blk_put (cs := #[.int .i64 0, .int .i64 0, .int .i64 0, .int .i64 0, .int .i64 0, .string (⟨#[]⟩ : ByteArray)]) ?_ 0 _ (by first | rfl | (simp [*]; done)); (with_reducible repeat (first | refine blk_drewN ?_ _ | refine blk_drew ?_ | refine blk_alloc ?_ _)); exact BK199.out) hb); have n3_ := Aside0.mk (below_step (by repeat (first | (with_reducible first | exact HB.out | apply below_alloc | apply pw_below_drewN | apply below_drew1 | refine below_set ?_ GE179.out | refine below_set ?_ GE190.out | refine below_set ?_ GE199.out) | exact HB.out)) hb); clear BK179; clear BK190; clear BK199; clear HB; have BK179 := n0_; have BK190 := n1_; have BK199 := n2_; have HB := n3_; clear n0_ n1_ n2_ n3_; (try clear hb); (try clear hb2); (try clear hk); (try clear hi)))
                                          have n0_ := Aside0.mk (blk_drew BK179.out)
                                          have n1_ := Aside0.mk (blk_drew BK190.out)
                                          have n2_ := Aside0.mk (blk_drew BK199.out)
                                          have n3_ := Aside0.mk (below_drew1 HB.out)
                                          clear BK179
                                          clear BK190
                                          clear BK199
                                          clear HB
                                          have BK179 := n0_
                                          have BK190 := n1_
                                          have BK199 := n2_
                                          have HB := n3_
                                          clear n0_ n1_ n2_ n3_
                                          refine start_ (n := 16) (S := fun w' => True) (ds := []) #[false, false, false, false, false, false, false, false, false, false, false, false, false, false, false, false] (by kernel_rfl) rfl rfl trivial (fun hHeld => ?_); refine with_tabW wharfagelaw2_awake.tab8 wharfagelaw2_awake.bits8 (fun HT_ HW_ => ?_)
                                          generalize w45.drew = w46 at BK179 BK190 BK199 HB hHeld ⊢
                                          refine pure_ (i := 0) (N := some 43) (v := ?_) (a' := ?_) #[true, false, false, false, false, false, false, false, false, false, false, false, false, false, false, false] rfl rfl (any_of HT_.out (by kernel_rfl)) (fun _ _ _ h => h) (Or.inl ⟨by rfl, ?_⟩) ?_ ?_
                                          rotate_left
                                          · intro w'
                                            go_simp
                                            with_reducible rfl
                                          rotate_left
                                          · simp only [Act.put, List.setIfInBounds_toArray, List.set_cons_zero, List.set_cons_succ, i64_w, i32_w]
                                            rfl
                                          refine pure_ (i := 1) (N := some 44) (v := ?_) (a' := ?_) #[true, true, false, false, false, false, false, false, false, false, false, false, false, false, false, false] rfl rfl (any_of HT_.out (by kernel_rfl)) (fun _ _ _ h => h) (Or.inl ⟨by rfl, ?_⟩) ?_ ?_
                                          rotate_left
                                          · intro w'
                                            go_simp
                                            with_reducible rfl
                                          rotate_left
                                          · simp only [Act.put, List.setIfInBounds_toArray, List.set_cons_zero, List.set_cons_succ, i64_w, i32_w]
                                            rfl
                                          refine pure_ (i := 2) (N := some 45) (v := ?_) (a' := ?_) #[true, true, true, false, false, false, false, false, false, false, false, false, false, false, false, false] rfl rfl (any_of HT_.out (by kernel_rfl)) (fun _ _ _ h => h) (Or.inl ⟨by rfl, ?_⟩) ?_ ?_
                                          rotate_left
                                          · intro w'
                                            go_simp
                                            with_reducible rfl
                                          rotate_left
                                          · simp only [Act.put, List.setIfInBounds_toArray, List.set_cons_zero, List.set_cons_succ, i64_w, i32_w]
                                            rfl
                                          refine pure_ (i := 3) (N := some 46) (v := ?_) (a' := ?_) #[true, true, true, true, false, false, false, false, false, false, false, false, false, false, false, false] rfl rfl (any_of HT_.out (by kernel_rfl)) (fun _ _ _ h => h) (Or.inl ⟨by rfl, ?_⟩) ?_ ?_
                                          rotate_left
                                          · intro w'
                                            go_simp
                                            with_reducible rfl
                                          rotate_left
                                          · simp only [Act.put, List.setIfInBounds_toArray, List.set_cons_zero, List.set_cons_succ, i64_w, i32_w]
                                            rfl
                                          refine pure_ (i := 4) (N := some 47) (v := ?_) (a' := ?_) #[true, true, true, true, true, false, false, false, false, false, false, false, false, false, false, false] rfl rfl (any_of HT_.out (by kernel_rfl)) (fun _ _ _ h => h) (Or.inl ⟨by rfl, ?_⟩) ?_ ?_
                                          rotate_left
                                          · intro w'
                                            go_simp
                                            with_reducible rfl
                                          rotate_left
                                          · simp only [Act.put, List.setIfInBounds_toArray, List.set_cons_zero, List.set_cons_succ, i64_w, i32_w]
                                            rfl
                                          refine pure_ (i := 5) (N := some 48) (v := ?_) (a' := ?_) #[true, true, true, true, true, true, false, false, false, false, false, false, false, false, false, false] rfl rfl (any_of HT_.out (by kernel_rfl)) (fun _ _ _ h => h) (Or.inl ⟨by rfl, ?_⟩) ?_ ?_
                                          rotate_left
                                          · intro w'
                                            go_simp
                                            with_reducible rfl
                                          rotate_left
                                          · simp only [Act.put, List.setIfInBounds_toArray, List.set_cons_zero, List.set_cons_succ, i64_w, i32_w]
                                            rfl
                                          refine join_ (σ := Nat) 3 #[true, true, true, true, true, true, true, true, true, true, true, true, true, false, false, false] (fun s_ => [(49, .string t202), (50, .tuple #[.agg #[.int .i64 t203, .int .i64 t204, .int .i64 t205, .int .i64 t206, .int .i64 t207, .string t208], .int .i64 t209, .int .i64 t210]), (12, .pointer (some ⟨s_, 0, none⟩)), (42, .tuple #[.agg #[.int .i64 t203, .int .i64 t204, .int .i64 t205, .int .i64 t206, .int .i64 t207, .string t208], .int .i64 t209, .int .i64 t210]), (51, .agg #[.int .i64 t203, .int .i64 t204, .int .i64 t205, .int .i64 t206, .int .i64 t207, .string t208]), (52, .int .i64 t209), (53, .int .i64 t210)]) (fun s_ w' => (w'.heap[gb179]? = some (.cells #[.int .i64 1, .int .i64 258, .int .i64 17, .int .i64 64, .int .i64 7, .string (⟨#[104, 105]⟩ : ByteArray)] 23 (0, 0))) ∧ (w'.heap[gb190]? = some (.cells #[.int .i64 t182, .int .i64 t183, .int .i64 t184, .int .i64 t185, .int .i64 t186, .string t187] 23 (0, 0))) ∧ (w'.heap[gb199]? = some (.cells #[.int .i64 t191, .int .i64 t192, .int .i64 t193, .int .i64 t194, .int .i64 t195, .string t196] 23 (0, 0))) ∧ (w'.heap[s_]? = some (.cells #[.int .i64 0, .int .i64 0, .int .i64 0, .int .i64 0, .int .i64 0, .string (⟨#[]⟩ : ByteArray)] 23 (0, 0))) ∧ (w.heap.size ≤ s_) ∧ (w.heap.size ≤ s_) ∧ (gb179 ≠ s_) ∧ (s_ ≠ gb179) ∧ (gb190 ≠ s_) ∧ (s_ ≠ gb190) ∧ (gb199 ≠ s_) ∧ (s_ ≠ gb199) ∧ (Below w.heap.size w w')) ?_ ?_
                                          rotate_left
                                          · intro hCont
                                            refine two_ (i := 6) (j := 12) (Ni := some 49) (Nj := some 12) #[true, true, true, true, true, true, true, false, false, false, false, false, false, false, false, false] #[true, true, true, true, true, true, false, false, false, false, false, false, true, false, false, false] rfl rfl rfl rfl (two_of HT_.out (by kernel_rfl)) (by decide) (by decide) (fun K hK => ?_) (fun K hK => ?_)
                                            · skip
                                              refine goes_ Try.func22 (by kernel_rfl) rfl #[.string (((t180.extract 0 6) ++ (⟨#[32, 1]⟩ : ByteArray)) ++ (t180.extract 8 t180.size))] (by rfl) rfl rfl (by (try simp only [List.map_toArray, List.map_cons, List.map_nil]); first | done | rfl | (simp only [List.length_drop, List.length_take]; rfl)) ?_
                                              with_reducible refine (wharfagelaw2_whole.calls k (((t180.extract 0 6) ++ (⟨#[32, 1]⟩ : ByteArray)) ++ (t180.extract 8 t180.size)) t202 _ A12.out).mono ?_
                                              rintro e w47 ⟨rfl, hb⟩
                                              refine ⟨_, rfl, ?_⟩
                                              have n0_ := Aside0.mk (blk_below (g := gb179) (o := .cells #[.int .i64 1, .int .i64 258, .int .i64 17, .int .i64 64, .int .i64 7, .string (⟨#[104, 105]⟩ : ByteArray)] 23 (0, 0)) (by (with_reducible repeat (first | refine blk_drewN ?_ _ | refine blk_drew ?_ | refine blk_alloc ?_ _)); exact BK179.out) hb)
                                              have n1_ := Aside0.mk (blk_below (g := gb190) (o := .cells #[.int .i64 t182, .int .i64 t183, .int .i64 t184, .int .i64 t185, .int .i64 t186, .string t187] 23 (0, 0)) (by (with_reducible repeat (first | refine blk_drewN ?_ _ | refine blk_drew ?_ | refine blk_alloc ?_ _)); exact BK190.out) hb)
                                              have n2_ := Aside0.mk (blk_below (g := gb199) (o := .cells #[.int .i64 t191, .int .i64 t192, .int .i64 t193, .int .i64 t194, .int .i64 t195, .string t196] 23 (0, 0)) (by (with_reducible repeat (first | refine blk_drewN ?_ _ | refine blk_drew ?_ | refine blk_alloc ?_ _)); exact BK199.out) hb)
                                              have n3_ := Aside0.mk (below_step (by repeat (first | (with_reducible first | exact HB.out | apply below_alloc | apply pw_below_drewN | apply below_drew1 | refine below_set ?_ GE179.out | refine below_set ?_ GE190.out | refine below_set ?_ GE199.out) | exact HB.out)) hb)
                                              clear BK179
                                              clear BK190
                                              clear BK199
                                              clear HB
                                              have BK179 := n0_
                                              have BK190 := n1_
                                              have BK199 := n2_
                                              have HB := n3_
                                              clear n0_ n1_ n2_ n3_
                                              (try clear hb)
                                              (try clear hb2)
                                              (try clear hk)
                                              (try clear hi)
                                              refine hK.out _ _ trivial (fun hHeld => ?_)
                                              clear hK K
                                              refine norm_ (a' := ?_) ?_ ?_
                                              rotate_left
                                              · show Act.put _ (some 49) _ = _
                                                simp only [Act.put, List.setIfInBounds_toArray, List.set_cons_zero, List.set_cons_succ, i64_w, i32_w]
                                                rfl
                                              refine two_ (i := 7) (j := 12) (Ni := some 50) (Nj := some 12) #[true, true, true, true, true, true, true, true, false, false, false, false, false, false, false, false] #[true, true, true, true, true, true, true, false, false, false, false, false, true, false, false, false] rfl rfl rfl rfl (two_of HT_.out (by kernel_rfl)) (by decide) (by decide) (fun K hK => ?_) (fun K hK => ?_)
                                              · skip
                                                refine goes_ Try.func23 (by kernel_rfl) rfl #[.string t202] (by rfl) rfl rfl (by (try simp only [List.map_toArray, List.map_cons, List.map_nil]); first | done | rfl | (simp only [List.length_drop, List.length_take]; rfl)) ?_
                                                with_reducible refine (ip_Get.calls k t202 t203 t204 t205 t206 t207 t208 t209 t210 _ A13.out).mono ?_
                                                rintro e w48 ⟨rfl, hb⟩
                                                refine ⟨_, rfl, ?_⟩
                                                have n0_ := Aside0.mk (blk_below (g := gb179) (o := .cells #[.int .i64 1, .int .i64 258, .int .i64 17, .int .i64 64, .int .i64 7, .string (⟨#[104, 105]⟩ : ByteArray)] 23 (0, 0)) (by (with_reducible repeat (first | refine blk_drewN ?_ _ | refine blk_drew ?_ | refine blk_alloc ?_ _)); exact BK179.out) hb)
                                                have n1_ := Aside0.mk (blk_below (g := gb190) (o := .cells #[.int .i64 t182, .int .i64 t183, .int .i64 t184, .int .i64 t185, .int .i64 t186, .string t187] 23 (0, 0)) (by (with_reducible repeat (first | refine blk_drewN ?_ _ | refine blk_drew ?_ | refine blk_alloc ?_ _)); exact BK190.out) hb)
                                                have n2_ := Aside0.mk (blk_below (g := gb199) (o := .cells #[.int .i64 t191, .int .i64 t192, .int .i64 t193, .int .i64 t194, .int .i64 t195, .string t196] 23 (0, 0)) (by (with_reducible repeat (first | refine blk_drewN ?_ _ | refine blk_drew ?_ | refine blk_alloc ?_ _)); exact BK199.out) hb)
                                                have n3_ := Aside0.mk (below_step (by repeat (first | (with_reducible first | exact HB.out | apply below_alloc | apply pw_below_drewN | apply below_drew1 | refine below_set ?_ GE179.out | refine below_set ?_ GE190.out | refine below_set ?_ GE199.out) | exact HB.out)) hb)
                                                clear BK179
                                                clear BK190
                                                clear BK199
                                                clear HB
                                                have BK179 := n0_
                                                have BK190 := n1_
                                                have BK199 := n2_
                                                have HB := n3_
                                                clear n0_ n1_ n2_ n3_
                                                (try clear hb)
                                                (try clear hb2)
                                                (try clear hk)
                                                (try clear hi)
                                                refine hK.out _ _ trivial (fun hHeld => ?_)
                                                clear hK K
                                                refine norm_ (a' := ?_) ?_ ?_
                                                rotate_left
                                                · show Act.put _ (some 50) _ = _
                                                  simp only [Act.put, List.setIfInBounds_toArray, List.set_cons_zero, List.set_cons_succ, i64_w, i32_w]
                                                  rfl
                                                refine pure_ (i := 8) (N := some 42) (v := ?_) (a' := ?_) #[true, true, true, true, true, true, true, true, true, false, false, false, false, false, false, false] rfl rfl (any_of HT_.out (by kernel_rfl)) (fun _ _ _ h => h) (Or.inl ⟨by rfl, ?_⟩) ?_ ?_
                                                rotate_left
                                                · intro w'
                                                  go_simp
                                                  with_reducible rfl
                                                rotate_left
                                                · simp only [Act.put, List.setIfInBounds_toArray, List.set_cons_zero, List.set_cons_succ, i64_w, i32_w]
                                                  rfl
                                                refine pure_ (i := 9) (N := some 51) (v := ?_) (a' := ?_) #[true, true, true, true, true, true, true, true, true, true, false, false, false, false, false, false] rfl rfl (any_of HT_.out (by kernel_rfl)) (fun _ _ _ h => h) (Or.inl ⟨by rfl, ?_⟩) ?_ ?_
                                                rotate_left
                                                · intro w'
                                                  go_simp
                                                  with_reducible rfl
                                                rotate_left
                                                · simp only [Act.put, List.setIfInBounds_toArray, List.set_cons_zero, List.set_cons_succ, i64_w, i32_w]
                                                  rfl
                                                refine pure_ (i := 10) (N := some 52) (v := ?_) (a' := ?_) #[true, true, true, true, true, true, true, true, true, true, true, false, false, false, false, false] rfl rfl (any_of HT_.out (by kernel_rfl)) (fun _ _ _ h => h) (Or.inl ⟨by rfl, ?_⟩) ?_ ?_
                                                rotate_left
                                                · intro w'
                                                  go_simp
                                                  with_reducible rfl
                                                rotate_left
                                                · simp only [Act.put, List.setIfInBounds_toArray, List.set_cons_zero, List.set_cons_succ, i64_w, i32_w]
                                                  rfl
                                                refine pure_ (i := 11) (N := some 53) (v := ?_) (a' := ?_) #[true, true, true, true, true, true, true, true, true, true, true, true, false, false, false, false] rfl rfl (any_of HT_.out (by kernel_rfl)) (fun _ _ _ h => h) (Or.inl ⟨by rfl, ?_⟩) ?_ ?_
                                                rotate_left
                                                · intro w'
                                                  go_simp
                                                  with_reducible rfl
                                                rotate_left
                                                · simp only [Act.put, List.setIfInBounds_toArray, List.set_cons_zero, List.set_cons_succ, i64_w, i32_w]
                                                  rfl
                                                refine one_ (i := 12) (N := some 12) #[true, true, true, true, true, true, true, true, true, true, true, true, true, false, false, false] rfl rfl (one_of HT_.out (by kernel_rfl)) (by decide) (fun K hK => ?_)
                                                refine box_step ?hg (N := 12) ?hd (cs := #[.int .i64 0, .int .i64 0, .int .i64 0, .int .i64 0, .int .i64 0, .string (⟨#[]⟩ : ByteArray)]) (t := 23) ?hr ?_; (case hd => rfl); (case hg => rfl); (case hr => first | (go_simp; done) | (go_simp; rfl))
                                                intro gb211 hg w49 hbox hb
                                                have n0_ := Aside0.mk (blk_below (g := gb179) (o := .cells #[.int .i64 1, .int .i64 258, .int .i64 17, .int .i64 64, .int .i64 7, .string (⟨#[104, 105]⟩ : ByteArray)] 23 (0, 0)) (by (with_reducible repeat (first | refine blk_drewN ?_ _ | refine blk_drew ?_ | refine blk_alloc ?_ _)); exact BK179.out) hb)
                                                have n1_ := Aside0.mk (blk_below (g := gb190) (o := .cells #[.int .i64 t182, .int .i64 t183, .int .i64 t184, .int .i64 t185, .int .i64 t186, .string t187] 23 (0, 0)) (by (with_reducible repeat (first | refine blk_drewN ?_ _ | refine blk_drew ?_ | refine blk_alloc ?_ _)); exact BK190.out) hb)
                                                have n2_ := Aside0.mk (blk_below (g := gb199) (o := .cells #[.int .i64 t191, .int .i64 t192, .int .i64 t193, .int .i64 t194, .int .i64 t195, .string t196] 23 (0, 0)) (by (with_reducible repeat (first | refine blk_drewN ?_ _ | refine blk_drew ?_ | refine blk_alloc ?_ _)); exact BK199.out) hb)
                                                have n3_ := Aside0.mk (below_step (by repeat (first | (with_reducible first | exact HB.out | apply below_alloc | apply pw_below_drewN | apply below_drew1 | refine below_set ?_ GE179.out | refine below_set ?_ GE190.out | refine below_set ?_ GE199.out) | exact HB.out)) hb)
                                                have n4_ := Aside0.mk (hbox)
                                                have n5_ := Aside0.mk ((by rw [hg]; exact (below_size (by repeat (first | (with_reducible first | exact HB.out | apply below_alloc | apply pw_below_drewN | apply below_drew1 | refine below_set ?_ GE179.out | refine below_set ?_ GE190.out | refine below_set ?_ GE199.out) | exact HB.out))) : w.heap.size ≤ gb211))
                                                have n6_ := Aside0.mk ((by rw [hg]; exact (below_size (by repeat (first | (with_reducible first | exact HB.out | apply below_alloc | apply pw_below_drewN | apply below_drew1 | refine below_set ?_ GE179.out | refine below_set ?_ GE190.out | refine below_set ?_ GE199.out) | exact HB.out))) : w.heap.size ≤ gb211))
                                                have n7_ := Aside0.mk ((by rw [hg]; exact Nat.ne_of_lt (blk_lt (g := gb179) (o := .cells #[.int .i64 1, .int .i64 258, .int .i64 17, .int .i64 64, .int .i64 7, .string (⟨#[104, 105]⟩ : ByteArray)] 23 (0, 0)) (by (with_reducible repeat (first | refine blk_drewN ?_ _ | refine blk_drew ?_ | refine blk_alloc ?_ _)); exact BK179.out)) : gb179 ≠ gb211))
                                                have n8_ := Aside0.mk ((by rw [hg]; exact Nat.ne_of_gt (blk_lt (g := gb179) (o := .cells #[.int .i64 1, .int .i64 258, .int .i64 17, .int .i64 64, .int .i64 7, .string (⟨#[104, 105]⟩ : ByteArray)] 23 (0, 0)) (by (with_reducible repeat (first | refine blk_drewN ?_ _ | refine blk_drew ?_ | refine blk_alloc ?_ _)); exact BK179.out)) : gb211 ≠ gb179))
                                                have n9_ := Aside0.mk ((by rw [hg]; exact Nat.ne_of_lt (blk_lt (g := gb190) (o := .cells #[.int .i64 t182, .int .i64 t183, .int .i64 t184, .int .i64 t185, .int .i64 t186, .string t187] 23 (0, 0)) (by (with_reducible repeat (first | refine blk_drewN ?_ _ | refine blk_drew ?_ | refine blk_alloc ?_ _)); exact BK190.out)) : gb190 ≠ gb211))
                                                have n10_ := Aside0.mk ((by rw [hg]; exact Nat.ne_of_gt (blk_lt (g := gb190) (o := .cells #[.int .i64 t182, .int .i64 t183, .int .i64 t184, .int .i64 t185, .int .i64 t186, .string t187] 23 (0, 0)) (by (with_reducible repeat (first | refine blk_drewN ?_ _ | refine blk_drew ?_ | refine blk_alloc ?_ _)); exact BK190.out)) : gb211 ≠ gb190))
                                                have n11_ := Aside0.mk ((by rw [hg]; exact Nat.ne_of_lt (blk_lt (g := gb199) (o := .cells #[.int .i64 t191, .int .i64 t192, .int .i64 t193, .int .i64 t194, .int .i64 t195, .string t196] 23 (0, 0)) (by (with_reducible repeat (first | refine blk_drewN ?_ _ | refine blk_drew ?_ | refine blk_alloc ?_ _)); exact BK199.out)) : gb199 ≠ gb211))
                                                have n12_ := Aside0.mk ((by rw [hg]; exact Nat.ne_of_gt (blk_lt (g := gb199) (o := .cells #[.int .i64 t191, .int .i64 t192, .int .i64 t193, .int .i64 t194, .int .i64 t195, .string t196] 23 (0, 0)) (by (with_reducible repeat (first | refine blk_drewN ?_ _ | refine blk_drew ?_ | refine blk_alloc ?_ _)); exact BK199.out)) : gb211 ≠ gb199))
                                                clear BK179
                                                clear BK190
                                                clear BK199
                                                clear HB
                                                have BK179 := n0_
                                                have BK190 := n1_
                                                have BK199 := n2_
                                                have HB := n3_
                                                have BK211 := n4_
                                                have GW211 := n5_
                                                have GE211 := n6_
                                                have NB179_211 := n7_
                                                have NB211_179 := n8_
                                                have NB190_211 := n9_
                                                have NB211_190 := n10_
                                                have NB199_211 := n11_
                                                have NB211_199 := n12_
                                                clear n0_ n1_ n2_ n3_ n4_ n5_ n6_ n7_ n8_ n9_ n10_ n11_ n12_
                                                clear hb hbox hg
                                                refine hK.out _ _ trivial (fun hHeld => ?_)
                                                clear hK K
                                                refine norm_ (a' := ?_) ?_ ?_
                                                rotate_left
                                                · show Act.put _ (some 12) _ = _
                                                  simp only [Act.put, List.setIfInBounds_toArray, List.set_cons_zero, List.set_cons_succ, i64_w, i32_w]
                                                  rfl
                                                exact norm_ (by simp only [putAll, Act.put, List.setIfInBounds_toArray, List.set_cons_zero, List.set_cons_succ]) (hCont (gb211) _ ⟨(by (with_reducible repeat (first | refine blk_drewN ?_ _ | refine blk_drew ?_ | refine blk_alloc ?_ _)); exact BK179.out), (by (with_reducible repeat (first | refine blk_drewN ?_ _ | refine blk_drew ?_ | refine blk_alloc ?_ _)); exact BK190.out), (by (with_reducible repeat (first | refine blk_drewN ?_ _ | refine blk_drew ?_ | refine blk_alloc ?_ _)); exact BK199.out), (by (with_reducible repeat (first | refine blk_drewN ?_ _ | refine blk_drew ?_ | refine blk_alloc ?_ _)); exact BK211.out), GW211.out, GE211.out, NB179_211.out, NB211_179.out, NB190_211.out, NB211_190.out, NB199_211.out, NB211_199.out, (by repeat (first | (with_reducible first | exact HB.out | apply below_alloc | apply pw_below_drewN | apply below_drew1 | refine below_set ?_ GE179.out | refine below_set ?_ GE190.out | refine below_set ?_ GE199.out | refine below_set ?_ GE211.out) | exact HB.out))⟩)
                                              · skip
                                                refine box_step ?hg (N := 12) ?hd (cs := #[.int .i64 0, .int .i64 0, .int .i64 0, .int .i64 0, .int .i64 0, .string (⟨#[]⟩ : ByteArray)]) (t := 23) ?hr ?_; (case hd => rfl); (case hg => rfl); (case hr => first | (go_simp; done) | (go_simp; rfl))
                                                intro gb211 hg w48 hbox hb
                                                have n0_ := Aside0.mk (blk_below (g := gb179) (o := .cells #[.int .i64 1, .int .i64 258, .int .i64 17, .int .i64 64, .int .i64 7, .string (⟨#[104, 105]⟩ : ByteArray)] 23 (0, 0)) (by (with_reducible repeat (first | refine blk_drewN ?_ _ | refine blk_drew ?_ | refine blk_alloc ?_ _)); exact BK179.out) hb)
                                                have n1_ := Aside0.mk (blk_below (g := gb190) (o := .cells #[.int .i64 t182, .int .i64 t183, .int .i64 t184, .int .i64 t185, .int .i64 t186, .string t187] 23 (0, 0)) (by (with_reducible repeat (first | refine blk_drewN ?_ _ | refine blk_drew ?_ | refine blk_alloc ?_ _)); exact BK190.out) hb)
                                                have n2_ := Aside0.mk (blk_below (g := gb199) (o := .cells #[.int .i64 t191, .int .i64 t192, .int .i64 t193, .int .i64 t194, .int .i64 t195, .string t196] 23 (0, 0)) (by (with_reducible repeat (first | refine blk_drewN ?_ _ | refine blk_drew ?_ | refine blk_alloc ?_ _)); exact BK199.out) hb)
                                                have n3_ := Aside0.mk (below_step (by repeat (first | (with_reducible first | exact HB.out | apply below_alloc | apply pw_below_drewN | apply below_drew1 | refine below_set ?_ GE179.out | refine below_set ?_ GE190.out | refine below_set ?_ GE199.out) | exact HB.out)) hb)
                                                have n4_ := Aside0.mk (hbox)
                                                have n5_ := Aside0.mk ((by rw [hg]; exact (below_size (by repeat (first | (with_reducible first | exact HB.out | apply below_alloc | apply pw_below_drewN | apply below_drew1 | refine below_set ?_ GE179.out | refine below_set ?_ GE190.out | refine below_set ?_ GE199.out) | exact HB.out))) : w.heap.size ≤ gb211))
                                                have n6_ := Aside0.mk ((by rw [hg]; exact (below_size (by repeat (first | (with_reducible first | exact HB.out | apply below_alloc | apply pw_below_drewN | apply below_drew1 | refine below_set ?_ GE179.out | refine below_set ?_ GE190.out | refine below_set ?_ GE199.out) | exact HB.out))) : w.heap.size ≤ gb211))
                                                have n7_ := Aside0.mk ((by rw [hg]; exact Nat.ne_of_lt (blk_lt (g := gb179) (o := .cells #[.int .i64 1, .int .i64 258, .int .i64 17, .int .i64 64, .int .i64 7, .string (⟨#[104, 105]⟩ : ByteArray)] 23 (0, 0)) (by (with_reducible repeat (first | refine blk_drewN ?_ _ | refine blk_drew ?_ | refine blk_alloc ?_ _)); exact BK179.out)) : gb179 ≠ gb211))
                                                have n8_ := Aside0.mk ((by rw [hg]; exact Nat.ne_of_gt (blk_lt (g := gb179) (o := .cells #[.int .i64 1, .int .i64 258, .int .i64 17, .int .i64 64, .int .i64 7, .string (⟨#[104, 105]⟩ : ByteArray)] 23 (0, 0)) (by (with_reducible repeat (first | refine blk_drewN ?_ _ | refine blk_drew ?_ | refine blk_alloc ?_ _)); exact BK179.out)) : gb211 ≠ gb179))
                                                have n9_ := Aside0.mk ((by rw [hg]; exact Nat.ne_of_lt (blk_lt (g := gb190) (o := .cells #[.int .i64 t182, .int .i64 t183, .int .i64 t184, .int .i64 t185, .int .i64 t186, .string t187] 23 (0, 0)) (by (with_reducible repeat (first | refine blk_drewN ?_ _ | refine blk_drew ?_ | refine blk_alloc ?_ _)); exact BK190.out)) : gb190 ≠ gb211))
                                                have n10_ := Aside0.mk ((by rw [hg]; exact Nat.ne_of_gt (blk_lt (g := gb190) (o := .cells #[.int .i64 t182, .int .i64 t183, .int .i64 t184, .int .i64 t185, .int .i64 t186, .string t187] 23 (0, 0)) (by (with_reducible repeat (first | refine blk_drewN ?_ _ | refine blk_drew ?_ | refine blk_alloc ?_ _)); exact BK190.out)) : gb211 ≠ gb190))
                                                have n11_ := Aside0.mk ((by rw [hg]; exact Nat.ne_of_lt (blk_lt (g := gb199) (o := .cells #[.int .i64 t191, .int .i64 t192, .int .i64 t193, .int .i64 t194, .int .i64 t195, .string t196] 23 (0, 0)) (by (with_reducible repeat (first | refine blk_drewN ?_ _ | refine blk_drew ?_ | refine blk_alloc ?_ _)); exact BK199.out)) : gb199 ≠ gb211))
                                                have n12_ := Aside0.mk ((by rw [hg]; exact Nat.ne_of_gt (blk_lt (g := gb199) (o := .cells #[.int .i64 t191, .int .i64 t192, .int .i64 t193, .int .i64 t194, .int .i64 t195, .string t196] 23 (0, 0)) (by (with_reducible repeat (first | refine blk_drewN ?_ _ | refine blk_drew ?_ | refine blk_alloc ?_ _)); exact BK199.out)) : gb211 ≠ gb199))
                                                clear BK179
                                                clear BK190
                                                clear BK199
                                                clear HB
                                                have BK179 := n0_
                                                have BK190 := n1_
                                                have BK199 := n2_
                                                have HB := n3_
                                                have BK211 := n4_
                                                have GW211 := n5_
                                                have GE211 := n6_
                                                have NB179_211 := n7_
                                                have NB211_179 := n8_
                                                have NB190_211 := n9_
                                                have NB211_190 := n10_
                                                have NB199_211 := n11_
                                                have NB211_199 := n12_
                                                clear n0_ n1_ n2_ n3_ n4_ n5_ n6_ n7_ n8_ n9_ n10_ n11_ n12_
                                                clear hb hbox hg
                                                refine hK.out _ _ trivial (fun hHeld => ?_)
                                                clear hK K
                                                refine norm_ (a' := ?_) ?_ ?_
                                                rotate_left
                                                · show Act.put _ (some 12) _ = _
                                                  simp only [Act.put, List.setIfInBounds_toArray, List.set_cons_zero, List.set_cons_succ, i64_w, i32_w]
                                                  rfl
                                                refine one_ (i := 7) (N := some 50) #[true, true, true, true, true, true, true, true, false, false, false, false, true, false, false, false] rfl rfl (one_of HT_.out (by kernel_rfl)) (by decide) (fun K hK => ?_)
                                                refine goes_ Try.func23 (by kernel_rfl) rfl #[.string t202] (by rfl) rfl rfl (by (try simp only [List.map_toArray, List.map_cons, List.map_nil]); first | done | rfl | (simp only [List.length_drop, List.length_take]; rfl)) ?_
                                                with_reducible refine (ip_Get.calls k t202 t203 t204 t205 t206 t207 t208 t209 t210 _ A13.out).mono ?_
                                                rintro e w49 ⟨rfl, hb⟩
                                                refine ⟨_, rfl, ?_⟩
                                                have n0_ := Aside0.mk (blk_below (g := gb179) (o := .cells #[.int .i64 1, .int .i64 258, .int .i64 17, .int .i64 64, .int .i64 7, .string (⟨#[104, 105]⟩ : ByteArray)] 23 (0, 0)) (by (with_reducible repeat (first | refine blk_drewN ?_ _ | refine blk_drew ?_ | refine blk_alloc ?_ _)); exact BK179.out) hb)
                                                have n1_ := Aside0.mk (blk_below (g := gb190) (o := .cells #[.int .i64 t182, .int .i64 t183, .int .i64 t184, .int .i64 t185, .int .i64 t186, .string t187] 23 (0, 0)) (by (with_reducible repeat (first | refine blk_drewN ?_ _ | refine blk_drew ?_ | refine blk_alloc ?_ _)); exact BK190.out) hb)
                                                have n2_ := Aside0.mk (blk_below (g := gb199) (o := .cells #[.int .i64 t191, .int .i64 t192, .int .i64 t193, .int .i64 t194, .int .i64 t195, .string t196] 23 (0, 0)) (by (with_reducible repeat (first | refine blk_drewN ?_ _ | refine blk_drew ?_ | refine blk_alloc ?_ _)); exact BK199.out) hb)
                                                have n3_ := Aside0.mk (blk_below (g := gb211) (o := .cells #[.int .i64 0, .int .i64 0, .int .i64 0, .int .i64 0, .int .i64 0, .string (⟨#[]⟩ : ByteArray)] 23 (0, 0)) (by (with_reducible repeat (first | refine blk_drewN ?_ _ | refine blk_drew ?_ | refine blk_alloc ?_ _)); exact BK211.out) hb)
                                                have n4_ := Aside0.mk (below_step (by repeat (first | (with_reducible first | exact HB.out | apply below_alloc | apply pw_below_drewN | apply below_drew1 | refine below_set ?_ GE179.out | refine below_set ?_ GE190.out | refine below_set ?_ GE199.out | refine below_set ?_ GE211.out) | exact HB.out)) hb)
                                                clear BK179
                                                clear BK190
                                                clear BK199
                                                clear BK211
                                                clear HB
                                                have BK179 := n0_
                                                have BK190 := n1_
                                                have BK199 := n2_
                                                have BK211 := n3_
                                                have HB := n4_
                                                clear n0_ n1_ n2_ n3_ n4_
                                                (try clear hb)
                                                (try clear hb2)
                                                (try clear hk)
                                                (try clear hi)
                                                refine hK.out _ _ trivial (fun hHeld => ?_)
                                                clear hK K
                                                refine norm_ (a' := ?_) ?_ ?_
                                                rotate_left
                                                · show Act.put _ (some 50) _ = _
                                                  simp only [Act.put, List.setIfInBounds_toArray, List.set_cons_zero, List.set_cons_succ, i64_w, i32_w]
                                                  rfl
                                                refine pure_ (i := 8) (N := some 42) (v := ?_) (a' := ?_) #[true, true, true, true, true, true, true, true, true, false, false, false, true, false, false, false] rfl rfl (any_of HT_.out (by kernel_rfl)) (fun _ _ _ h => h) (Or.inl ⟨by rfl, ?_⟩) ?_ ?_
                                                rotate_left
                                                · intro w'
                                                  go_simp
                                                  with_reducible rfl
                                                rotate_left
                                                · simp only [Act.put, List.setIfInBounds_toArray, List.set_cons_zero, List.set_cons_succ, i64_w, i32_w]
                                                  rfl
                                                refine pure_ (i := 9) (N := some 51) (v := ?_) (a' := ?_) #[true, true, true, true, true, true, true, true, true, true, false, false, true, false, false, false] rfl rfl (any_of HT_.out (by kernel_rfl)) (fun _ _ _ h => h) (Or.inl ⟨by rfl, ?_⟩) ?_ ?_
                                                rotate_left
                                                · intro w'
                                                  go_simp
                                                  with_reducible rfl
                                                rotate_left
                                                · simp only [Act.put, List.setIfInBounds_toArray, List.set_cons_zero, List.set_cons_succ, i64_w, i32_w]
                                                  rfl
                                                refine pure_ (i := 10) (N := some 52) (v := ?_) (a' := ?_) #[true, true, true, true, true, true, true, true, true, true, true, false, true, false, false, false] rfl rfl (any_of HT_.out (by kernel_rfl)) (fun _ _ _ h => h) (Or.inl ⟨by rfl, ?_⟩) ?_ ?_
                                                rotate_left
                                                · intro w'
                                                  go_simp
                                                  with_reducible rfl
                                                rotate_left
                                                · simp only [Act.put, List.setIfInBounds_toArray, List.set_cons_zero, List.set_cons_succ, i64_w, i32_w]
                                                  rfl
                                                refine pure_ (i := 11) (N := some 53) (v := ?_) (a' := ?_) #[true, true, true, true, true, true, true, true, true, true, true, true, true, false, false, false] rfl rfl (any_of HT_.out (by kernel_rfl)) (fun _ _ _ h => h) (Or.inl ⟨by rfl, ?_⟩) ?_ ?_
                                                rotate_left
                                                · intro w'
                                                  go_simp
                                                  with_reducible rfl
                                                rotate_left
                                                · simp only [Act.put, List.setIfInBounds_toArray, List.set_cons_zero, List.set_cons_succ, i64_w, i32_w]
                                                  rfl
                                                exact norm_ (by simp only [putAll, Act.put, List.setIfInBounds_toArray, List.set_cons_zero, List.set_cons_succ]) (hCont (gb211) _ ⟨(by (with_reducible repeat (first | refine blk_drewN ?_ _ | refine blk_drew ?_ | refine blk_alloc ?_ _)); exact BK179.out), (by (with_reducible repeat (first | refine blk_drewN ?_ _ | refine blk_drew ?_ | refine blk_alloc ?_ _)); exact BK190.out), (by (with_reducible repeat (first | refine blk_drewN ?_ _ | refine blk_drew ?_ | refine blk_alloc ?_ _)); exact BK199.out), (by (with_reducible repeat (first | refine blk_drewN ?_ _ | refine blk_drew ?_ | refine blk_alloc ?_ _)); exact BK211.out), GW211.out, GE211.out, NB179_211.out, NB211_179.out, NB190_211.out, NB211_190.out, NB199_211.out, NB211_199.out, (by repeat (first | (with_reducible first | exact HB.out | apply below_alloc | apply pw_below_drewN | apply below_drew1 | refine below_set ?_ GE179.out | refine below_set ?_ GE190.out | refine below_set ?_ GE199.out | refine below_set ?_ GE211.out) | exact HB.out))⟩)
                                            · skip
                                              refine box_step ?hg (N := 12) ?hd (cs := #[.int .i64 0, .int .i64 0, .int .i64 0, .int .i64 0, .int .i64 0, .string (⟨#[]⟩ : ByteArray)]) (t := 23) ?hr ?_; (case hd => rfl); (case hg => rfl); (case hr => first | (go_simp; done) | (go_simp; rfl))
                                              intro gb211 hg w47 hbox hb
                                              have n0_ := Aside0.mk (blk_below (g := gb179) (o := .cells #[.int .i64 1, .int .i64 258, .int .i64 17, .int .i64 64, .int .i64 7, .string (⟨#[104, 105]⟩ : ByteArray)] 23 (0, 0)) (by (with_reducible repeat (first | refine blk_drewN ?_ _ | refine blk_drew ?_ | refine blk_alloc ?_ _)); exact BK179.out) hb)
                                              have n1_ := Aside0.mk (blk_below (g := gb190) (o := .cells #[.int .i64 t182, .int .i64 t183, .int .i64 t184, .int .i64 t185, .int .i64 t186, .string t187] 23 (0, 0)) (by (with_reducible repeat (first | refine blk_drewN ?_ _ | refine blk_drew ?_ | refine blk_alloc ?_ _)); exact BK190.out) hb)
                                              have n2_ := Aside0.mk (blk_below (g := gb199) (o := .cells #[.int .i64 t191, .int .i64 t192, .int .i64 t193, .int .i64 t194, .int .i64 t195, .string t196] 23 (0, 0)) (by (with_reducible repeat (first | refine blk_drewN ?_ _ | refine blk_drew ?_ | refine blk_alloc ?_ _)); exact BK199.out) hb)
                                              have n3_ := Aside0.mk (below_step (by repeat (first | (with_reducible first | exact HB.out | apply below_alloc | apply pw_below_drewN | apply below_drew1 | refine below_set ?_ GE179.out | refine below_set ?_ GE190.out | refine below_set ?_ GE199.out) | exact HB.out)) hb)
                                              have n4_ := Aside0.mk (hbox)
                                              have n5_ := Aside0.mk ((by rw [hg]; exact (below_size (by repeat (first | (with_reducible first | exact HB.out | apply below_alloc | apply pw_below_drewN | apply below_drew1 | refine below_set ?_ GE179.out | refine below_set ?_ GE190.out | refine below_set ?_ GE199.out) | exact HB.out))) : w.heap.size ≤ gb211))
                                              have n6_ := Aside0.mk ((by rw [hg]; exact (below_size (by repeat (first | (with_reducible first | exact HB.out | apply below_alloc | apply pw_below_drewN | apply below_drew1 | refine below_set ?_ GE179.out | refine below_set ?_ GE190.out | refine below_set ?_ GE199.out) | exact HB.out))) : w.heap.size ≤ gb211))
                                              have n7_ := Aside0.mk ((by rw [hg]; exact Nat.ne_of_lt (blk_lt (g := gb179) (o := .cells #[.int .i64 1, .int .i64 258, .int .i64 17, .int .i64 64, .int .i64 7, .string (⟨#[104, 105]⟩ : ByteArray)] 23 (0, 0)) (by (with_reducible repeat (first | refine blk_drewN ?_ _ | refine blk_drew ?_ | refine blk_alloc ?_ _)); exact BK179.out)) : gb179 ≠ gb211))
                                              have n8_ := Aside0.mk ((by rw [hg]; exact Nat.ne_of_gt (blk_lt (g := gb179) (o := .cells #[.int .i64 1, .int .i64 258, .int .i64 17, .int .i64 64, .int .i64 7, .string (⟨#[104, 105]⟩ : ByteArray)] 23 (0, 0)) (by (with_reducible repeat (first | refine blk_drewN ?_ _ | refine blk_drew ?_ | refine blk_alloc ?_ _)); exact BK179.out)) : gb211 ≠ gb179))
                                              have n9_ := Aside0.mk ((by rw [hg]; exact Nat.ne_of_lt (blk_lt (g := gb190) (o := .cells #[.int .i64 t182, .int .i64 t183, .int .i64 t184, .int .i64 t185, .int .i64 t186, .string t187] 23 (0, 0)) (by (with_reducible repeat (first | refine blk_drewN ?_ _ | refine blk_drew ?_ | refine blk_alloc ?_ _)); exact BK190.out)) : gb190 ≠ gb211))
                                              have n10_ := Aside0.mk ((by rw [hg]; exact Nat.ne_of_gt (blk_lt (g := gb190) (o := .cells #[.int .i64 t182, .int .i64 t183, .int .i64 t184, .int .i64 t185, .int .i64 t186, .string t187] 23 (0, 0)) (by (with_reducible repeat (first | refine blk_drewN ?_ _ | refine blk_drew ?_ | refine blk_alloc ?_ _)); exact BK190.out)) : gb211 ≠ gb190))
                                              have n11_ := Aside0.mk ((by rw [hg]; exact Nat.ne_of_lt (blk_lt (g := gb199) (o := .cells #[.int .i64 t191, .int .i64 t192, .int .i64 t193, .int .i64 t194, .int .i64 t195, .string t196] 23 (0, 0)) (by (with_reducible repeat (first | refine blk_drewN ?_ _ | refine blk_drew ?_ | refine blk_alloc ?_ _)); exact BK199.out)) : gb199 ≠ gb211))
                                              have n12_ := Aside0.mk ((by rw [hg]; exact Nat.ne_of_gt (blk_lt (g := gb199) (o := .cells #[.int .i64 t191, .int .i64 t192, .int .i64 t193, .int .i64 t194, .int .i64 t195, .string t196] 23 (0, 0)) (by (with_reducible repeat (first | refine blk_drewN ?_ _ | refine blk_drew ?_ | refine blk_alloc ?_ _)); exact BK199.out)) : gb211 ≠ gb199))
                                              clear BK179
                                              clear BK190
                                              clear BK199
                                              clear HB
                                              have BK179 := n0_
                                              have BK190 := n1_
                                              have BK199 := n2_
                                              have HB := n3_
                                              have BK211 := n4_
                                              have GW211 := n5_
                                              have GE211 := n6_
                                              have NB179_211 := n7_
                                              have NB211_179 := n8_
                                              have NB190_211 := n9_
                                              have NB211_190 := n10_
                                              have NB199_211 := n11_
                                              have NB211_199 := n12_
                                              clear n0_ n1_ n2_ n3_ n4_ n5_ n6_ n7_ n8_ n9_ n10_ n11_ n12_
                                              clear hb hbox hg
                                              refine hK.out _ _ trivial (fun hHeld => ?_)
                                              clear hK K
                                              refine norm_ (a' := ?_) ?_ ?_
                                              rotate_left
                                              · show Act.put _ (some 12) _ = _
                                                simp only [Act.put, List.setIfInBounds_toArray, List.set_cons_zero, List.set_cons_succ, i64_w, i32_w]
                                                rfl
                                              refine one_ (i := 6) (N := some 49) #[true, true, true, true, true, true, true, false, false, false, false, false, true, false, false, false] rfl rfl (one_of HT_.out (by kernel_rfl)) (by decide) (fun K hK => ?_)
                                              refine goes_ Try.func22 (by kernel_rfl) rfl #[.string (((t180.extract 0 6) ++ (⟨#[32, 1]⟩ : ByteArray)) ++ (t180.extract 8 t180.size))] (by rfl) rfl rfl (by (try simp only [List.map_toArray, List.map_cons, List.map_nil]); first | done | rfl | (simp only [List.length_drop, List.length_take]; rfl)) ?_
                                              with_reducible refine (wharfagelaw2_whole.calls k (((t180.extract 0 6) ++ (⟨#[32, 1]⟩ : ByteArray)) ++ (t180.extract 8 t180.size)) t202 _ A12.out).mono ?_
                                              rintro e w48 ⟨rfl, hb⟩
                                              refine ⟨_, rfl, ?_⟩
                                              have n0_ := Aside0.mk (blk_below (g := gb179) (o := .cells #[.int .i64 1, .int .i64 258, .int .i64 17, .int .i64 64, .int .i64 7, .string (⟨#[104, 105]⟩ : ByteArray)] 23 (0, 0)) (by (with_reducible repeat (first | refine blk_drewN ?_ _ | refine blk_drew ?_ | refine blk_alloc ?_ _)); exact BK179.out) hb)
                                              have n1_ := Aside0.mk (blk_below (g := gb190) (o := .cells #[.int .i64 t182, .int .i64 t183, .int .i64 t184, .int .i64 t185, .int .i64 t186, .string t187] 23 (0, 0)) (by (with_reducible repeat (first | refine blk_drewN ?_ _ | refine blk_drew ?_ | refine blk_alloc ?_ _)); exact BK190.out) hb)
                                              have n2_ := Aside0.mk (blk_below (g := gb199) (o := .cells #[.int .i64 t191, .int .i64 t192, .int .i64 t193, .int .i64 t194, .int .i64 t195, .string t196] 23 (0, 0)) (by (with_reducible repeat (first | refine blk_drewN ?_ _ | refine blk_drew ?_ | refine blk_alloc ?_ _)); exact BK199.out) hb)
                                              have n3_ := Aside0.mk (blk_below (g := gb211) (o := .cells #[.int .i64 0, .int .i64 0, .int .i64 0, .int .i64 0, .int .i64 0, .string (⟨#[]⟩ : ByteArray)] 23 (0, 0)) (by (with_reducible repeat (first | refine blk_drewN ?_ _ | refine blk_drew ?_ | refine blk_alloc ?_ _)); exact BK211.out) hb)
                                              have n4_ := Aside0.mk (below_step (by repeat (first | (with_reducible first | exact HB.out | apply below_alloc | apply pw_below_drewN | apply below_drew1 | refine below_set ?_ GE179.out | refine below_set ?_ GE190.out | refine below_set ?_ GE199.out | refine below_set ?_ GE211.out) | exact HB.out)) hb)
                                              clear BK179
                                              clear BK190
                                              clear BK199
                                              clear BK211
                                              clear HB
                                              have BK179 := n0_
                                              have BK190 := n1_
                                              have BK199 := n2_
                                              have BK211 := n3_
                                              have HB := n4_
                                              clear n0_ n1_ n2_ n3_ n4_
                                              (try clear hb)
                                              (try clear hb2)
                                              (try clear hk)
                                              (try clear hi)
                                              refine hK.out _ _ trivial (fun hHeld => ?_)
                                              clear hK K
                                              refine norm_ (a' := ?_) ?_ ?_
                                              rotate_left
                                              · show Act.put _ (some 49) _ = _
                                                simp only [Act.put, List.setIfInBounds_toArray, List.set_cons_zero, List.set_cons_succ, i64_w, i32_w]
                                                rfl
                                              refine one_ (i := 7) (N := some 50) #[true, true, true, true, true, true, true, true, false, false, false, false, true, false, false, false] rfl rfl (one_of HT_.out (by kernel_rfl)) (by decide) (fun K hK => ?_)
                                              refine goes_ Try.func23 (by kernel_rfl) rfl #[.string t202] (by rfl) rfl rfl (by (try simp only [List.map_toArray, List.map_cons, List.map_nil]); first | done | rfl | (simp only [List.length_drop, List.length_take]; rfl)) ?_
                                              with_reducible refine (ip_Get.calls k t202 t203 t204 t205 t206 t207 t208 t209 t210 _ A13.out).mono ?_
                                              rintro e w49 ⟨rfl, hb⟩
                                              refine ⟨_, rfl, ?_⟩
                                              have n0_ := Aside0.mk (blk_below (g := gb179) (o := .cells #[.int .i64 1, .int .i64 258, .int .i64 17, .int .i64 64, .int .i64 7, .string (⟨#[104, 105]⟩ : ByteArray)] 23 (0, 0)) (by (with_reducible repeat (first | refine blk_drewN ?_ _ | refine blk_drew ?_ | refine blk_alloc ?_ _)); exact BK179.out) hb)
                                              have n1_ := Aside0.mk (blk_below (g := gb190) (o := .cells #[.int .i64 t182, .int .i64 t183, .int .i64 t184, .int .i64 t185, .int .i64 t186, .string t187] 23 (0, 0)) (by (with_reducible repeat (first | refine blk_drewN ?_ _ | refine blk_drew ?_ | refine blk_alloc ?_ _)); exact BK190.out) hb)
                                              have n2_ := Aside0.mk (blk_below (g := gb199) (o := .cells #[.int .i64 t191, .int .i64 t192, .int .i64 t193, .int .i64 t194, .int .i64 t195, .string t196] 23 (0, 0)) (by (with_reducible repeat (first | refine blk_drewN ?_ _ | refine blk_drew ?_ | refine blk_alloc ?_ _)); exact BK199.out) hb)
                                              have n3_ := Aside0.mk (blk_below (g := gb211) (o := .cells #[.int .i64 0, .int .i64 0, .int .i64 0, .int .i64 0, .int .i64 0, .string (⟨#[]⟩ : ByteArray)] 23 (0, 0)) (by (with_reducible repeat (first | refine blk_drewN ?_ _ | refine blk_drew ?_ | refine blk_alloc ?_ _)); exact BK211.out) hb)
                                              have n4_ := Aside0.mk (below_step (by repeat (first | (with_reducible first | exact HB.out | apply below_alloc | apply pw_below_drewN | apply below_drew1 | refine below_set ?_ GE179.out | refine below_set ?_ GE190.out | refine below_set ?_ GE199.out | refine below_set ?_ GE211.out) | exact HB.out)) hb)
                                              clear BK179
                                              clear BK190
                                              clear BK199
                                              clear BK211
                                              clear HB
                                              have BK179 := n0_
                                              have BK190 := n1_
                                              have BK199 := n2_
                                              have BK211 := n3_
                                              have HB := n4_
                                              clear n0_ n1_ n2_ n3_ n4_
                                              (try clear hb)
                                              (try clear hb2)
                                              (try clear hk)
                                              (try clear hi)
                                              refine hK.out _ _ trivial (fun hHeld => ?_)
                                              clear hK K
                                              refine norm_ (a' := ?_) ?_ ?_
                                              rotate_left
                                              · show Act.put _ (some 50) _ = _
                                                simp only [Act.put, List.setIfInBounds_toArray, List.set_cons_zero, List.set_cons_succ, i64_w, i32_w]
                                                rfl
                                              refine pure_ (i := 8) (N := some 42) (v := ?_) (a' := ?_) #[true, true, true, true, true, true, true, true, true, false, false, false, true, false, false, false] rfl rfl (any_of HT_.out (by kernel_rfl)) (fun _ _ _ h => h) (Or.inl ⟨by rfl, ?_⟩) ?_ ?_
                                              rotate_left
                                              · intro w'
                                                go_simp
                                                with_reducible rfl
                                              rotate_left
                                              · simp only [Act.put, List.setIfInBounds_toArray, List.set_cons_zero, List.set_cons_succ, i64_w, i32_w]
                                                rfl
                                              refine pure_ (i := 9) (N := some 51) (v := ?_) (a' := ?_) #[true, true, true, true, true, true, true, true, true, true, false, false, true, false, false, false] rfl rfl (any_of HT_.out (by kernel_rfl)) (fun _ _ _ h => h) (Or.inl ⟨by rfl, ?_⟩) ?_ ?_
                                              rotate_left
                                              · intro w'
                                                go_simp
                                                with_reducible rfl
                                              rotate_left
                                              · simp only [Act.put, List.setIfInBounds_toArray, List.set_cons_zero, List.set_cons_succ, i64_w, i32_w]
                                                rfl
                                              refine pure_ (i := 10) (N := some 52) (v := ?_) (a' := ?_) #[true, true, true, true, true, true, true, true, true, true, true, false, true, false, false, false] rfl rfl (any_of HT_.out (by kernel_rfl)) (fun _ _ _ h => h) (Or.inl ⟨by rfl, ?_⟩) ?_ ?_
                                              rotate_left
                                              · intro w'
                                                go_simp
                                                with_reducible rfl
                                              rotate_left
                                              · simp only [Act.put, List.setIfInBounds_toArray, List.set_cons_zero, List.set_cons_succ, i64_w, i32_w]
                                                rfl
                                              refine pure_ (i := 11) (N := some 53) (v := ?_) (a' := ?_) #[true, true, true, true, true, true, true, true, true, true, true, true, true, false, false, false] rfl rfl (any_of HT_.out (by kernel_rfl)) (fun _ _ _ h => h) (Or.inl ⟨by rfl, ?_⟩) ?_ ?_
                                              rotate_left
                                              · intro w'
                                                go_simp
                                                with_reducible rfl
                                              rotate_left
                                              · simp only [Act.put, List.setIfInBounds_toArray, List.set_cons_zero, List.set_cons_succ, i64_w, i32_w]
                                                rfl
                                              exact norm_ (by simp only [putAll, Act.put, List.setIfInBounds_toArray, List.set_cons_zero, List.set_cons_succ]) (hCont (gb211) _ ⟨(by (with_reducible repeat (first | refine blk_drewN ?_ _ | refine blk_drew ?_ | refine blk_alloc ?_ _)); exact BK179.out), (by (with_reducible repeat (first | refine blk_drewN ?_ _ | refine blk_drew ?_ | refine blk_alloc ?_ _)); exact BK190.out), (by (with_reducible repeat (first | refine blk_drewN ?_ _ | refine blk_drew ?_ | refine blk_alloc ?_ _)); exact BK199.out), (by (with_reducible repeat (first | refine blk_drewN ?_ _ | refine blk_drew ?_ | refine blk_alloc ?_ _)); exact BK211.out), GW211.out, GE211.out, NB179_211.out, NB211_179.out, NB190_211.out, NB211_190.out, NB199_211.out, NB211_199.out, (by repeat (first | (with_reducible first | exact HB.out | apply below_alloc | apply pw_below_drewN | apply below_drew1 | refine below_set ?_ GE179.out | refine below_set ?_ GE190.out | refine below_set ?_ GE199.out | refine below_set ?_ GE211.out) | exact HB.out))⟩)
                                          rintro gb211 w50 ⟨h0_, h1_, h2_, h3_, h4_, h5_, h6_, h7_, h8_, h9_, h10_, h11_, h12_⟩
                                          have n0_ : Aside0 (w50.heap[gb179]? = some (.cells #[.int .i64 1, .int .i64 258, .int .i64 17, .int .i64 64, .int .i64 7, .string (⟨#[104, 105]⟩ : ByteArray)] 23 (0, 0))) := ⟨h0_⟩
                                          have n1_ : Aside0 (w50.heap[gb190]? = some (.cells #[.int .i64 t182, .int .i64 t183, .int .i64 t184, .int .i64 t185, .int .i64 t186, .string t187] 23 (0, 0))) := ⟨h1_⟩
                                          have n2_ : Aside0 (w50.heap[gb199]? = some (.cells #[.int .i64 t191, .int .i64 t192, .int .i64 t193, .int .i64 t194, .int .i64 t195, .string t196] 23 (0, 0))) := ⟨h2_⟩
                                          have n3_ : Aside0 (w50.heap[gb211]? = some (.cells #[.int .i64 0, .int .i64 0, .int .i64 0, .int .i64 0, .int .i64 0, .string (⟨#[]⟩ : ByteArray)] 23 (0, 0))) := ⟨h3_⟩
                                          have n4_ : Aside0 (w.heap.size ≤ gb211) := ⟨h4_⟩
                                          have n5_ : Aside0 (w.heap.size ≤ gb211) := ⟨h5_⟩
                                          have n6_ : Aside0 (gb179 ≠ gb211) := ⟨h6_⟩
                                          have n7_ : Aside0 (gb211 ≠ gb179) := ⟨h7_⟩
                                          have n8_ : Aside0 (gb190 ≠ gb211) := ⟨h8_⟩
                                          have n9_ : Aside0 (gb211 ≠ gb190) := ⟨h9_⟩
                                          have n10_ : Aside0 (gb199 ≠ gb211) := ⟨h10_⟩
                                          have n11_ : Aside0 (gb211 ≠ gb199) := ⟨h11_⟩
                                          have n12_ : Aside0 (Below w.heap.size w w50) := ⟨h12_⟩
                                          clear BK179
                                          clear BK190
                                          clear BK199
                                          clear HB
                                          clear h0_ h1_ h2_ h3_ h4_ h5_ h6_ h7_ h8_ h9_ h10_ h11_ h12_
                                          have BK179 := n0_
                                          have BK190 := n1_
                                          have BK199 := n2_
                                          have BK211 := n3_
                                          have GW211 := n4_
                                          have GE211 := n5_
                                          have NB179_211 := n6_
                                          have NB211_179 := n7_
                                          have NB190_211 := n8_
                                          have NB211_190 := n9_
                                          have NB199_211 := n10_
                                          have NB211_199 := n11_
                                          have HB := n12_
                                          clear n0_ n1_ n2_ n3_ n4_ n5_ n6_ n7_ n8_ n9_ n10_ n11_ n12_
                                          have hHeld := trivial
                                          refine norm_ (a' := ?_) ?_ ?_
                                          rotate_left
                                          · simp only [putAll, Act.put, List.setIfInBounds_toArray, List.set_cons_zero, List.set_cons_succ]
                                            rfl
                                          refine one_ (i := 13) (N := none) #[true, true, true, true, true, true, true, true, true, true, true, true, true, true, false, false] rfl rfl (one_of HT_.out (by kernel_rfl)) (by decide) (fun K hK => ?_)
                                          have hs51 : w50.cell? ⟨gb211, 0, none⟩ = some (.int .i64 0) := (blk_cell BK211.out 0).trans rfl
                                          have hfs51 := blk_frozen BK211.out 0
                                          have hns51_0 := NB179_211.out
                                          have hns51_1 := NB190_211.out
                                          have hns51_2 := NB199_211.out
                                          have hms51_0 := NB211_179.out
                                          have hms51_1 := NB211_190.out
                                          have hms51_2 := NB211_199.out
                                          have hs52 : w50.cell? ⟨gb211, 1, none⟩ = some (.int .i64 0) := (blk_cell BK211.out 1).trans rfl
                                          have hfs52 := blk_frozen BK211.out 1
                                          have hns52_0 := NB179_211.out
                                          have hns52_1 := NB190_211.out
                                          have hns52_2 := NB199_211.out
                                          have hms52_0 := NB211_179.out
                                          have hms52_1 := NB211_190.out
                                          have hms52_2 := NB211_199.out
                                          have hs53 : w50.cell? ⟨gb211, 2, none⟩ = some (.int .i64 0) := (blk_cell BK211.out 2).trans rfl
                                          have hfs53 := blk_frozen BK211.out 2
                                          have hns53_0 := NB179_211.out
                                          have hns53_1 := NB190_211.out
                                          have hns53_2 := NB199_211.out
                                          have hms53_0 := NB211_179.out
                                          have hms53_1 := NB211_190.out
                                          have hms53_2 := NB211_199.out
                                          have hs54 : w50.cell? ⟨gb211, 3, none⟩ = some (.int .i64 0) := (blk_cell BK211.out 3).trans rfl
                                          have hfs54 := blk_frozen BK211.out 3
                                          have hns54_0 := NB179_211.out
                                          have hns54_1 := NB190_211.out
                                          have hns54_2 := NB199_211.out
                                          have hms54_0 := NB211_179.out
                                          have hms54_1 := NB211_190.out
                                          have hms54_2 := NB211_199.out
                                          have hs55 : w50.cell? ⟨gb211, 4, none⟩ = some (.int .i64 0) := (blk_cell BK211.out 4).trans rfl
                                          have hfs55 := blk_frozen BK211.out 4
                                          have hns55_0 := NB179_211.out
                                          have hns55_1 := NB190_211.out
                                          have hns55_2 := NB199_211.out
                                          have hms55_0 := NB211_179.out
                                          have hms55_1 := NB211_190.out
                                          have hms55_2 := NB211_199.out
                                          have hs56 : w50.cell? ⟨gb211, 5, none⟩ = some (.string (⟨#[]⟩ : ByteArray)) := (blk_cell BK211.out 5).trans rfl
                                          have hfs56 := blk_frozen BK211.out 5
                                          have hns56_0 := NB179_211.out
                                          have hns56_1 := NB190_211.out
                                          have hns56_2 := NB199_211.out
                                          have hms56_0 := NB211_179.out
                                          have hms56_1 := NB211_190.out
                                          have hms56_2 := NB211_199.out
                                          refine skip_ (w1 := ?_) (by rfl) rfl ?_ ?_
                                          rotate_left
                                          · go_simp
                                            rfl
                                          refine hK.out _ _ trivial (fun hHeld => ?_)
                                          clear hK K
                                          refine pure_ (i := 14) (N := some 13) (v := ?_) (a' := ?_) #[true, true, true, true, true, true, true, true, true, true, true, true, true, true, true, false] rfl rfl (any_of HT_.out (by kernel_rfl)) (fun _ _ _ h => h) (Or.inl ⟨by rfl, ?_⟩) ?_ ?_
                                          rotate_left
                                          · intro w'
                                            go_simp
                                            with_reducible rfl
                                          rotate_left
                                          · simp only [Act.put, List.setIfInBounds_toArray, List.set_cons_zero, List.set_cons_succ, i64_w, i32_w]
                                            rfl
                                          refine pure_ (i := 15) (N := some 14) (v := ?_) (a' := ?_) #[true, true, true, true, true, true, true, true, true, true, true, true, true, true, true, true] rfl rfl (any_of HT_.out (by kernel_rfl)) (fun _ _ _ h => h) (Or.inl ⟨by rfl, ?_⟩) ?_ ?_
                                          rotate_left
                                          · intro w'
                                            go_simp
                                            with_reducible rfl
                                          rotate_left
                                          · simp only [Act.put, List.setIfInBounds_toArray, List.set_cons_zero, List.set_cons_succ, i64_w, i32_w]
                                            rfl
                                          refine done_ (done_of HT_.out (by kernel_rfl)) ?_
                                          try go_wp2_with (first | (go_at_call 19; (with_reducible refine (wharfagelaw0_Num.calls t181 t212 _ A17.out).mono ?_); rintro e w' ⟨rfl, ⟨nd, rfl⟩⟩; have hnb57 := NB190_211.out; have hnc57 := NB211_190.out; have hcz58_0 : w50.cell? ⟨gb190, 0, none⟩ = some (.int .i64 t182) := (blk_cell BK190.out 0).trans rfl; have hcz58_1 : w50.cell? ⟨gb190, 1, none⟩ = some (.int .i64 t183) := (blk_cell BK190.out 1).trans rfl; have hcz58_2 : w50.cell? ⟨gb190, 2, none⟩ = some (.int .i64 t184) := (blk_cell BK190.out 2).trans rfl; have hcz58_3 : w50.cell? ⟨gb190, 3, none⟩ = some (.int .i64 t185) := (blk_cell BK190.out 3).trans rfl; have hcz58_4 : w50.cell? ⟨gb190, 4, none⟩ = some (.int .i64 t186) := (blk_cell BK190.out 4).trans rfl; have hcz58_5 : w50.cell? ⟨gb190, 5, none⟩ = some (.string t187) := (blk_cell BK190.out 5).trans rfl; have hfz58_0 := blk_frozen BK190.out 0; have hfz58_1 := blk_frozen BK190.out 1; have hfz58_2 := blk_frozen BK190.out 2; have hfz58_3 := blk_frozen BK190.out 3; have hfz58_4 := blk_frozen BK190.out 4; have hfz58_5 := blk_frozen BK190.out 5; have hnb59 := NB179_211.out; have hnc59 := NB211_179.out; have hcz60_0 : w50.cell? ⟨gb179, 0, none⟩ = some (.int .i64 1) := (blk_cell BK179.out 0).trans rfl; have hcz60_1 : w50.cell? ⟨gb179, 1, none⟩ = some (.int .i64 258) := (blk_cell BK179.out 1).trans rfl; have hcz60_2 : w50.cell? ⟨gb179, 2, none⟩ = some (.int .i64 17) := (blk_cell BK179.out 2).trans rfl; have hcz60_3 : w50.cell? ⟨gb179, 3, none⟩ = some (.int .i64 64) := (blk_cell BK179.out 3).trans rfl; have hcz60_4 : w50.cell? ⟨gb179, 4, none⟩ = some (.int .i64 7) := (blk_cell BK179.out 4).trans rfl; have hcz60_5 : w50.cell? ⟨gb179, 5, none⟩ = some (.string (⟨#[104, 105]⟩ : ByteArray)) := (blk_cell BK179.out 5).trans rfl; have hfz60_0 := blk_frozen BK179.out 0; have hfz60_1 := blk_frozen BK179.out 1; have hfz60_2 := blk_frozen BK179.out 2; have hfz60_3 := blk_frozen BK179.out 3; have hfz60_4 := blk_frozen BK179.out 4; have hfz60_5 := blk_frozen BK179.out 5) | (go_at_call 19; (with_reducible refine (wharfagelaw0_Num.calls t189 t213 _ A21.out).mono ?_); rintro e w' ⟨rfl, ⟨nd, rfl⟩⟩) | (go_at_call 19; (with_reducible refine (wharfagelaw0_Num.calls t198 t214 _ A24.out).mono ?_); rintro e w' ⟨rfl, ⟨nd, rfl⟩⟩) | (go_at_call 19; (with_reducible refine (wharfagelaw0_Num.calls t201 t215 _ A26.out).mono ?_); rintro e w' ⟨rfl, ⟨nd, rfl⟩⟩; have hnb61 := NB211_199.out; have hnc61 := NB199_211.out; have hcz62_0 : w50.cell? ⟨gb211, 0, none⟩ = some (.int .i64 0) := (blk_cell BK211.out 0).trans rfl; have hcz62_1 : w50.cell? ⟨gb211, 1, none⟩ = some (.int .i64 0) := (blk_cell BK211.out 1).trans rfl; have hcz62_2 : w50.cell? ⟨gb211, 2, none⟩ = some (.int .i64 0) := (blk_cell BK211.out 2).trans rfl; have hcz62_3 : w50.cell? ⟨gb211, 3, none⟩ = some (.int .i64 0) := (blk_cell BK211.out 3).trans rfl; have hcz62_4 : w50.cell? ⟨gb211, 4, none⟩ = some (.int .i64 0) := (blk_cell BK211.out 4).trans rfl; have hcz62_5 : w50.cell? ⟨gb211, 5, none⟩ = some (.string (⟨#[]⟩ : ByteArray)) := (blk_cell BK211.out 5).trans rfl; have hfz62_0 := blk_frozen BK211.out 0; have hfz62_1 := blk_frozen BK211.out 1; have hfz62_2 := blk_frozen BK211.out 2; have hfz62_3 := blk_frozen BK211.out 3; have hfz62_4 := blk_frozen BK211.out 4; have hfz62_5 := blk_frozen BK211.out 5) | (go_at_call 19; (with_reducible refine (wharfagelaw0_Num.calls t210 t216 _ A30.out).mono ?_); rintro e w' ⟨rfl, ⟨nd, rfl⟩⟩) | (go_at_call 20; (with_reducible refine (ip_May.calls 1 258 17 64 7 (⟨#[104, 105]⟩ : ByteArray) t217 _ A32.out).mono ?_); rintro e w63 ⟨rfl, hb⟩; try have n0_ := Aside0.mk (blk_below (g := gb179) (o := .cells #[.int .i64 1, .int .i64 258, .int .i64 17, .int .i64 64, .int .i64 7, .string (⟨#[104, 105]⟩ : ByteArray)] 23 (0, 0)) (by (with_reducible repeat (first | refine blk_drewN ?_ _ | refine blk_drew ?_ | refine blk_alloc ?_ _)); refine blk_far ?_ NB179_211.out _; (with_reducible repeat (first | refine blk_drewN ?_ _ | refine blk_drew ?_ | refine blk_alloc ?_ _)); refine blk_far ?_ NB179_211.out _; (with_reducible repeat (first | refine blk_drewN ?_ _ | refine blk_drew ?_ | refine blk_alloc ?_ _)); refine blk_far ?_ NB179_211.out _; (with_reducible repeat (first | refine blk_drewN ?_ _ | refine blk_drew ?_ | refine blk_alloc ?_ _)); refine blk_far ?_ NB179_211.out _; (with_reducible repeat (first | refine blk_drewN ?_ _ | refine blk_drew ?_ | refine blk_alloc ?_ _)); refine blk_far ?_ NB179_211.out _; (with_reducible repeat (first | refine blk_drewN ?_ _ | refine blk_drew ?_ | refine blk_alloc ?_ _)); refine blk_far ?_ NB179_211.out _; (with_reducible repeat (first | refine blk_drewN ?_ _ | refine blk_drew ?_ | refine blk_alloc ?_ _)); exact BK179.out) hb); try have n1_ := Aside0.mk (blk_below (g := gb190) (o := .cells #[.int .i64 t182, .int .i64 t183, .int .i64 t184, .int .i64 t185, .int .i64 t186, .string t187] 23 (0, 0)) (by (with_reducible repeat (first | refine blk_drewN ?_ _ | refine blk_drew ?_ | refine blk_alloc ?_ _)); refine blk_far ?_ NB190_211.out _; (with_reducible repeat (first | refine blk_drewN ?_ _ | refine blk_drew ?_ | refine blk_alloc ?_ _)); refine blk_far ?_ NB190_211.out _; (with_reducible repeat (first | refine blk_drewN ?_ _ | refine blk_drew ?_ | refine blk_alloc ?_ _)); refine blk_far ?_ NB190_211.out _; (with_reducible repeat (first | refine blk_drewN ?_ _ | refine blk_drew ?_ | refine blk_alloc ?_ _)); refine blk_far ?_ NB190_211.out _; (with_reducible repeat (first | refine blk_drewN ?_ _ | refine blk_drew ?_ | refine blk_alloc ?_ _)); refine blk_far ?_ NB190_211.out _; (with_reducible repeat (first | refine blk_drewN ?_ _ | refine blk_drew ?_ | refine blk_alloc ?_ _)); refine blk_far ?_ NB190_211.out _; (with_reducible repeat (first | refine blk_drewN ?_ _ | refine blk_drew ?_ | refine blk_alloc ?_ _)); exact BK190.out) hb); try have n2_ := Aside0.mk (blk_below (g := gb199) (o := .cells #[.int .i64 t191, .int .i64 t192, .int .i64 t193, .int .i64 t194, .int .i64 t195, .string t196] 23 (0, 0)) (by (with_reducible repeat (first | refine blk_drewN ?_ _ | refine blk_drew ?_ | refine blk_alloc ?_ _)); refine blk_far ?_ NB199_211.out _; (with_reducible repeat (first | refine blk_drewN ?_ _ | refine blk_drew ?_ | refine blk_alloc ?_ _)); refine blk_far ?_ NB199_211.out _; (with_reducible repeat (first | refine blk_drewN ?_ _ | refine blk_drew ?_ | refine blk_alloc ?_ _)); refine blk_far ?_ NB199_211.out _; (with_reducible repeat (first | refine blk_drewN ?_ _ | refine blk_drew ?_ | refine blk_alloc ?_ _)); refine blk_far ?_ NB199_211.out _; (with_reducible repeat (first | refine blk_drewN ?_ _ | refine blk_drew ?_ | refine blk_alloc ?_ _)); refine blk_far ?_ NB199_211.out _; (with_reducible repeat (first | refine blk_drewN ?_ _ | refine blk_drew ?_ | refine blk_alloc ?_ _)); refine blk_far ?_ NB199_211.out _; (with_reducible repeat (first | refine blk_drewN ?_ _ | refine blk_drew ?_ | refine blk_alloc ?_ _)); exact BK199.out) hb); try have n3_ := Aside0.mk (blk_below (g := gb211) (o := .cells #[.int .i64 t203, .int .i64 t204, .int .i64 t205, .int .i64 t206, .int .i64 t207, .string t208] 23 (0, 0)) (by (with_reducible repeat (first | refine blk_drewN ?_ _ | refine blk_drew ?_ | refine blk_alloc ?_ _)); refine blk_put (cs := #[.int .i64 t203, .int .i64 t204, .int .i64 t205, .int .i64 t206, .int .i64 t207, .string (⟨#[]⟩ : ByteArray)]) ?_ 5 _ (by first | rfl | (simp [*]; done)); (with_reducible repeat (first | refine blk_drewN ?_ _ | refine blk_drew ?_ | refine blk_alloc ?_ _)); refine blk_put (cs := #[.int .i64 t203, .int .i64 t204, .int .i64 t205, .int .i64 t206, .int .i64 0, .string (⟨#[]⟩ : ByteArray)]) ?_ 4 _ (by first | rfl | (simp [*]; done)); (with_reducible repeat (first | refine blk_drewN ?_ _ | refine blk_drew ?_ | refine blk_alloc ?_ _)); refine blk_put (cs := #[.int .i64 t203, .int .i64 t204, .int .i64 t205, .int .i64 0, .int .i64 0, .string (⟨#[]⟩ : ByteArray)]) ?_ 3 _ (by first | rfl | (simp [*]; done)); (with_reducible repeat (first | refine blk_drewN ?_ _ | refine blk_drew ?_ | refine blk_alloc ?_ _)); refine blk_put (cs := #[.int .i64 t203, .int .i64 t204, .int .i64 0, .int .i64 0, .int .i64 0, .string (⟨#[]⟩ : ByteArray)]) ?_ 2 _ (by first | rfl | (simp [*]; done)); (with_reducible repeat (first | refine blk_drewN ?_ _ | refine blk_drew ?_ | refine blk_alloc ?_ _)); refine blk_put (cs := #[.int .i64 t203, .int .i64 0, .int .i64 0, .int .i64 0, .int .i64 0, .string (⟨#[]⟩ : ByteArray)]) ?_ 1 _ (by first | rfl | (simp [*]; done)); (with_reducible repeat (first | refine blk_drewN ?_ _ | refine blk_drew ?_ | refine blk_alloc ?_ _)); refine blk_put (cs := #[.int .i64 0, .int .i64 0, .int .i64 0, .int .i64 0, .int .i64 0, .string (⟨#[]⟩ : ByteArray)]) ?_ 0 _ (by first | rfl | (simp [*]; done)); (with_reducible repeat (first | refine blk_drewN ?_ _ | refine blk_drew ?_ | refine blk_alloc ?_ _)); exact BK211.out) hb); have n4_ := Aside0.mk (below_step (by repeat (first | (with_reducible first | exact HB.out | apply below_alloc | apply pw_below_drewN | apply below_drew1 | refine below_set ?_ GE179.out | refine below_set ?_ GE190.out | refine below_set ?_ GE199.out | refine below_set ?_ GE211.out) | exact HB.out)) hb); try clear BK179; try clear BK190; try clear BK199; try clear BK211; clear HB; try have BK179 := n0_; try have BK190 := n1_; try have BK199 := n2_; try have BK211 := n3_; have HB := n4_; try clear n0_; try clear n1_; try clear n2_; try clear n3_; try clear n4_; (try clear hb); (try clear hb2); (try clear hk); (try clear hi)))
                                          go_ret
                                          exact ⟨by first | rfl | (simp [errW_none, errW_some] <;> rfl) | (simp [*, errW_none, errW_some] <;> rfl), by repeat (first | (with_reducible first | exact HB.out | apply below_alloc | apply pw_below_drewN | apply below_drew1 | refine below_set ?_ GE179.out | refine below_set ?_ GE190.out | refine below_set ?_ GE199.out | refine below_set ?_ GE211.out) | exact HB.out)⟩
                                          all_goals (rename_i hno_; first | exact absurd (by simpa using c19b0) hno_ | exact absurd (by simpa using c28b0) hno_)
                                        · rw [if_neg c31] at H
                                          exact absurd H (by simp)
                                      · rw [if_neg c29] at H
                                        exact absurd H (by simp)
                                    · rw [if_neg c28] at H
                                      exact absurd H (by simp)
                                  · rw [if_neg c27] at H
                                    exact absurd H (by simp)
                                · rw [if_neg c25] at H
                                  exact absurd H (by simp)
                              · rw [if_neg c23] at H
                                exact absurd H (by simp)
                            · rw [if_neg c22] at H
                              exact absurd H (by simp)
                          · rw [if_neg c20] at H
                            exact absurd H (by simp)
                        · rw [if_neg c19] at H
                          exact absurd H (by simp)
                      · rw [if_neg c18] at H
                        exact absurd H (by simp)
                    · rw [if_neg c16] at H
                      exact absurd H (by simp)
                  · rw [if_neg c15] at H
                    exact absurd H (by simp)
                · rw [if_neg c14] at H
                  exact absurd H (by simp)
              · rw [if_neg c11] at H
                exact absurd H (by simp)
            · rw [if_neg c10] at H
              exact absurd H (by simp)
          · rw [if_neg c9] at H
            exact absurd H (by simp)
        · rw [if_neg c8] at H
          exact absurd H (by simp)
      · rw [if_neg c7] at H
        exact absurd H (by simp)
    · rw [if_neg c6] at H
      exact absurd H (by simp)
  · rw [if_neg c3] at H
    exact absurd H (by simp)

end Go.Proofs.Ytnhbieicjlnakaa.PA
