import Derived.Test.YtobhmonmeocfmaaNetAll
import Derived.Test.YtobhmonmeocfmaaFAIpGet
namespace Go.Proofs.Ytobhmonmeocfmaa.Pure
set_option linter.unusedSimpArgs false
set_option linter.unusedVariables false
open Go Go.RowKit Go.Proofs.Ytobhmonmeocfmaa.PA Go.Proofs.YtobhmonmeocfmaaW.PrintWords Go.Proofs.YtobhmonmeocfmaaW.PrintLast Go.Proofs.YtobhmonmeocfmaaW.PrintMore Go.Proofs.Ytobhmonmeocfmaa.Wh
attribute [local irreducible] wharfageref1_Num.f ip_Bytes.f ip_Number.f wharfageref1_Of.f sum_Sum.f wharfageref1_Sum.f

theorem words_eq (k : Nat) (hk : 600 ≤ k) (s : ByteArray) : ip_words.f k s =
    some (if s.size < 20 ∨ 512 < s.size then (0, false) else if bt s 0 / 16 ≠ 4 ∨ bt s 0 % 16 < 5 ∨ (s.size : Int) < 4 * (bt s 0 % 16) then (0, false)
      else (bt s 0 % 16, decide (N2 s 2 = s.size) && decide (sumB (s.extract 0 (4 * (bt s 0 % 16)).toNat) = 65535))) := by
  obtain ⟨k, rfl⟩ : ∃ m, k = m + 600 := ⟨k - 600, by omega⟩
  have hb := bt_range s 0
  unfold ip_words.f
  by_cases c : s.size < 20
  · rw [if_pos (by omega), if_pos (by omega)]
    simp [ip_words.j0]
  rw [if_neg (by omega)]
  by_cases c1 : 512 < s.size
  · rw [decide_eq_true (by omega), if_pos (by omega)]
    simp [ip_words.j0]
  rw [decide_eq_false (by omega), if_neg (by omega)]
  simp only [ip_words.j0]
  rw [if_neg (by decide), if_pos (by omega), low4 _ hb.1 hb.2, wrap64_id (n := bt s 0 % 16) (by omega) (by omega), wrap64_id (n := 4 * (bt s 0 % 16)) (by omega) (by omega)]
  by_cases c2 : bt s 0 / 16 = 4
  · rw [if_pos c2]
    by_cases c3 : bt s 0 % 16 < 5
    · rw [if_pos c3, if_pos (by omega)]
      simp [ip_words.j1]
    · rw [if_neg c3]
      by_cases c4 : (s.size : Int) < 4 * (bt s 0 % 16)
      · rw [decide_eq_true (by omega), if_pos (by omega)]
        simp [ip_words.j1]
      · rw [decide_eq_false (by omega), if_neg (by omega)]
        simp only [ip_words.j1]
        rw [if_neg (by decide), if_pos (by decide), if_pos (by omega), wrap64_id (n := 4 * (bt s 0 % 16)) (by omega) (by omega), number2 (k + 595) _ (by simp [ByteArray.size_extract]; omega), N2_extract s 2 (by omega)]
        simp only [Option.bind_some]
        by_cases c5 : N2 s 2 = s.size
        · rw [if_pos c5, if_pos (by omega), if_pos (by omega), psum_eq _ (by simp [ByteArray.size_extract]; omega) _ (by simp [ByteArray.size_extract]; omega)]
          simp only [Option.bind_some, c5, decide_true, Bool.true_and]
          congr 2
        · rw [if_neg c5]; simp [c5]
  · rw [if_neg c2, if_pos (by omega)]
    simp [ip_words.j1]
theorem Get_eq (k : Nat) (hk : 600 ≤ k) (s : ByteArray) : ip_Get.f k s = some (getI s) := by
  have hb := bt_range s 0
  have hn := N2_range s 6
  unfold ip_Get.f getI
  rw [words_eq k hk s]
  simp only [Option.bind_some]
  obtain ⟨k, rfl⟩ : ∃ m, k = m + 600 := ⟨k - 600, by omega⟩
  by_cases c : s.size < 20 ∨ 512 < s.size
  · simp [c, badI]
  by_cases c1 : bt s 0 / 16 ≠ 4 ∨ bt s 0 % 16 < 5 ∨ (s.size : Int) < 4 * (bt s 0 % 16)
  · simp only [if_neg c, if_pos c1]; rfl
  simp only [if_neg c, if_neg c1]
  by_cases c2 : N2 s 2 = s.size
  · by_cases c3 : sumB (s.extract 0 (4 * (bt s 0 % 16)).toNat) = 65535
    · simp only [c2, c3, decide_true, Bool.and_self, if_true, ne_eq, not_true, if_false]
      by_cases c4 : 5 < bt s 0 % 16
      · rw [if_pos (by omega), if_pos c4]
      · rw [if_neg (by omega), if_neg c4, if_pos (by decide), if_pos (by omega), number2 (k + 597) _ (by simp [ByteArray.size_extract]; omega), N2_extract s 6 (by omega)]
        simp only [Option.bind_some]
        rw [andNot_eq _ hn.1 hn.2]
        by_cases c5 : Go.bits .and .i64 (N2 s 6) 49151 = 0
        · have h8 := bt_range s 8; have h9 := bt_range s 9
          rw [if_pos c5, if_neg (not_not_intro c5), if_pos (by decide), if_pos (by omega), number4 (k + 595) _ (by simp [ByteArray.size_extract]; omega), N4_extract s 12 (by omega)]
          simp only [Option.bind_some]
          rw [if_pos (by decide), if_pos (by omega), number4 (k + 595) _ (by simp [ByteArray.size_extract]; omega), N4_extract s 16 (by omega)]
          simp only [Option.bind_some]
          rw [if_pos (by omega), if_pos (by omega), if_pos (by decide), if_pos (by omega), number2 (k + 597) _ (by simp [ByteArray.size_extract]; omega), N2_extract s 4 (by omega)]
          simp only [Option.bind_some]
          rw [wrap64_id (by omega) (by omega), wrap64_id (by omega) (by omega)]
        · rw [if_neg c5, if_pos c5]
    · simp [c2, c3, badI]
  · simp [c2, badI]
end Go.Proofs.Ytobhmonmeocfmaa.Pure
