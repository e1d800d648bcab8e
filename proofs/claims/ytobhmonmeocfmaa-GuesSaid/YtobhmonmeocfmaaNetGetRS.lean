import Derived.Test.YtobhmonmeocfmaaNetG
import Derived.Test.YtobhmonmeocfmaaFAWharfageref1GetIp
namespace Go.Proofs.Ytobhmonmeocfmaa.Pure
set_option linter.unusedSimpArgs false
set_option linter.unusedVariables false
open Go Go.RowKit Go.Proofs.Ytobhmonmeocfmaa.PA Go.Proofs.YtobhmonmeocfmaaW.PrintWords Go.Proofs.YtobhmonmeocfmaaW.PrintLast Go.Proofs.YtobhmonmeocfmaaW.PrintMore Go.Proofs.Ytobhmonmeocfmaa.Wh
attribute [local irreducible] wharfageref1_Num.f ip_Bytes.f ip_Number.f wharfageref1_Of.f sum_Sum.f wharfageref1_Sum.f

theorem GetIp_eq (k : Nat) (hk : 600 ≤ k) (s : ByteArray) : wharfageref1_GetIp.f k s = some (getI s) := by
  have hb := bt_range s 0
  have hn := N2_range s 6
  unfold wharfageref1_GetIp.f getI
  rw [low4 _ hb.1 hb.2, wrap64_id (n := bt s 0 % 16) (by omega) (by omega), wrap64_id (n := 4 * (bt s 0 % 16)) (by omega) (by omega)]
  obtain ⟨k, rfl⟩ : ∃ m, k = m + 600 := ⟨k - 600, by omega⟩
  by_cases c : s.size < 20
  · rw [if_pos (by omega), if_pos (by omega)]; rfl
  by_cases c' : 512 < s.size
  · rw [if_neg (by omega), if_pos (by omega), if_pos (by omega)]; rfl
  rw [if_neg (by omega), if_neg (by omega), if_pos (by omega), if_neg (show ¬ (s.size < 20 ∨ 512 < s.size) by omega)]
  by_cases d1 : bt s 0 / 16 = 4
  rotate_left
  · rw [if_neg d1, if_pos (by omega)]; rfl
  by_cases d2 : 4 * (bt s 0 % 16) < 20
  · rw [if_pos d1, if_pos d2, if_pos (by omega)]; rfl
  by_cases d3 : 4 * (bt s 0 % 16) > (s.size : Int)
  · rw [if_pos d1, if_neg d2, if_pos d3, if_pos (by omega)]; rfl
  rw [if_pos d1, if_neg d2, if_neg d3, if_neg (show ¬ (bt s 0 / 16 ≠ 4 ∨ bt s 0 % 16 < 5 ∨ (s.size : Int) < 4 * (bt s 0 % 16)) by omega), if_pos (by decide), if_pos (by omega), of2 (k + 597) _ (by simp [ByteArray.size_extract]; omega), N2_extract s 2 (by omega)]
  simp only [Option.bind_some]
  by_cases c2 : N2 s 2 = s.size
  rotate_left
  · rw [if_neg c2, if_pos c2]; rfl
  rw [if_pos c2, if_neg (not_not_intro c2), if_pos (by omega), if_pos (by omega), rsum_eq _ (by simp [ByteArray.size_extract]; omega) _ (by simp [ByteArray.size_extract]; omega)]
  simp only [Option.bind_some]
  by_cases c3 : sumB (s.extract 0 (4 * (bt s 0 % 16)).toNat) = 65535
  rotate_left
  · rw [if_neg c3, if_pos c3]; rfl
  rw [if_pos c3, if_neg (not_not_intro c3)]
  by_cases c4 : 5 < bt s 0 % 16
  · rw [if_pos (by omega), if_pos c4]
  rw [if_neg (by omega), if_neg c4, if_pos (by decide), if_pos (by omega), of2 (k + 597) _ (by simp [ByteArray.size_extract]; omega), N2_extract s 6 (by omega)]
  simp only [Option.bind_some]
  by_cases c5 : Go.bits .and .i64 (N2 s 6) 49151 = 0
  rotate_left
  · rw [if_neg c5, if_pos c5]
  have h8 := bt_range s 8; have h9 := bt_range s 9
  rw [if_pos c5, if_neg (not_not_intro c5), if_pos (by decide), if_pos (by omega), of4 (k + 595) _ (by simp [ByteArray.size_extract]; omega), N4_extract s 12 (by omega)]
  simp only [Option.bind_some]
  rw [if_pos (by decide), if_pos (by omega), of4 (k + 595) _ (by simp [ByteArray.size_extract]; omega), N4_extract s 16 (by omega)]
  simp only [Option.bind_some]
  rw [if_pos (by omega), if_pos (by omega), if_pos (by decide), if_pos (by omega), of2 (k + 597) _ (by simp [ByteArray.size_extract]; omega), N2_extract s 4 (by omega)]
  simp only [Option.bind_some]
  rw [wrap64_id (by omega) (by omega), wrap64_id (by omega) (by omega)]
end Go.Proofs.Ytobhmonmeocfmaa.Pure
