import Derived.Test.YtnhbieicjlnakaaIpAwake
import Derived.Test.YtnhbieicjlnakaaFAWharfagelaw2Whole
namespace Go.Proofs.Ytnhbieicjlnakaa.Pure
set_option linter.unusedSimpArgs false
set_option linter.unusedVariables false
open Go Go.RowKit Go.Proofs.Ytnhbieicjlnakaa.PA Go.Proofs.YtnhbieicjlnakaaW.PrintWords Go.Proofs.YtnhbieicjlnakaaW.PrintLast Go.Proofs.YtnhbieicjlnakaaW.PrintMore Go.Proofs.Ytnhbieicjlnakaa.Wh
def wholeI (s : ByteArray) : ByteArray :=
  if s.size < 20 then s
  else if 4 * (bt s 0 % 16) < 20 then s
  else if (s.size : Int) < 4 * (bt s 0 % 16) then s
  else s.extract 0 10 ++ B2 (65535 - sumB (s.extract 0 10 ++ (⟨#[0, 0]⟩ : ByteArray) ++ s.extract 12 (4 * (bt s 0 % 16)).toNat)) ++ s.extract 12 s.size
theorem whole_eq (k : Nat) (hk : 600 ≤ k) (s : ByteArray) (hs : s.size ≤ 140737488351232) : wharfagelaw2_whole.f k s = some (wholeI s) := by
  unfold wharfagelaw2_whole.f wholeI
  have hb : 0 ≤ bt s 0 ∧ bt s 0 ≤ 255 := bt_range s 0
  rw [low4 _ hb.1 hb.2, wrap64_id (n := bt s 0 % 16) (by omega) (by omega), wrap64_id (n := 4 * (bt s 0 % 16)) (by omega) (by omega)]
  generalize hn : 4 * (bt s 0 % 16) = n
  have hn1 : n ≤ 60 := by omega
  by_cases h0 : s.size < 20
  · rw [if_pos (by omega), if_pos h0]
  rw [if_neg (by omega), if_neg h0, if_pos (by omega)]
  by_cases h1 : n < 20
  · rw [if_pos h1, if_pos h1]
  rw [if_neg h1, if_neg h1]
  by_cases h2 : (s.size : Int) < n
  · rw [if_pos h2, if_pos h2]
  rw [if_neg (by omega), if_neg h2]
  have e1 : (s.extract 0 10).size = 10 := by rw [ByteArray.size_extract]; omega
  have e2 : (s.extract 12 n.toNat).size ≤ 60 := by rw [ByteArray.size_extract]; omega
  have e3 : (s.extract 12 s.size).size ≤ 140737488351232 := by rw [ByteArray.size_extract]; omega
  have e4 : (s.extract 0 10 ++ (⟨#[0, 0]⟩ : ByteArray)).size = 12 := by rw [ByteArray.size_append, e1]; rfl
  rw [if_pos (by decide), if_pos (by omega), if_pos (by omega), if_pos (by omega), if_pos (by omega), if_pos (by omega)]
  rw [rsum_eq _ (by rw [ByteArray.size_append]; omega) k (by rw [ByteArray.size_append]; omega)]
  generalize hm : sumB (s.extract 0 10 ++ (⟨#[0, 0]⟩ : ByteArray) ++ s.extract 12 n.toNat) = m
  have hr : 0 ≤ m ∧ m < 65536 := by rw [← hm]; exact sumB_range _
  rw [Option.bind_some, wrap64_id (by omega) (by omega)]
  obtain ⟨j, rfl⟩ : ∃ j, k = j + 3 := ⟨k - 3, by omega⟩
  rw [num2 j, Option.bind_some]
  have e5 : (s.extract 0 10 ++ B2 (65535 - m)).size = 12 := by rw [ByteArray.size_append, e1, B2_size]
  rw [if_pos (by rw [B2_size]; omega), if_pos (by omega), if_pos (by omega)]
end Go.Proofs.Ytnhbieicjlnakaa.Pure
