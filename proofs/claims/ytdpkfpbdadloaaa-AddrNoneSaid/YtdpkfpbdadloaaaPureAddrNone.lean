/- Numbers beside those of nodes are nobody's addresses. -/
import Derived.Test.YtdpkfpbdadloaaaPAddrNonex1
import Derived.Test.YtdpkfpbdadloaaaBase
namespace Go.Proofs.Ytdpkfpbdadloaaa.Pure
open Go.RowKit Go.Proofs.Ytdpkfpbdadloaaa.PAddrNone Go.Proofs.YtdpkfpbdadloaaaW.PrintWords Go.Proofs.YtdpkfpbdadloaaaW.PrintLast Go.Proofs.Ytdpkfpbdadloaaa.Wh

theorem below_eq (a b : Int) : addr_below.f a b = some (decide (0 ≤ a ∧ a < b)) := by
  unfold addr_below.f
  by_cases h : a ≥ 0
  · rw [if_pos h]; congr 1; simp; omega
  · rw [if_neg h]; congr 1; simp; omega

def WhoseNone (a : Int) : Prop := ¬ (167837696 ≤ a ∧ a < 167837698) ∧ ¬ (167903232 ≤ a ∧ a < 167903235) ∧ ¬ (167968768 ≤ a ∧ a < 167969536 ∧ (a - 167968768) % 256 < 4)
theorem whose_none (a : Int) (l : -9000000000000000000 ≤ a) (u : a ≤ 9000000000000000000) (h : WhoseNone a) : addr_Whose.f a = some (0, 0, 0, false) := by
  obtain ⟨h1, h2, h3⟩ := h
  unfold addr_Whose.f
  rw [wrap64_id (n := a - 167837696) (by omega) (by omega), wrap64_id (n := a - 167903232) (by omega) (by omega), wrap64_id (n := a - 167968768) (by omega) (by omega)]
  simp only [below_eq, Option.bind_some]
  rw [if_neg (by simp; omega), if_neg (by simp; omega)]
  by_cases c : 0 ≤ a - 167968768 ∧ a - 167968768 < 768
  · rw [if_pos (by simpa using c), Int.tmod_eq_emod_of_nonneg c.1, if_neg (by omega)]
  · rw [if_neg (by simpa using c)]
theorem AddrNone : wharfagelaw5_AddrNone.Pure := by
  intro a0 a1 h0 h1
  refine ⟨10, ?_⟩
  unfold wharfagelaw5_AddrNone.f
  rw [show wharfagelaw5_awake.f 10 = some true by decide +kernel]
  simp only [Option.bind_some, if_true, u64_wrap, and_1023, and_255]
  have hd : 0 ≤ a1 % 1024 ∧ a1 % 1024 < 1024 := by omega
  have hb : 0 ≤ a1 % 256 ∧ a1 % 256 < 256 := by omega
  have hbd : (a1 % 1024) % 256 = a1 % 256 := by omega
  generalize a1 % 1024 = d at *
  generalize a1 % 256 = b at *
  rw [Int.tmod_eq_emod_of_nonneg (by omega)]
  have hm : 0 ≤ (a0 % 18446744073709551616) % 10 ∧ (a0 % 18446744073709551616) % 10 < 10 := by omega
  generalize (a0 % 18446744073709551616) % 10 = m at *
  rw [wrap64_id (n := m) (by omega) (by omega), wrap64_id (n := 1 + d) (by omega) (by omega), wrap64_id (n := 167837696 - (1 + d)) (by omega) (by omega), wrap64_id (n := 167837697 + (1 + d)) (by omega) (by omega), wrap64_id (n := 167903232 - (1 + d)) (by omega) (by omega), wrap64_id (n := 167903234 + (1 + d)) (by omega) (by omega), wrap64_id (n := 167968768 - (1 + d)) (by omega) (by omega), wrap64_id (n := 167969536 + b) (by omega) (by omega), wrap64_id (n := -(1 + d)) (by omega) (by omega)]
  rw [if_pos hm.1, if_pos (by simp; omega)]
  have key : ∀ a, -9000000000000000000 ≤ a → a ≤ 9000000000000000000 → WhoseNone a → ((addr_Whose.f a).bind fun bt127 => ((wharfagelaw0_Num.f 0).bind fun t131 => (if t131 = 0 then (if bt127.1 = 0 then (if bt127.2.1 = 0 then (if bt127.2.2.1 = 0 then (some (!bt127.2.2.2)) else (some false)) else (some false)) else (some false)) else (some false)))) = some true := by
    intro a l u h
    rw [whose_none a l u h]; rfl
  obtain rfl | rfl | rfl | rfl | rfl | rfl | rfl | rfl | rfl | rfl : m = 0 ∨ m = 1 ∨ m = 2 ∨ m = 3 ∨ m = 4 ∨ m = 5 ∨ m = 6 ∨ m = 7 ∨ m = 8 ∨ m = 9 := by omega
  all_goals
    refine key _ ?_ ?_ ?_
    all_goals (simp [rd, WhoseNone] <;> omega)

end Go.Proofs.Ytdpkfpbdadloaaa.Pure
