/- Each node has an address, no two have one, and it tells whose it is. -/
import Derived.Test.YtdpkfpbdadloaaaPAddrBackx2
import Derived.Test.YtdpkfpbdadloaaaBase
namespace Go.Proofs.Ytdpkfpbdadloaaa.Pure
open Go.RowKit Go.Proofs.Ytdpkfpbdadloaaa.PAddrBack Go.Proofs.YtdpkfpbdadloaaaW.PrintWords Go.Proofs.YtdpkfpbdadloaaaW.PrintLast Go.Proofs.Ytdpkfpbdadloaaa.Wh

theorem below_eq (a b : Int) : addr_below.f a b = some (decide (0 ≤ a ∧ a < b)) := by
  unfold addr_below.f
  by_cases h : a ≥ 0
  · rw [if_pos h]; congr 1; simp; omega
  · rw [if_neg h]; congr 1; simp; omega

theorem address_none (r s i : Int) (h : ¬ (r = 0 ∧ s = 0 ∧ 0 ≤ i ∧ i < 2)) (h1 : ¬ (r = 1 ∧ 0 ≤ s ∧ s < 3 ∧ i = 0)) (h2 : ¬ (r = 2 ∧ 0 ≤ s ∧ s < 3 ∧ 0 ≤ i ∧ i < 4)) (n : Nat) :
    addr_Address.f (n + 2) r s i = some (0, 500) := by
  have j1 : ∀ n, addr_Address.j1 (n + 1) r s i (decide (r = 1 ∧ 0 ≤ s ∧ s < 3 ∧ i = 0)) = some (0, 500) := by
    intro n
    simp only [addr_Address.j1, below_eq, Option.bind_some]
    rw [if_neg (by simpa using h1)]
    by_cases a : r = 2
    · rw [if_pos a]
      by_cases b : 0 ≤ s ∧ s < 3
      · rw [if_pos (by simpa using b), if_neg (by simp; omega)]
      · rw [if_neg (by simpa using b)]
    · rw [if_neg a]
  have j0 : addr_Address.j0 (n + 2) r s i (decide (r = 0 ∧ s = 0 ∧ 0 ≤ i ∧ i < 2)) = some (0, 500) := by
    simp only [addr_Address.j0, below_eq, Option.bind_some]
    rw [if_neg (by simpa using h)]
    by_cases a : r = 1
    · rw [if_pos a]
      by_cases b : 0 ≤ s ∧ s < 3
      · rw [if_pos (by simpa using b)]
        have e := j1 n
        rwa [show decide (r = 1 ∧ 0 ≤ s ∧ s < 3 ∧ i = 0) = (i == 0) by rw [Bool.eq_iff_iff]; simp; omega] at e
      · rw [if_neg (by simpa using b)]
        have e := j1 n
        rwa [show decide (r = 1 ∧ 0 ≤ s ∧ s < 3 ∧ i = 0) = false by simp; omega] at e
    · rw [if_neg a]
      have e := j1 n
      rwa [show decide (r = 1 ∧ 0 ≤ s ∧ s < 3 ∧ i = 0) = false by simp [a]] at e
  unfold addr_Address.f
  simp only [below_eq, Option.bind_some]
  by_cases a : r = 0
  · rw [if_pos a]
    by_cases b : s = 0
    · rw [if_pos b]
      rwa [show decide (r = 0 ∧ s = 0 ∧ 0 ≤ i ∧ i < 2) = decide (0 ≤ i ∧ i < 2) by simp [a, b]] at j0
    · rw [if_neg b]
      rwa [show decide (r = 0 ∧ s = 0 ∧ 0 ≤ i ∧ i < 2) = false by simp [b]] at j0
  · rw [if_neg a]
    rwa [show decide (r = 0 ∧ s = 0 ∧ 0 ≤ i ∧ i < 2) = false by simp [a]] at j0

theorem AddrBack : wharfagelaw5_AddrBack.Pure := by
  intro r s i hr hs hi
  refine ⟨300, ?_⟩
  by_cases h : r = 0 ∧ s = 0 ∧ 0 ≤ i ∧ i < 2
  · obtain ⟨rfl, rfl, a, b⟩ := h
    obtain rfl | rfl : i = 0 ∨ i = 1 := by omega
    all_goals decide +kernel
  · by_cases h1 : r = 1 ∧ 0 ≤ s ∧ s < 3 ∧ i = 0
    · obtain ⟨rfl, a, b, rfl⟩ := h1
      obtain rfl | rfl | rfl : s = 0 ∨ s = 1 ∨ s = 2 := by omega
      all_goals decide +kernel
    · by_cases h2 : r = 2 ∧ 0 ≤ s ∧ s < 3 ∧ 0 ≤ i ∧ i < 4
      · obtain ⟨rfl, a, b, c, d⟩ := h2
        obtain rfl | rfl | rfl : s = 0 ∨ s = 1 ∨ s = 2 := by omega
        all_goals
          obtain rfl | rfl | rfl | rfl : i = 0 ∨ i = 1 ∨ i = 2 ∨ i = 3 := by omega
          all_goals decide +kernel
      · unfold wharfagelaw5_AddrBack.f
        rw [show wharfagelaw5_awake.f 300 = some true by decide +kernel]
        simp only [Option.bind_some, if_true]
        rw [address_none r s i h h1 h2 298]
        simp [wharfagelaw0_Num.f]

end Go.Proofs.Ytdpkfpbdadloaaa.Pure
