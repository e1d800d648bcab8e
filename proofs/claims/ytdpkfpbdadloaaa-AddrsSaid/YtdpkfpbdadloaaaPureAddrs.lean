/- The program's addresses, and whose an address is, are the document's, at any numbers. -/
import Derived.Test.YtdpkfpbdadloaaaPAddrsx2
import Derived.Test.YtdpkfpbdadloaaaBase
namespace Go.Proofs.Ytdpkfpbdadloaaa.Pure
open Go.RowKit Go.Proofs.Ytdpkfpbdadloaaa.PAddrs Go.Proofs.YtdpkfpbdadloaaaW.PrintWords Go.Proofs.YtdpkfpbdadloaaaW.PrintLast Go.Proofs.Ytdpkfpbdadloaaa.Wh

theorem below_eq (a b : Int) : addr_below.f a b = some (decide (0 ≤ a ∧ a < b)) := by
  unfold addr_below.f
  by_cases h : a ≥ 0
  · rw [if_pos h]; congr 1; simp; omega
  · rw [if_neg h]; congr 1; simp; omega

theorem address_none (r s i : Int) (h : ¬ (r = 0 ∧ s = 0 ∧ 0 ≤ i ∧ i < 2)) (h1 : ¬ (r = 1 ∧ 0 ≤ s ∧ s < 3 ∧ i = 0)) (h2 : ¬ (r = 2 ∧ 0 ≤ s ∧ s < 3 ∧ 0 ≤ i ∧ i < 4)) (n : Nat) :
    addr_Address.f (n + 2) r s i = some (0, 500) := by
  have j1 : ∀ n, addr_Address.j1 (n + 1) r s i (decide (r = 1 ∧ 0 ≤ s ∧ s < 3 ∧ i = 0)) = some (0, 500) := by
    intro n
    simp only [addr_Address.j1, below_eq, Option.bind_some]
    rw [if_neg (by simpa using h1)]
    by_cases a : r = 2
    · rw [if_pos a]
      by_cases b : 0 ≤ s ∧ s < 3
      · rw [if_pos (by simpa using b), if_neg (by simp; omega)]
      · rw [if_neg (by simpa using b)]
    · rw [if_neg a]
  have j0 : addr_Address.j0 (n + 2) r s i (decide (r = 0 ∧ s = 0 ∧ 0 ≤ i ∧ i < 2)) = some (0, 500) := by
    simp only [addr_Address.j0, below_eq, Option.bind_some]
    rw [if_neg (by simpa using h)]
    by_cases a : r = 1
    · rw [if_pos a]
      by_cases b : 0 ≤ s ∧ s < 3
      · rw [if_pos (by simpa using b)]
        have e := j1 n
        rwa [show decide (r = 1 ∧ 0 ≤ s ∧ s < 3 ∧ i = 0) = (i == 0) by rw [Bool.eq_iff_iff]; simp; omega] at e
      · rw [if_neg (by simpa using b)]
        have e := j1 n
        rwa [show decide (r = 1 ∧ 0 ≤ s ∧ s < 3 ∧ i = 0) = false by simp; omega] at e
    · rw [if_neg a]
      have e := j1 n
      rwa [show decide (r = 1 ∧ 0 ≤ s ∧ s < 3 ∧ i = 0) = false by simp [a]] at e
  unfold addr_Address.f
  simp only [below_eq, Option.bind_some]
  by_cases a : r = 0
  · rw [if_pos a]
    by_cases b : s = 0
    · rw [if_pos b]
      rwa [show decide (r = 0 ∧ s = 0 ∧ 0 ≤ i ∧ i < 2) = decide (0 ≤ i ∧ i < 2) by simp [a, b]] at j0
    · rw [if_neg b]
      rwa [show decide (r = 0 ∧ s = 0 ∧ 0 ≤ i ∧ i < 2) = false by simp [b]] at j0
  · rw [if_neg a]
    rwa [show decide (r = 0 ∧ s = 0 ∧ 0 ≤ i ∧ i < 2) = false by simp [a]] at j0


theorem ref_none (r s i : Int) (h : ¬ (r = 0 ∧ s = 0 ∧ 0 ≤ i ∧ i < 2)) (h1 : ¬ (r = 1 ∧ 0 ≤ s ∧ s < 3 ∧ i = 0)) (h2 : ¬ (r = 2 ∧ 0 ≤ s ∧ s < 3 ∧ 0 ≤ i ∧ i < 4)) (n : Nat) :
    wharfageref1_Address.f (n + 2) r s i = some (0, 500) := by
  unfold wharfageref1_Address.f
  simp only [wharfageref1_Address.j0, wharfageref1_Address.j1]
  simp only [decide_eq_true_eq]
  repeat' (first | rfl | (refine ite_to (fun _ => ?_) (fun _ => ?_)))
  all_goals first | contradiction | (exfalso; omega)

theorem address_same (r s i : Int) : addr_Address.f 60 r s i = wharfageref1_Address.f 60 r s i ∧ (addr_Address.f 60 r s i).isSome = true := by
  by_cases h : r = 0 ∧ s = 0 ∧ 0 ≤ i ∧ i < 2
  · obtain ⟨rfl, rfl, a, b⟩ := h
    obtain rfl | rfl : i = 0 ∨ i = 1 := by omega
    all_goals decide +kernel
  · by_cases h1 : r = 1 ∧ 0 ≤ s ∧ s < 3 ∧ i = 0
    · obtain ⟨rfl, a, b, rfl⟩ := h1
      obtain rfl | rfl | rfl : s = 0 ∨ s = 1 ∨ s = 2 := by omega
      all_goals decide +kernel
    · by_cases h2 : r = 2 ∧ 0 ≤ s ∧ s < 3 ∧ 0 ≤ i ∧ i < 4
      · obtain ⟨rfl, a, b, c, d⟩ := h2
        obtain rfl | rfl | rfl : s = 0 ∨ s = 1 ∨ s = 2 := by omega
        all_goals
          obtain rfl | rfl | rfl | rfl : i = 0 ∨ i = 1 ∨ i = 2 ∨ i = 3 := by omega
          all_goals decide +kernel
      · rw [address_none r s i h h1 h2 58, ref_none r s i h h1 h2 58]; exact ⟨rfl, rfl⟩

def Known (a : Int) : Prop := 167837696 ≤ a ∧ a < 167837698 ∨ 167903232 ≤ a ∧ a < 167903235 ∨ 167968768 ≤ a ∧ a < 167969536 ∧ (a - 167968768) % 256 < 4
theorem whose_none (a : Int) (l : -9223372036854775808 ≤ a) (u : a ≤ 9223372036854775807) (h : ¬ Known a) : addr_Whose.f a = some (0, 0, 0, false) := by
  unfold Known at h
  unfold addr_Whose.f
  simp only [below_eq, Option.bind_some]
  rw [if_neg (by simp; unfold wrap64; omega), if_neg (by simp; unfold wrap64; omega)]
  by_cases c : 0 ≤ wrap64 (a - 167968768) ∧ wrap64 (a - 167968768) < 768
  · rw [if_pos (by simpa using c), Int.tmod_eq_emod_of_nonneg c.1, if_neg (by unfold wrap64 at *; omega)]
  · rw [if_neg (by simpa using c)]
theorem wr (x y : Int) (h : x + 1 = y) (l : -9223372036854775808 ≤ y) (u : y ≤ 9223372036854775807) : wrap64 (x + 1) = y := by rw [h, wrap64_id l u]
theorem refWhose_none (a : Int) (h : ¬ Known a) : wharfageref1_Whose.f 60 a = some (0, 0, 0, false) := by
  unfold Known at h
  unfold wharfageref1_Whose.f
  have e59 : ∀ k, wharfageref1_Whose.l0 (k + 1) a 0 = wharfageref1_Whose.l0 k a 1 := by
    intro k; simp only [wharfageref1_Whose.l0]; rw [if_pos (by decide), if_neg (by unfold wrap64; omega)]
    first | done | exact congrArg _ (wr _ _ rfl (by decide) (by decide))
  have e58 : ∀ k, wharfageref1_Whose.l0 (k + 1) a 1 = wharfageref1_Whose.l0 k a 2 := by
    intro k; simp only [wharfageref1_Whose.l0]; rw [if_pos (by decide), if_neg (by unfold wrap64; omega)]
    first | done | exact congrArg _ (wr _ _ rfl (by decide) (by decide))
  have e57 : ∀ k, wharfageref1_Whose.l0 (k + 1) a 2 = wharfageref1_Whose.l1 k a 0 := by
    intro k; simp only [wharfageref1_Whose.l0]; rw [if_neg (by decide)]
    first | done | exact congrArg _ (wr _ _ rfl (by decide) (by decide))
  have e56 : ∀ k, wharfageref1_Whose.l1 (k + 1) a 0 = wharfageref1_Whose.l2 k a 0 0 := by
    intro k; simp only [wharfageref1_Whose.l1]; rw [if_pos (by decide), if_neg (by unfold wrap64; omega)]
    first | done | exact congrArg _ (wr _ _ rfl (by decide) (by decide))
  have e55 : ∀ k, wharfageref1_Whose.l2 (k + 1) a 0 0 = wharfageref1_Whose.l2 k a 0 1 := by
    intro k; simp only [wharfageref1_Whose.l2]; rw [if_pos (by decide), if_neg (by unfold wrap64; omega)]
    first | done | exact congrArg _ (wr _ _ rfl (by decide) (by decide))
  have e54 : ∀ k, wharfageref1_Whose.l2 (k + 1) a 0 1 = wharfageref1_Whose.l2 k a 0 2 := by
    intro k; simp only [wharfageref1_Whose.l2]; rw [if_pos (by decide), if_neg (by unfold wrap64; omega)]
    first | done | exact congrArg _ (wr _ _ rfl (by decide) (by decide))
  have e53 : ∀ k, wharfageref1_Whose.l2 (k + 1) a 0 2 = wharfageref1_Whose.l2 k a 0 3 := by
    intro k; simp only [wharfageref1_Whose.l2]; rw [if_pos (by decide), if_neg (by unfold wrap64; omega)]
    first | done | exact congrArg _ (wr _ _ rfl (by decide) (by decide))
  have e52 : ∀ k, wharfageref1_Whose.l2 (k + 1) a 0 3 = wharfageref1_Whose.l2 k a 0 4 := by
    intro k; simp only [wharfageref1_Whose.l2]; rw [if_pos (by decide), if_neg (by unfold wrap64; omega)]
    first | done | exact congrArg _ (wr _ _ rfl (by decide) (by decide))
  have e51 : ∀ k, wharfageref1_Whose.l2 (k + 1) a 0 4 = wharfageref1_Whose.l1 k a 1 := by
    intro k; simp only [wharfageref1_Whose.l2]; rw [if_neg (by decide)]
    first | done | exact congrArg _ (wr _ _ rfl (by decide) (by decide))
  have e50 : ∀ k, wharfageref1_Whose.l1 (k + 1) a 1 = wharfageref1_Whose.l2 k a 1 0 := by
    intro k; simp only [wharfageref1_Whose.l1]; rw [if_pos (by decide), if_neg (by unfold wrap64; omega)]
    first | done | exact congrArg _ (wr _ _ rfl (by decide) (by decide))
  have e49 : ∀ k, wharfageref1_Whose.l2 (k + 1) a 1 0 = wharfageref1_Whose.l2 k a 1 1 := by
    intro k; simp only [wharfageref1_Whose.l2]; rw [if_pos (by decide), if_neg (by unfold wrap64; omega)]
    first | done | exact congrArg _ (wr _ _ rfl (by decide) (by decide))
  have e48 : ∀ k, wharfageref1_Whose.l2 (k + 1) a 1 1 = wharfageref1_Whose.l2 k a 1 2 := by
    intro k; simp only [wharfageref1_Whose.l2]; rw [if_pos (by decide), if_neg (by unfold wrap64; omega)]
    first | done | exact congrArg _ (wr _ _ rfl (by decide) (by decide))
  have e47 : ∀ k, wharfageref1_Whose.l2 (k + 1) a 1 2 = wharfageref1_Whose.l2 k a 1 3 := by
    intro k; simp only [wharfageref1_Whose.l2]; rw [if_pos (by decide), if_neg (by unfold wrap64; omega)]
    first | done | exact congrArg _ (wr _ _ rfl (by decide) (by decide))
  have e46 : ∀ k, wharfageref1_Whose.l2 (k + 1) a 1 3 = wharfageref1_Whose.l2 k a 1 4 := by
    intro k; simp only [wharfageref1_Whose.l2]; rw [if_pos (by decide), if_neg (by unfold wrap64; omega)]
    first | done | exact congrArg _ (wr _ _ rfl (by decide) (by decide))
  have e45 : ∀ k, wharfageref1_Whose.l2 (k + 1) a 1 4 = wharfageref1_Whose.l1 k a 2 := by
    intro k; simp only [wharfageref1_Whose.l2]; rw [if_neg (by decide)]
    first | done | exact congrArg _ (wr _ _ rfl (by decide) (by decide))
  have e44 : ∀ k, wharfageref1_Whose.l1 (k + 1) a 2 = wharfageref1_Whose.l2 k a 2 0 := by
    intro k; simp only [wharfageref1_Whose.l1]; rw [if_pos (by decide), if_neg (by unfold wrap64; omega)]
    first | done | exact congrArg _ (wr _ _ rfl (by decide) (by decide))
  have e43 : ∀ k, wharfageref1_Whose.l2 (k + 1) a 2 0 = wharfageref1_Whose.l2 k a 2 1 := by
    intro k; simp only [wharfageref1_Whose.l2]; rw [if_pos (by decide), if_neg (by unfold wrap64; omega)]
    first | done | exact congrArg _ (wr _ _ rfl (by decide) (by decide))
  have e42 : ∀ k, wharfageref1_Whose.l2 (k + 1) a 2 1 = wharfageref1_Whose.l2 k a 2 2 := by
    intro k; simp only [wharfageref1_Whose.l2]; rw [if_pos (by decide), if_neg (by unfold wrap64; omega)]
    first | done | exact congrArg _ (wr _ _ rfl (by decide) (by decide))
  have e41 : ∀ k, wharfageref1_Whose.l2 (k + 1) a 2 2 = wharfageref1_Whose.l2 k a 2 3 := by
    intro k; simp only [wharfageref1_Whose.l2]; rw [if_pos (by decide), if_neg (by unfold wrap64; omega)]
    first | done | exact congrArg _ (wr _ _ rfl (by decide) (by decide))
  have e40 : ∀ k, wharfageref1_Whose.l2 (k + 1) a 2 3 = wharfageref1_Whose.l2 k a 2 4 := by
    intro k; simp only [wharfageref1_Whose.l2]; rw [if_pos (by decide), if_neg (by unfold wrap64; omega)]
    first | done | exact congrArg _ (wr _ _ rfl (by decide) (by decide))
  have e39 : ∀ k, wharfageref1_Whose.l2 (k + 1) a 2 4 = wharfageref1_Whose.l1 k a 3 := by
    intro k; simp only [wharfageref1_Whose.l2]; rw [if_neg (by decide)]
    first | done | exact congrArg _ (wr _ _ rfl (by decide) (by decide))
  have z : ∀ k, wharfageref1_Whose.l1 (k + 1) a 3 = some (0, 0, 0, false) := by intro k; simp only [wharfageref1_Whose.l1]; rw [if_neg (by decide)]
  exact (e59 _).trans ((e58 _).trans ((e57 _).trans ((e56 _).trans ((e55 _).trans ((e54 _).trans ((e53 _).trans ((e52 _).trans ((e51 _).trans ((e50 _).trans ((e49 _).trans ((e48 _).trans ((e47 _).trans ((e46 _).trans ((e45 _).trans ((e44 _).trans ((e43 _).trans ((e42 _).trans ((e41 _).trans ((e40 _).trans ((e39 _).trans (z _)))))))))))))))))))))
theorem whose_same (a : Int) (l : -9223372036854775808 ≤ a) (u : a ≤ 9223372036854775807) : addr_Whose.f a = wharfageref1_Whose.f 60 a ∧ (addr_Whose.f a).isSome = true := by
  by_cases h : Known a
  · have hh : a = 167837696 ∨ a = 167837697 ∨ a = 167903232 ∨ a = 167903233 ∨ a = 167903234 ∨ a = 167968768 ∨ a = 167968769 ∨ a = 167968770 ∨ a = 167968771 ∨ a = 167969024 ∨ a = 167969025 ∨ a = 167969026 ∨ a = 167969027 ∨ a = 167969280 ∨ a = 167969281 ∨ a = 167969282 ∨ a = 167969283 := by
      unfold Known at h; omega
    rcases hh with rfl | rfl | rfl | rfl | rfl | rfl | rfl | rfl | rfl | rfl | rfl | rfl | rfl | rfl | rfl | rfl | rfl
    all_goals decide +kernel
  · rw [whose_none a l u h, refWhose_none a h]; exact ⟨rfl, rfl⟩
theorem Addrs : wharfagelaw5_Addrs.Pure := by
  intro r s i a hr hs hi ha
  obtain ⟨h1, h2⟩ := address_same r s i
  obtain ⟨h3, h4⟩ := whose_same a (wf_i64 ha).1 (wf_i64 ha).2
  obtain ⟨⟨x, e⟩, h2⟩ := Option.isSome_iff_exists.mp h2
  obtain ⟨⟨y0, y1, y2, y3⟩, h4⟩ := Option.isSome_iff_exists.mp h4
  refine ⟨60, ?_⟩
  unfold wharfagelaw5_Addrs.f
  rw [← h1, ← h3, h2, h4, show wharfagelaw5_awake.f 60 = some true by decide +kernel]
  simp [wharfagelaw0_Num.f]

end Go.Proofs.Ytdpkfpbdadloaaa.Pure
