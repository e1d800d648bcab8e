/- Plain laws: addresses; heads that are pushed, popped. -/
import Derived.Test.YtobhmonmeocfmaaQ6
namespace Go.Proofs.Ytobhmonmeocfmaa.Pu
set_option linter.unusedSimpArgs false
set_option linter.unusedVariables false
open Go Go.RowKit Go.Proofs.Ytobhmonmeocfmaa.Sv Go.Proofs.Ytobhmonmeocfmaa.Lf
attribute [local irreducible] L_ref1_Num L_ip_Bytes L_ip_Number L_ref1_Of L_sum_Sum L_ref1_Sum
theorem below_eq (N : Nat) (a b : Int) : L_addr_below N a b = some (decide (0 ≤ a ∧ a < b)) := by
  unfold L_addr_below L_addr_below_1
  rw [bifS]
  congr 1
  by_cases h : a ≥ 0 <;> by_cases k : a < b <;> simp [h, k] <;> omega
def whoA (a : Int) : Int × Int × Int × Bool :=
  if 167837696 ≤ a ∧ a < 167837698 then (0, 0, a - 167837696, true)
  else if 167903232 ≤ a ∧ a < 167903235 then (1, a - 167903232, 0, true)
  else if 167968768 ≤ a ∧ a < 167969536 ∧ (a - 167968768) % 256 < 4 then (2, (a - 167968768) / 256, (a - 167968768) % 256, true)
  else (0, 0, 0, false)
def RA (a : Int) : Prop := -4611686018427387904 ≤ a ∧ a ≤ 4611686018427387904
theorem Whose_eq (N : Nat) (a : Int) (h : RA a) : L_addr_Whose N a = some (whoA a) := by
  unfold RA at h
  unfold L_addr_Whose L_addr_Whose_1 whoA
  simp only [below_eq, Option.bind_some]
  rw [w64 (n := a - 167837696) (by omega) (by omega), w64 (n := a - 167903232) (by omega) (by omega), w64 (n := a - 167968768) (by omega) (by omega)]
  by_cases c1 : 167837696 ≤ a ∧ a < 167837698
  · rw [if_pos c1, decide_eq_true (show 0 ≤ a - 167837696 ∧ a - 167837696 < 2 by omega)]; rfl
  rw [if_neg c1, decide_eq_false (show ¬ (0 ≤ a - 167837696 ∧ a - 167837696 < 2) by omega)]
  by_cases c2 : 167903232 ≤ a ∧ a < 167903235
  · rw [if_pos c2, decide_eq_true (show 0 ≤ a - 167903232 ∧ a - 167903232 < 3 by omega)]; rfl
  rw [if_neg c2, decide_eq_false (show ¬ (0 ≤ a - 167903232 ∧ a - 167903232 < 3) by omega)]
  by_cases c3 : 0 ≤ a - 167968768 ∧ a - 167968768 < 768
  · rw [decide_eq_true c3, Int.tmod_eq_emod_of_nonneg c3.1, Int.tdiv_eq_ediv_of_nonneg c3.1, w64 (by omega) (by omega)]
    by_cases c4 : (a - 167968768) % 256 < 4
    · rw [if_pos (by omega)]
      refine stFF (stFF (stTT (stVia ?_)))
      rw [decide_eq_true c4]; rfl
    · rw [if_neg (by omega)]
      refine stFF (stFF (stTT (stVia ?_)))
      rw [decide_eq_false c4]; rfl
  · rw [decide_eq_false c3, if_neg (by omega)]; rfl
theorem who3_step (N k : Nat) (r2 : Int → Int → Option (Int × Int × Int × Bool)) (a : Int) (s j : Int) (hs : 0 ≤ s ∧ s < 3) (hj : 0 ≤ j ∧ j < 4) : L_ref1_Whose_3 N r2 (k + 1) a s j = if a = 167968768 + 256 * s + j then some (2, s, j, true) else L_ref1_Whose_3 N r2 k a s (j + 1) := by
  rw [L_ref1_Whose_3, condd, if_pos hj.2, w64 (n := 256 * s) (by omega) (by omega), w64 (n := 167968768 + 256 * s) (by omega) (by omega), viaE, w64 (n := 167968768 + 256 * s + j) (by omega) (by omega), w64 (n := j + 1) (by omega) (by omega), ceq]
theorem who3_end (N k : Nat) (r2 : Int → Int → Option (Int × Int × Int × Bool)) (a : Int) (s j : Int) (hs : 0 ≤ s ∧ s < 3) (hj : j = 4) : L_ref1_Whose_3 N r2 (k + 1) a s j = r2 a (s + 1) := by
  rw [L_ref1_Whose_3, condd, if_neg (by omega), w64 (n := s + 1) (by omega) (by omega)]
theorem who3 {N : Nat} (hN : 1000 ≤ N) (r2 : Int → Int → Option (Int × Int × Int × Bool)) (a : Int) (s : Int) (hs : 0 ≤ s ∧ s < 3) : L_ref1_Whose_3 N r2 N a s 0 = if 0 ≤ a - (167968768 + 256 * s) ∧ a - (167968768 + 256 * s) < 4 then some (2, s, a - (167968768 + 256 * s), true) else r2 a (s + 1) := by
  obtain ⟨k, hk⟩ : ∃ k, N = k + 5 := ⟨N - 5, by omega⟩
  have e : ∀ f, L_ref1_Whose_3 N r2 (f + 5) a s 0 = if 0 ≤ a - (167968768 + 256 * s) ∧ a - (167968768 + 256 * s) < 4 then some (2, s, a - (167968768 + 256 * s), true) else r2 a (s + 1) := by
    intro f
    rw [who3_step N (f + 4) r2 a s 0 hs (by decide), who3_step N (f + 3) r2 a s (0 + 1) hs (by decide), who3_step N (f + 2) r2 a s (0 + 1 + 1) hs (by decide), who3_step N (f + 1) r2 a s (0 + 1 + 1 + 1) hs (by decide), who3_end N f r2 a s _ hs (by decide)]
    generalize 167968768 + 256 * s = b
    by_cases c : 0 ≤ a - b ∧ a - b < 4
    · rw [if_pos c]
      by_cases c0 : a = b + 0
      · rw [if_pos c0]; subst c0; simp
      rw [if_neg c0]
      by_cases c1 : a = b + (0 + 1)
      · rw [if_pos c1]; subst c1; simp; omega
      rw [if_neg c1]
      by_cases c2 : a = b + (0 + 1 + 1)
      · rw [if_pos c2]; subst c2; simp; omega
      rw [if_neg c2, if_pos (by omega)]
      simp; omega
    · rw [if_neg c, if_neg (by omega), if_neg (by omega), if_neg (by omega), if_neg (by omega)]
  rw [show L_ref1_Whose_3 N r2 N a s 0 = L_ref1_Whose_3 N r2 (k + 5) a s 0 by rw [← hk]]
  exact e k
theorem who2_step {N : Nat} (hN : 1000 ≤ N) (k : Nat) (a s : Int) (hs : 0 ≤ s ∧ s < 3) : L_ref1_Whose_2 N (k + 1) a s = if a = 167903232 + s then some (1, s, 0, true) else if 0 ≤ a - (167968768 + 256 * s) ∧ a - (167968768 + 256 * s) < 4 then some (2, s, a - (167968768 + 256 * s), true) else L_ref1_Whose_2 N k a (s + 1) := by
  rw [L_ref1_Whose_2, condd, if_pos hs.2, w64 (n := 167903232 + s) (by omega) (by omega), ceq, who3 hN _ a s hs]
theorem RWhose_eq {N : Nat} (hN : 1000 ≤ N) (a : Int) : L_ref1_Whose N a = some (whoA a) := by
  obtain ⟨k, hk⟩ : ∃ k, N = k + 5 := ⟨N - 5, by omega⟩
  have e1 : ∀ f s, 0 ≤ s ∧ s < 2 → L_ref1_Whose_1 N (f + 1) a s = if a = 167837696 + s then some (0, 0, s, true) else L_ref1_Whose_1 N f a (s + 1) := fun f s hs => by
    rw [L_ref1_Whose_1, condd, if_pos hs.2, w64 (n := 167837696 + s) (by omega) (by omega), w64 (n := s + 1) (by omega) (by omega), ceq]
  have e1' : ∀ f, L_ref1_Whose_1 N (f + 1) a 2 = L_ref1_Whose_2 N N a 0 := fun f => by
    rw [L_ref1_Whose_1, condd, if_neg (by decide)]
  have e2' : ∀ f, L_ref1_Whose_2 N (f + 1) a 3 = some (0, 0, 0, false) := fun f => by
    rw [L_ref1_Whose_2, condd, if_neg (by decide)]
  have e2 : L_ref1_Whose_2 N N a 0 = L_ref1_Whose_2 N (k + 5) a 0 := by rw [← hk]
  have e3 : L_ref1_Whose N a = L_ref1_Whose_1 N (k + 5) a 0 := by unfold L_ref1_Whose; rw [← hk]
  rw [e3, e1 (k + 4) 0 (by decide), e1 (k + 3) (0 + 1) (by decide), show (0 + 1 + 1 : Int) = 2 from rfl, e1' (k + 2), e2, who2_step hN (k + 4) a 0 (by decide), who2_step hN (k + 3) a (0 + 1) (by decide), who2_step hN (k + 2) a (0 + 1 + 1) (by decide), show (0 + 1 + 1 + 1 : Int) = 3 from rfl, e2' (k + 1)]
  simp only [Int.reduceAdd, Int.reduceMul, Int.zero_add, Int.add_zero]
  unfold whoA
  by_cases c1 : 167837696 ≤ a ∧ a < 167837698
  · rw [if_pos c1]
    by_cases x : a = 167837696
    · rw [if_pos x]; subst x; rfl
    · rw [if_neg x, if_pos (by omega)]
      obtain rfl : a = 167837697 := by omega
      rfl
  rw [if_neg c1, if_neg (by omega), if_neg (by omega)]
  by_cases c2 : 167903232 ≤ a ∧ a < 167903235
  · rw [if_pos c2]
    obtain rfl | rfl | rfl : a = 167903232 ∨ a = 167903233 ∨ a = 167903234 := by omega
    all_goals rfl
  rw [if_neg c2, if_neg (by omega)]
  by_cases c3 : 167968768 ≤ a ∧ a < 167969536 ∧ (a - 167968768) % 256 < 4
  · rw [if_pos c3]
    by_cases x : a - 167968768 < 4
    · rw [if_pos (by omega)]
      simp only [Option.some.injEq, Prod.mk.injEq, true_and, and_true]
      omega
    rw [if_neg (by omega), if_neg (by omega)]
    by_cases x : a - 167969024 < 4
    · rw [if_pos (by omega)]
      simp only [Option.some.injEq, Prod.mk.injEq, true_and, and_true]
      omega
    rw [if_neg (by omega), if_neg (by omega), if_pos (by omega)]
    simp only [Option.some.injEq, Prod.mk.injEq, true_and, and_true]
    omega
  · rw [if_neg c3, if_neg (by omega), if_neg (by omega), if_neg (by omega), if_neg (by omega), if_neg (by omega)]
def addrA (role site id : Int) : Int × Int :=
  if role = 0 ∧ site = 0 ∧ 0 ≤ id ∧ id < 2 then (167837696 + id, 0)
  else if role = 1 ∧ id = 0 ∧ 0 ≤ site ∧ site < 3 then (167903232 + site, 0)
  else if role = 2 ∧ 0 ≤ site ∧ site < 3 ∧ 0 ≤ id ∧ id < 4 then (167968768 + 256 * site + id, 0)
  else (0, 500)
theorem Address_eq (N : Nat) (role site id : Int) : L_addr_Address N role site id = some (addrA role site id) := by
  unfold L_addr_Address L_addr_Address_1 L_addr_Address_2 L_addr_Address_3 addrA
  simp only [below_eq, Option.bind_some, viaE]
  by_cases c1 : role = 0 ∧ site = 0 ∧ 0 ≤ id ∧ id < 2
  · rw [if_pos c1, decide_eq_true c1.2.2]
    refine stET c1.1 (stET c1.2.1 (stTT ?_))
    rw [w64 (by omega) (by omega)]
  rw [if_neg c1]
  by_cases c2 : role = 1 ∧ id = 0 ∧ 0 ≤ site ∧ site < 3
  · rw [if_pos c2, decide_eq_true c2.2.2]
    refine stEF (by omega) (stFF (stET c2.1 (stTT ?_)))
    rw [show (id == 0) = true by rw [c2.2.1]; rfl, w64 (by omega) (by omega)]
    rfl
  rw [if_neg c2]
  by_cases c3 : role = 2 ∧ 0 ≤ site ∧ site < 3 ∧ 0 ≤ id ∧ id < 4
  · rw [if_pos c3, decide_eq_true (show 0 ≤ site ∧ site < 3 by omega), decide_eq_true (show 0 ≤ id ∧ id < 4 by omega)]
    refine stEF (by omega) (stFF (stEF (by omega) (stFF (stET c3.1 (stTT (stTT ?_))))))
    rw [w64 (n := 256 * site) (by omega) (by omega), w64 (n := 167968768 + 256 * site) (by omega) (by omega), w64 (by omega) (by omega)]
  rw [if_neg c3]
  by_cases r0 : role = 0
  · refine stET r0 ?_
    by_cases s0 : site = 0
    · rw [decide_eq_false (show ¬ (0 ≤ id ∧ id < 2) by omega)]
      refine stET s0 (stFF (stEF (by omega) (stFF (stEF (by omega) rfl))))
    · refine stEF s0 (stFF (stEF (by omega) (stFF (stEF (by omega) rfl))))
  · refine stEF r0 (stFF ?_)
    by_cases r1 : role = 1
    · refine stET r1 ?_
      by_cases s1 : 0 ≤ site ∧ site < 3
      · rw [decide_eq_true s1, show (id == 0) = false by rw [beq_eq_false_iff_ne]; omega]
        refine stTT (stFF (stEF (by omega) rfl))
      · rw [decide_eq_false s1]
        refine stFF (stFF (stEF (by omega) rfl))
    · refine stEF r1 (stFF ?_)
      by_cases r2 : role = 2
      · refine stET r2 ?_
        by_cases s1 : 0 ≤ site ∧ site < 3
        · rw [decide_eq_true s1, decide_eq_false (show ¬ (0 ≤ id ∧ id < 4) by omega)]
          rfl
        · rw [decide_eq_false s1]
          rfl
      · exact stEF r2 rfl
theorem RAddress_eq (N : Nat) (role site id : Int) : L_ref1_Address N role site id = some (addrA role site id) := by
  unfold L_ref1_Address L_ref1_Address_1 L_ref1_Address_2 L_ref1_Address_3 addrA
  simp only [viaE]
  by_cases c1 : role = 0 ∧ site = 0 ∧ 0 ≤ id ∧ id < 2
  · rw [if_pos c1]
    refine stET c1.1 (stET c1.2.1 (stDT c1.2.2.1 ?_))
    rw [decide_eq_true c1.2.2.2, w64 (by omega) (by omega)]
    rfl
  rw [if_neg c1]
  by_cases c2 : role = 1 ∧ id = 0 ∧ 0 ≤ site ∧ site < 3
  · rw [if_pos c2]
    refine stEF (by omega) (stFF (stET c2.1 (stET c2.2.1 (stDT c2.2.2.1 ?_))))
    rw [decide_eq_true c2.2.2.2, w64 (by omega) (by omega)]
    rfl
  rw [if_neg c2]
  by_cases c3 : role = 2 ∧ 0 ≤ site ∧ site < 3 ∧ 0 ≤ id ∧ id < 4
  · rw [if_pos c3]
    refine stEF (by omega) (stFF (stEF (by omega) (stFF (stET c3.1 (stDT c3.2.1 (stDT c3.2.2.1 (stDT c3.2.2.2.1 ?_)))))))
    rw [decide_eq_true c3.2.2.2.2, w64 (n := 256 * site) (by omega) (by omega), w64 (n := 167968768 + 256 * site) (by omega) (by omega), w64 (by omega) (by omega)]
    rfl
  rw [if_neg c3]
  have key : ∀ t, (bif role == 2 then bif decide (site ≥ 0) then bif decide (site < 3) then bif decide (id ≥ 0) then (bif decide (id < 4) then some t else some ((0 : Int), (500 : Int))) else bif false then some t else some (0, 500) else bif false then some t else some (0, 500) else bif false then some t else some (0, 500) else bif false then some t else some (0, 500)) = some (0, 500) := by
    intro t
    by_cases r2 : role = 2
    · refine stET r2 ?_
      by_cases q1 : site ≥ 0
      · refine stDT q1 ?_
        by_cases q2 : site < 3
        · refine stDT q2 ?_
          by_cases q3 : id ≥ 0
          · refine stDT q3 (stDF (by omega) rfl)
          · exact stDF q3 rfl
        · exact stDF q2 rfl
      · exact stDF q1 rfl
    · exact stEF r2 rfl
  by_cases r0 : role = 0
  · have k2 := key (IntKind.i64.wrap (IntKind.i64.wrap (167968768 + IntKind.i64.wrap (256 * site)) + id), 0)
    refine stET r0 ?_
    by_cases s0 : site = 0
    · refine stET s0 ?_
      by_cases i0 : id ≥ 0
      · refine stDT i0 ?_
        rw [decide_eq_false (show ¬ id < 2 by omega)]
        exact stFF (stEF (by omega) (stFF k2))
      · exact stDF i0 (stFF (stEF (by omega) (stFF k2)))
    · exact stEF s0 (stFF (stEF (by omega) (stFF k2)))
  · refine stEF r0 (stFF ?_)
    have k2 := key (IntKind.i64.wrap (IntKind.i64.wrap (167968768 + IntKind.i64.wrap (256 * site)) + id), 0)
    by_cases r1 : role = 1
    · refine stET r1 ?_
      by_cases i0 : id = 0
      · refine stET i0 ?_
        by_cases q1 : site ≥ 0
        · refine stDT q1 ?_
          rw [decide_eq_false (show ¬ site < 3 by omega)] at k2 ⊢
          exact stFF k2
        · exact stDF q1 (stFF k2)
      · exact stEF i0 (stFF k2)
    · exact stEF r1 (stFF k2)
end Go.Proofs.Ytobhmonmeocfmaa.Pu
