import Derived.Test.YthhlflmjikdgcaaM1r
set_option linter.unusedVariables false
set_option linter.unusedSimpArgs false
namespace Go.Proofs.Ythhlflmjikdgcaa.Pu
open Go Go.RowKit Go.Proofs.Ythhlflmjikdgcaa.Sv Go.Proofs.Ythhlflmjikdgcaa.Lf
set_option maxRecDepth 100000 in
theorem awake9 : L_law9_awake 281474976710656 = some true := by decide +kernel
theorem SameInts_loop (N : Nat) (T : List Int) (hT : T.length ≤ 140737488355328) : ∀ (d fuel i : Nat), T.length = i + d → d < fuel → L_law0_SameInts_1 N fuel T T (i : Int) = some true := by
  intro d
  induction d with
  | zero =>
    intro fuel i hi hf
    obtain ⟨fuel, rfl⟩ : ∃ f, fuel = f + 1 := ⟨fuel - 1, by omega⟩
    rw [L_law0_SameInts_1]
    exact stDF (by omega) rfl
  | succ d ih =>
    intro fuel i hi hf
    obtain ⟨fuel, rfl⟩ : ∃ f, fuel = f + 1 := ⟨fuel - 1, by omega⟩
    rw [L_law0_SameInts_1, w64 (n := (i : Int) + 1) (by omega) (by omega)]
    exact stDT (by omega) (stIf (by omega) (stIf (by omega) (stNT rfl (ih fuel (i + 1) (by omega) (by omega)))))
theorem Spoil_loop (N : Nat) : ∀ (d fuel i : Nat) (T : List Int), T.length ≤ 140737488355328 → T.length = i + d → d < fuel → ∃ U, L_law0_SpoilInts_1 N fuel T (i : Int) = some U ∧ U.length = T.length := by
  intro d
  induction d with
  | zero =>
    intro fuel i T hT hi hf
    obtain ⟨fuel, rfl⟩ : ∃ f, fuel = f + 1 := ⟨fuel - 1, by omega⟩
    rw [L_law0_SpoilInts_1]
    exact ⟨T, stDF (by omega) rfl, rfl⟩
  | succ d ih =>
    intro fuel i T hT hi hf
    obtain ⟨fuel, rfl⟩ : ∃ f, fuel = f + 1 := ⟨fuel - 1, by omega⟩
    rw [L_law0_SpoilInts_1, w64 (n := (i : Int) + 1) (by omega) (by omega), Int.toNat_natCast]
    obtain ⟨U, u1, u2⟩ := ih fuel (i + 1) (T.set i (IntKind.i64.wrap ((-9 : Int) - T.getD i default))) (by rw [List.length_set]; exact hT) (by rw [List.length_set]; omega) (by omega)
    exact ⟨U, stDT (by omega) (stIf (by omega) (stVia (stIf (by omega) u1))), u2.trans (by rw [List.length_set])⟩
theorem SameC_loop (N : Nat) (T : List GCandidate) (hT : T.length ≤ 140737488355328) : ∀ (d fuel i : Nat), T.length = i + d → d < fuel → L_law0_SameCandidates_1 N fuel T T (i : Int) = some true := by
  intro d
  induction d with
  | zero =>
    intro fuel i hi hf
    obtain ⟨fuel, rfl⟩ : ∃ f, fuel = f + 1 := ⟨fuel - 1, by omega⟩
    rw [L_law0_SameCandidates_1]
    exact stDF (by omega) rfl
  | succ d ih =>
    intro fuel i hi hf
    obtain ⟨fuel, rfl⟩ : ∃ f, fuel = f + 1 := ⟨fuel - 1, by omega⟩
    rw [L_law0_SameCandidates_1, w64 (n := (i : Int) + 1) (by omega) (by omega)]
    refine stDT (by omega) (stIf (by omega) (stIf (by omega) ?_))
    simp only [beq_self_eq_true, Bool.and_true, Bool.not_true, cond_false]
    exact ih fuel (i + 1) (by omega) (by omega)
def c7 : GCandidate := ⟨77777, 0⟩
theorem lend_eq {cs : List GCandidate} (hc : cs.length * 16 ≤ 140737488351232) (N : Nat) : L_law0_LendCandidates N cs = some (cs ++ [c7, c7], cs.length) := by
  unfold L_law0_LendCandidates L_law0_CopyCandidates
  refine stB (stIf (by unfold growOk; omega) rfl) ?_
  rw [List.nil_append]
  refine stIf (by unfold growOk; omega) (stIf (by simp only [List.length_append, List.length_cons, List.length_nil]; omega) ?_)
  rw [Int.sub_zero, Int.toNat_natCast]
  rfl
theorem kept_eq {cs : List GCandidate} (hc : cs.length * 16 ≤ 140737488351232) : L_law0_KeptCandidates 281474976710656 (cs ++ [c7, c7]) cs.length cs = some (true, []) := by
  have hl : (cs ++ [c7, c7]).length = cs.length + 2 := by rw [List.length_append]; rfl
  have hs : L_law0_SameCandidates 281474976710656 cs cs = some true := by
    unfold L_law0_SameCandidates
    exact stNT rfl (SameC_loop _ _ (by omega) cs.length _ 0 (by omega) (by omega))
  have g0 : (cs ++ [c7, c7]).getD cs.length default = c7 := by rw [gel (by omega)]; simp
  have g1 : (cs ++ [c7, c7]).getD (cs.length + 1) default = c7 := by rw [gel (by omega)]; simp
  unfold L_law0_KeptCandidates L_law0_KeptCandidates_1
  rw [w64 (n := (cs.length : Int) + 2) (by omega) (by omega), w64 (n := (cs.length : Int) + 1) (by omega) (by omega), List.drop_zero, List.take_left' rfl]
  refine stIf (by omega) (stIf (by omega) (stB hs (stTT (stIf (by omega) (stVia ?_)))))
  rw [Int.toNat_natCast, g0]
  refine stTT (stIf (by omega) (stVia ?_))
  rw [show ((cs.length : Int) + 1).toNat = cs.length + 1 by omega, g1]
  rfl
theorem Maglevs (cs : List GCandidate) (hash : Int) (hc : cs.length * 16 ≤ 140737488351232) : L_law9_Maglevs 281474976710656 cs hash = some true := by
  have h47 : cs.length ≤ 140737488355328 := by omega
  obtain ⟨⟨T, e⟩, b1, b2, b3⟩ := Build_same h47
  obtain ⟨⟨p, q, g⟩, p1, p2⟩ := Pick_same h47 hash
  have hT : T.length ≤ 31 := by
    by_cases he : e = 0
    · by_cases h0 : 0 < cs.length
      · have := b3 he h0; dsimp only at this; omega
      · obtain rfl : cs = [] := List.eq_nil_of_length_eq_zero (by omega)
        rw [Build_none, Option.some.injEq, Prod.mk.injEq] at b1
        rw [← b1.1]; decide
    · cases hm : mayC cs with
      | false =>
        rw [Build_bad h47 hm, Option.some.injEq, Prod.mk.injEq] at b1
        rw [← b1.1]; decide
      | true =>
        by_cases h0 : 0 < cs.length
        · obtain ⟨T', t1, t2, _, _⟩ := Build_eq hm h0
          rw [t1, Option.some.injEq, Prod.mk.injEq] at b1
          exact absurd b1.2.symm he
        · obtain rfl : cs = [] := List.eq_nil_of_length_eq_zero (by omega)
          rw [Build_none, Option.some.injEq, Prod.mk.injEq] at b1
          exact absurd b1.2.symm he
  have hsame : L_law0_SameInts 281474976710656 T T = some true := by
    unfold L_law0_SameInts
    exact stNT rfl (SameInts_loop _ _ (by omega) T.length _ 0 (by omega) (by omega))
  obtain ⟨U, u1, u2⟩ := Spoil_loop 281474976710656 T.length 281474976710656 0 T (by omega) (by omega) (by omega)
  have hl : (cs ++ [c7, c7]).length = cs.length + 2 := by rw [List.length_append]; rfl
  unfold L_law9_Maglevs
  refine stB (lend_eq hc _) (stIf (by dsimp only; omega) ?_)
  dsimp only
  rw [List.drop_zero, List.take_left' rfl]
  refine stB b1 (stB b2 (stB p1 (stB p2 (stB hsame (stNTT (stB rfl (stNT rfl (stNT rfl ?_))))))))
  dsimp only
  rw [beq_self_eq_true]
  refine stNTT (stB rfl (stNT rfl (stB (MayC_eq _ cs h47 (by omega)) (stB (RCands_eq cs h47 (by omega)) ?_))))
  rw [beq_self_eq_true]
  unfold L_law9_Maglevs_1 L_law9_Maglevs_2
  exact stIf (by omega) (stFF (stB u1 (stIf u2 (stB (kept_eq hc) (stTT (stB awake9 rfl))))))
end Go.Proofs.Ythhlflmjikdgcaa.Pu
