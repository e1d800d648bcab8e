import Derived.Test.YtmhlgpdoedbedaaGreatEN
set_option linter.unusedVariables false
set_option linter.unusedSimpArgs false
namespace Go.Proofs.YtmhlgpdoedbedaaGreat.Pu
open Go Go.RowKit Go.Proofs.YtmhlgpdoedbedaaGreat.Sv Go.Proofs.YtmhlgpdoedbedaaGreat.Lf
theorem sum_set : ∀ (c : List Nat) (i x : Nat), i < c.length → (c.set i x).sum + c.getD i 0 = c.sum + x
  | [], i, x, h => by simp at h
  | a :: c, 0, x, h => by simp; omega
  | a :: c, i + 1, x, h => by
    have := sum_set c i x (by simpa using h)
    simp only [List.set_cons_succ, List.sum_cons, List.getD_cons_succ]
    omega
theorem getD_set_ne (c : List Nat) {i j : Nat} (x : Nat) (h : j ≠ i) : (c.set i x).getD j 0 = c.getD j 0 := by
  rw [List.getD_eq_getElem?_getD, List.getD_eq_getElem?_getD, List.getElem?_set_ne (fun e => h e.symm)]
theorem getD_set_eq (c : List Nat) {i : Nat} (x : Nat) (h : i < c.length) : (c.set i x).getD i 0 = x := by
  rw [List.getD_eq_getElem?_getD, List.getElem?_set_self h]
  rfl
theorem rd_spec : ∀ (ws : List Nat) (i l : Nat) (c : List Nat), i + ws.length ≤ c.length →
    (rd ws i (l, c)).1 = l - ws.sum ∧ (rd ws i (l, c)).2.sum + (rd ws i (l, c)).1 = c.sum + l ∧ (∀ j, j < i → (rd ws i (l, c)).2.getD j 0 = c.getD j 0) ∧
      ∀ t, t < ws.length → ∃ k, k ≤ ws.getD t 0 ∧ (ws.sum ≤ l → k = ws.getD t 0) ∧ (rd ws i (l, c)).2.getD (i + t) 0 = c.getD (i + t) 0 + k
  | [], i, l, c, h => ⟨by simp [rd], rfl, fun _ _ => rfl, fun t ht => by simp at ht⟩
  | w :: ws, i, l, c, h => by
    simp only [List.length_cons] at h
    unfold rd
    generalize hk : min w l = k
    obtain ⟨h1, h2, h3, h4⟩ := rd_spec ws (i + 1) (l - k) (c.set i (c.getD i 0 + k)) (by rw [List.length_set]; omega)
    have hs := sum_set c i (c.getD i 0 + k) (by omega)
    refine ⟨by rw [h1, List.sum_cons]; omega, by rw [h2]; omega, ?_, ?_⟩
    · intro j hj
      rw [h3 j (by omega), getD_set_ne _ _ (by omega)]
    · intro t ht
      cases t with
      | zero =>
        refine ⟨k, by rw [List.getD_cons_zero]; omega, fun hl => by rw [List.sum_cons] at hl; rw [List.getD_cons_zero]; omega, ?_⟩
        simp only [Nat.add_zero]
        rw [h3 i (by omega), getD_set_eq _ _ (by omega)]
      | succ t =>
        simp only [List.length_cons] at ht
        obtain ⟨q, q1, q2, q3⟩ := h4 t (by omega)
        refine ⟨q, by rw [List.getD_cons_succ]; exact q1, fun hl => by rw [List.sum_cons] at hl; rw [List.getD_cons_succ]; exact q2 (by omega), ?_⟩
        rw [show i + (t + 1) = i + 1 + t by omega, q3, getD_set_ne _ _ (by omega)]
theorem rounds_spec (ws : List Nat) (hS : 0 < ws.sum) : ∀ (f l r : Nat) (c : List Nat), l ≤ f → c.length = ws.length → (∀ j, j < ws.length → c.getD j 0 = r * ws.getD j 0) → l + r * ws.sum = 31 → c.sum + l = 31 →
    (rounds ws f (l, c)).length = ws.length ∧ (rounds ws f (l, c)).sum = 31 ∧ ∀ j, j < ws.length → 31 / ws.sum * ws.getD j 0 ≤ (rounds ws f (l, c)).getD j 0 ∧ (rounds ws f (l, c)).getD j 0 ≤ (31 / ws.sum + 1) * ws.getD j 0 := by
  intro f
  induction f with
  | zero =>
    intro l r c hl hc hcj hr hs
    obtain rfl : l = 0 := by omega
    have hR : 31 / ws.sum = r := by rw [← hr, Nat.zero_add]; exact Nat.mul_div_cancel _ hS
    refine ⟨hc, by show c.sum = 31; omega, fun j hj => ?_⟩
    show _ ≤ c.getD j 0 ∧ c.getD j 0 ≤ _
    rw [hR, hcj j hj, Nat.succ_mul]
    omega
  | succ f ih =>
    intro l r c hl hc hcj hr hs
    cases l with
    | zero =>
      have hR : 31 / ws.sum = r := by rw [← hr, Nat.zero_add]; exact Nat.mul_div_cancel _ hS
      refine ⟨hc, by show c.sum = 31; omega, fun j hj => ?_⟩
      show _ ≤ c.getD j 0 ∧ c.getD j 0 ≤ _
      rw [hR, hcj j hj, Nat.succ_mul]
      omega
    | succ l =>
      obtain ⟨h1, h2, _, h4⟩ := rd_spec ws 0 (l + 1) c (by omega)
      have h5 := rd_len ws 0 (l + 1) c
      show (rounds ws f (rd ws 0 (l + 1, c))).length = _ ∧ (rounds ws f (rd ws 0 (l + 1, c))).sum = _ ∧ ∀ j, _ → _ ≤ (rounds ws f (rd ws 0 (l + 1, c))).getD j 0 ∧ (rounds ws f (rd ws 0 (l + 1, c))).getD j 0 ≤ _
      generalize rd ws 0 (l + 1, c) = s at *
      obtain ⟨l', c'⟩ := s
      simp only at h1 h2 h4 h5
      by_cases hle : ws.sum ≤ l + 1
      · refine ih l' (r + 1) c' (by omega) (by omega) ?_ (by rw [Nat.succ_mul]; omega) (by omega)
        intro j hj
        obtain ⟨k, _, k2, k3⟩ := h4 j hj
        rw [Nat.zero_add] at k3
        rw [k3, hcj j hj, k2 hle, Nat.succ_mul]
      · obtain rfl : l' = 0 := by omega
        have hR : 31 / ws.sum = r := by
          rw [← hr, Nat.add_mul_div_right _ _ hS, Nat.div_eq_of_lt (by omega), Nat.zero_add]
        have e : rounds ws f (0, c') = c' := by cases f <;> rfl
        rw [e]
        refine ⟨by omega, by omega, fun j hj => ?_⟩
        obtain ⟨k, k1, _, k3⟩ := h4 j hj
        rw [Nat.zero_add] at k3
        rw [hR, k3, hcj j hj, Nat.succ_mul]
        omega
theorem wts_len (cs : List GCandidate) : (wts cs).length = cs.length := by unfold wts; rw [List.length_map]
theorem Pick_eq {cs : List GCandidate} {T : List Int} (h : L_maglev_Build 281474976710656 cs = some (T, 0)) (hT : T.length = 31) (x : Int) (hx : 0 ≤ x) : L_maglev_Pick 281474976710656 cs x = some (T.getD (x % 31).toNat default, true, 0) := by
  unfold L_maglev_Pick L_maglev_Pick_1
  refine stB h (stNT rfl ?_)
  rw [decide_eq_false (show ¬ x < 0 by omega), Int.tmod_eq_emod_of_nonneg hx]
  refine stFF (stEF (by dsimp only; omega) (stIf (by dsimp only; omega) rfl))
theorem Pick_none (x : Int) (hx : 0 ≤ x) : L_maglev_Pick 281474976710656 [] x = some (0, false, 0) := by
  unfold L_maglev_Pick L_maglev_Pick_1
  refine stB Build_none (stNT rfl ?_)
  rw [decide_eq_false (show ¬ x < 0 by omega)]
  rfl
end Go.Proofs.YtmhlgpdoedbedaaGreat.Pu
