import Derived.Test.YtmhlgpdoedbedaaGreatE6
set_option linter.unusedVariables false
set_option linter.unusedSimpArgs false
namespace Go.Proofs.YtmhlgpdoedbedaaGreat.Pu
open Go Go.RowKit Go.Proofs.YtmhlgpdoedbedaaGreat.Sv Go.Proofs.YtmhlgpdoedbedaaGreat.Lf
theorem Rphase_eq (N : Nat) (p : Int) : L_ref10_phaseMay N p = some (decide (0 ≤ p ∧ p ≤ 2)) := by
  unfold L_ref10_phaseMay L_ref10_phaseMay_1
  rw [bifS]
  congr 1
  by_cases a : p ≥ 0 <;> by_cases b : p ≤ 2 <;> simp [a, b] <;> omega
theorem Rnow_eq (N : Nat) (t : Int) : L_ref10_nowMay N t = some (timeOk t) := by
  unfold L_ref10_nowMay L_ref10_nowMay_1 timeOk
  rw [bifS]
  congr 1
  by_cases a : t ≥ 0 <;> by_cases b : t ≤ 1048576 <;> simp [a, b] <;> omega
theorem REMay_eq (N : Nat) (e : GEntry) : L_ref10_EntryMay N e = some (entOk e) := by
  unfold L_ref10_EntryMay L_ref10_EntryMay_1 entOk
  rw [RFlowMay_eq, Rphase_eq, Rnow_eq, Option.bind_some]
  cases mayF e.Flow with
  | false => rfl
  | true =>
    refine stTT ?_
    by_cases a : e.To ≥ 0
    · refine stDT a ?_
      by_cases b : e.To ≤ 255
      · refine stDT b ?_
        rw [decide_eq_true (show 0 ≤ e.To ∧ e.To < 256 by omega)]
        cases decide (0 ≤ e.Phase ∧ e.Phase ≤ 2) <;> rfl
      · refine stDF b ?_
        rw [decide_eq_false (show ¬ (0 ≤ e.To ∧ e.To < 256) by omega)]; rfl
    · refine stDF a ?_
      rw [decide_eq_false (show ¬ (0 ≤ e.To ∧ e.To < 256) by omega)]; rfl
theorem RCache2 {N : Nat} (r1 : List GEntry → Int → Option Bool) (es : List GEntry) (h : cacheOk es = true) (i : Nat) (hi : i < es.length) {r : Option Bool} (hr : r1 es ((i + 1 : Nat) : Int) = r) : ∀ (d fuel j : Nat), es.length = j + d → d < fuel → j ≤ i →
    L_ref10_CacheMay_2 N r1 fuel es (i : Int) (j : Int) = r := by
  obtain ⟨h1, h2, h3⟩ := (cacheOk_iff es).1 h
  intro d
  induction d with
  | zero =>
    intro fuel j hj hf hji
    omega
  | succ d ih =>
    intro fuel j hj hf hji
    obtain ⟨fuel, rfl⟩ : ∃ f, fuel = f + 1 := ⟨fuel - 1, by omega⟩
    rw [L_ref10_CacheMay_2, Int.toNat_natCast, Int.toNat_natCast, w64 (n := (j : Int) + 1) (by omega) (by omega), w64 (n := (i : Int) + 1) (by omega) (by omega)]
    by_cases c : j = i
    · exact stDF (by omega) hr
    · refine stDT (by omega) (stIf (by omega) (stIf (by omega) ?_))
      have hne : eqF (es.getD j default).Flow (es.getD i default).Flow = false := by
        rw [← Bool.not_eq_true, eqF_iff, getD_el hi, getD_el (show j < es.length by omega)]
        exact List.pairwise_iff_getElem.1 h2 j i (by omega) hi (by omega)
      show (bif eqF (es.getD j default).Flow (es.getD i default).Flow then _ else _) = _
      rw [hne]
      exact ih fuel (j + 1) (by omega) (by omega) (by omega)
theorem RCache1 {N : Nat} (hN : 1000 ≤ N) (es : List GEntry) (h : cacheOk es = true) : ∀ (d fuel i : Nat), es.length = i + d → d < fuel → L_ref10_CacheMay_1 N fuel es (i : Int) = some true := by
  obtain ⟨h1, h2, h3⟩ := (cacheOk_iff es).1 h
  intro d
  induction d with
  | zero =>
    intro fuel i hi hf
    obtain ⟨fuel, rfl⟩ : ∃ f, fuel = f + 1 := ⟨fuel - 1, by omega⟩
    rw [L_ref10_CacheMay_1]
    exact stDF (by omega) (by rw [decide_eq_true (show (es.length : Int) ≤ 8 by omega)])
  | succ d ih =>
    intro fuel i hi hf
    obtain ⟨fuel, rfl⟩ : ∃ f, fuel = f + 1 := ⟨fuel - 1, by omega⟩
    have hil : i < es.length := by omega
    rw [L_ref10_CacheMay_1, Int.toNat_natCast]
    refine stDT (by omega) (stIf (by omega) (stB (REMay_eq N _) ?_))
    rw [show entOk ⟨(es.getD i default).Flow, (es.getD i default).To, (es.getD i default).Away, (es.getD i default).Phase, (es.getD i default).Used⟩ = true from h1 _ (getD_mem hil)]
    exact stNTT (RCache2 _ es h i hil (ih fuel (i + 1) (by omega) (by omega)) es.length N 0 (by omega) (by omega) (by omega))
theorem RRan_eq (N : Nat) (e : GEntry) (now : Int) (hn : timeOk now = true) : L_ref10_Ran N e now = some (ranE e now) := by
  have ht := of_decide_eq_true hn
  unfold L_ref10_Ran L_ref10_Ran_1 ranE
  rw [REMay_eq, Option.bind_some]
  cases he : entOk e with
  | false => rfl
  | true =>
    obtain ⟨_, _, hp, hu⟩ := entOk_parts he
    have hl : L_ref10_Limit N e.Phase = some (limE e.Phase, 0) := by
      unfold L_ref10_Limit limE
      rw [Rphase_eq, Option.bind_some, decide_eq_true hp]
      by_cases b : e.Phase = 0
      · rw [if_pos b]; exact stNTT (stET b rfl)
      · rw [if_neg b]; exact stNTT (stEF b rfl)
    have hq : 0 ≤ limE e.Phase ∧ limE e.Phase ≤ 40 := by unfold limE; split <;> omega
    refine stNTT (stB hl (stDT ht.1 ?_))
    rw [w64 (by omega) (by omega)]
    congr 1
    rw [Bool.not_true, Bool.false_or]
    exact decide_eq_decide.2 (by dsimp only; omega)
theorem RFind_loop {N : Nat} (hN : 1000 ≤ N) (es : List GEntry) (f : GFlow) (now : Int) (hn : timeOk now = true) (h : cacheOk es = true) : ∀ (d fuel i : Nat), es.length = i + d → d < fuel → (∀ j, j < i → eqF (es.getD j default).Flow f = true → ranE (es.getD j default) now = true) →
    L_ref10_FindEntry_1 N fuel es now f.Src f.Dst f.Proto f.Sport f.Dport 0 0 0 0 0 0 false 0 0 (i : Int) = some (findE es f now) := by
  obtain ⟨h1, h2, h3⟩ := (cacheOk_iff es).1 h
  intro d
  induction d with
  | zero =>
    intro fuel i hi hf hj
    obtain ⟨fuel, rfl⟩ : ∃ f, fuel = f + 1 := ⟨fuel - 1, by omega⟩
    rw [L_ref10_FindEntry_1]
    unfold L_ref10_FindEntry_2
    refine stDF (by omega) ?_
    have : findE es f now = (zE, false) := by
      unfold findE
      rcases at_cases f es 0 with ⟨q, _⟩ | ⟨k, q1, q2, q3⟩
      · rw [if_pos (by omega)]
      · rw [q2, if_neg (by omega), show (((0 + k : Nat) : Int)).toNat = k by omega, if_pos (hj k (by omega) q3)]
    rw [this]
    rfl
  | succ d ih =>
    intro fuel i hi hf hj
    obtain ⟨fuel, rfl⟩ : ∃ f, fuel = f + 1 := ⟨fuel - 1, by omega⟩
    have hil : i < es.length := by omega
    rw [L_ref10_FindEntry_1]
    unfold L_ref10_FindEntry_2 L_ref10_FindEntry_3
    refine stDT (by omega) (stB (x := true) ?_ (stTT (stIf (by omega) (stVia ?_))))
    · unfold L_ref10_CacheMay
      exact RCache1 hN es h es.length N 0 (by omega) (by omega)
    rw [Int.toNat_natCast, w64 (n := (i : Int) + 1) (by omega) (by omega)]
    show (bif eqF (es.getD i default).Flow f then _ else _) = _
    cases hq : eqF (es.getD i default).Flow f with
    | false => exact stFF (stFF (ih fuel (i + 1) (by omega) (by omega) (fun j hj' hjf => by
        rcases Nat.lt_or_ge j i with c | c
        · exact hj j c hjf
        · obtain rfl : j = i := by omega
          rw [hq] at hjf; cases hjf)))
    | true =>
      refine stTT (stIf (by omega) (stB (RRan_eq N _ now hn) ?_))
      show (bif !ranE (es.getD i default) now then _ else _) = _
      cases hr : ranE (es.getD i default) now with
      | true => exact stNTT (ih fuel (i + 1) (by omega) (by omega) (fun j hj' hjf => by
          rcases Nat.lt_or_ge j i with c | c
          · exact hj j c hjf
          · obtain rfl : j = i := by omega
            exact hr))
      | false =>
        refine stNFF (stIf (by omega) ?_)
        have hm := find_of_mem h (getD_mem hil) (now := now) hr
        rw [eqF_iff.1 hq] at hm
        rw [hm]
theorem RFind_eq {N : Nat} (hN : 1000 ≤ N) {es : List GEntry} {f : GFlow} {now : Int} (hn : timeOk now = true) (h : cacheOk es = true) : L_ref10_FindEntry N es f now = some (findE es f now) := by
  have hl := ((cacheOk_iff es).1 h).2.2
  unfold L_ref10_FindEntry
  exact RFind_loop hN es f now hn h es.length N 0 (by omega) (by omega) (fun j hj => by omega)
end Go.Proofs.YtmhlgpdoedbedaaGreat.Pu
