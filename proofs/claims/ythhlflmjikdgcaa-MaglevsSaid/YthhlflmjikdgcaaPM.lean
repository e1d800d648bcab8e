import Derived.Test.YthhlflmjikdgcaaPH
set_option linter.unusedVariables false
set_option linter.unusedSimpArgs false
namespace Go.Proofs.Ythhlflmjikdgcaa.Pu
open Go Go.RowKit Go.Proofs.Ythhlflmjikdgcaa.Sv Go.Proofs.Ythhlflmjikdgcaa.Lf
theorem bifS {α : Type} (c : Bool) (x y : α) : (bif c then some x else some y) = some (bif c then x else y) := by cases c <;> rfl
def badAt (cs : List GCandidate) (i : Nat) : Bool :=
  !decide (0 ≤ (cs.getD i default).Id ∧ (cs.getD i default).Id < 256) || (!decide (1 ≤ (cs.getD i default).Weight ∧ (cs.getD i default).Weight ≤ 16) || (decide (0 < i) && decide ((cs.getD (i - 1) default).Id ≥ (cs.getD i default).Id)))
def mayC (cs : List GCandidate) : Bool := ((List.range' 0 cs.length).all fun j => !badAt cs j) && decide (cs.length ≤ 16)
theorem Weight_eq (N : Nat) (w : Int) : L_maglev_Weight N w = some (decide (1 ≤ w ∧ w ≤ 16)) := by
  unfold L_maglev_Weight L_maglev_Weight_1
  rw [bifS]
  congr 1
  by_cases a : w ≥ 1 <;> by_cases b : w ≤ 16 <;> simp [a, b] <;> omega
theorem May_loop (N : Nat) (cs : List GCandidate) (hc : cs.length ≤ 140737488355328) : ∀ (d fuel i : Nat), cs.length = i + d → d < fuel →
    L_maglev_May_1 N fuel cs cs (cs.length : Int) (i : Int) = some (((List.range' i d).all fun j => !badAt cs j) && decide (cs.length ≤ 16)) := by
  intro d
  induction d with
  | zero =>
    intro fuel i hi hf
    obtain ⟨fuel, rfl⟩ : ∃ f, fuel = f + 1 := ⟨fuel - 1, by omega⟩
    rw [L_maglev_May_1]
    refine stDF (by omega) ?_
    simp only [List.range'_zero, List.all_nil, Bool.true_and]
    congr 1
    exact decide_eq_decide.2 (by omega)
  | succ d ih =>
    intro fuel i hi hf
    obtain ⟨fuel, rfl⟩ : ∃ f, fuel = f + 1 := ⟨fuel - 1, by omega⟩
    rw [L_maglev_May_1, List.range'_succ, List.all_cons, Bool.and_assoc]
    unfold L_maglev_May_2
    refine stDT (by omega) (stIf (by omega) ?_)
    rw [Int.toNat_natCast, in8, Weight_eq]
    have hn := ih fuel (i + 1) (by omega) (by omega)
    have w1 : IntKind.i64.wrap ((i : Int) + 1) = ((i + 1 : Nat) : Int) := by rw [w64 (by omega) (by omega)]; omega
    rw [w1]
    by_cases a : 0 ≤ (cs.getD i default).Id ∧ (cs.getD i default).Id < 256
    · by_cases b : 1 ≤ (cs.getD i default).Weight ∧ (cs.getD i default).Weight ≤ 16
      · rw [decide_eq_true a, decide_eq_true b]
        refine stB rfl (stNTT (stB rfl (stNTT ?_)))
        by_cases c : 0 < i
        · have w2 : (IntKind.i64.wrap ((i : Int) - 1)).toNat = i - 1 := by rw [w64 (by omega) (by omega)]; omega
          have w3 : IntKind.i64.wrap ((i : Int) - 1) = ((i - 1 : Nat) : Int) := by rw [w64 (by omega) (by omega)]; omega
          refine stDT (by omega) (stIf (by rw [w3]; omega) (stVia ?_))
          rw [w2]
          by_cases e : (cs.getD (i - 1) default).Id ≥ (cs.getD i default).Id
          · rw [decide_eq_true e, show badAt cs i = true by unfold badAt; rw [decide_eq_true a, decide_eq_true b, decide_eq_true c, decide_eq_true e]; rfl]
            rfl
          · rw [decide_eq_false e, show badAt cs i = false by unfold badAt; rw [decide_eq_true a, decide_eq_true b, decide_eq_true c, decide_eq_false e]; rfl]
            exact hn
        · refine stDF (by omega) ?_
          rw [show badAt cs i = false by unfold badAt; rw [decide_eq_true a, decide_eq_true b, decide_eq_false c]; rfl]
          exact hn
      · rw [decide_eq_true a, decide_eq_false b, show badAt cs i = true by unfold badAt; rw [decide_eq_true a, decide_eq_false b]; rfl]
        rfl
    · rw [decide_eq_false a, show badAt cs i = true by unfold badAt; rw [decide_eq_false a]; rfl]
      rfl
theorem MayC_eq (N : Nat) (cs : List GCandidate) (hc : cs.length ≤ 140737488355328) (hN : cs.length < N) : L_maglev_May N cs = some (mayC cs) := May_loop N cs hc cs.length N 0 (by omega) hN
def okW (r : Gmaglev_walk) : Prop := ∃ a s : Nat, a < 31 ∧ 1 ≤ s ∧ s ≤ 30 ∧ r = ⟨(a : Int), (s : Int)⟩
def okWs (rows : List Gmaglev_walk) : Prop := ∀ r ∈ rows, okW r
theorem okWs_set {rows : List Gmaglev_walk} (h : okWs rows) (i : Nat) {r : Gmaglev_walk} (hr : okW r) : okWs (rows.set i r) := by
  intro x hx
  rcases List.mem_or_eq_of_mem_set hx with h' | rfl
  · exact h x h'
  · exact hr
theorem okWs_at {rows : List Gmaglev_walk} (h : okWs rows) {i : Nat} (hi : i < rows.length) : okW (rows.getD i default) := by
  rw [List.getD_eq_getElem?_getD, List.getElem?_eq_getElem hi]
  exact h _ (List.getElem_mem _)
theorem getD_set {α : Type} [Inhabited α] (l : List α) (i : Nat) (x : α) (h : i < l.length) : (l.set i x).getD i default = x := by
  rw [List.getD_eq_getElem?_getD, List.getElem?_set_self h]
  rfl
theorem set_set {α : Type} (l : List α) (i : Nat) (x y : α) : (l.set i x).set i y = l.set i y := by rw [List.set_set]
theorem reach31 : ∀ d : Fin 31, ∀ s : Fin 31, s.val ≠ 0 → ∃ j : Fin 31, (j.val * s.val) % 31 = d.val := by decide +kernel
theorem reach {a s q : Nat} (ha : a < 31) (hs : 1 ≤ s) (hs2 : s ≤ 30) (hq : q < 31) : ∃ j, j < 31 ∧ (a + j * s) % 31 = q := by
  obtain ⟨j, hj⟩ := reach31 ⟨(q + 31 - a) % 31, Nat.mod_lt _ (by decide)⟩ ⟨s, by omega⟩ (by simp; omega)
  refine ⟨j.val, j.isLt, ?_⟩
  simp only at hj
  rw [Nat.add_mod, hj]
  omega
theorem take_loop {N : Nat} (T : List Int) (hT : T.length = 31) (id : Int) (i : Nat) : ∀ (j fuel : Nat) (rows : List Gmaglev_walk), okWs rows → i < rows.length → ∀ a s : Nat, rows.getD i default = ⟨(a : Int), (s : Int)⟩ → a < 31 → 1 ≤ s → s ≤ 30 → T.getD ((a + j * s) % 31) default = -1 → j < fuel →
    ∃ p, p < 31 ∧ T.getD p default = -1 ∧ L_maglev_walk_take_1 N fuel i rows T id = some (rows.set i ⟨(p : Int), (s : Int)⟩, T.set p id) := by
  intro j
  induction j with
  | zero =>
    intro fuel rows hr hi a s hrow ha hs hs2 hq hf
    obtain ⟨fuel, rfl⟩ : ∃ f, fuel = f + 1 := ⟨fuel - 1, by omega⟩
    rw [Nat.zero_mul, Nat.add_zero, Nat.mod_eq_of_lt ha] at hq
    refine ⟨a, ha, hq, ?_⟩
    rw [L_maglev_walk_take_1]
    simp only [hrow, Int.toNat_natCast]
    refine stIf (by omega) (stIf (by omega) (stNT hq (stIf (by omega) ?_)))
    have : rows.set i ⟨(a : Int), (s : Int)⟩ = rows := by
      rw [← hrow, List.getD_eq_getElem?_getD, List.getElem?_eq_getElem hi]
      exact List.set_getElem_self hi
    rw [this]
  | succ j ih =>
    intro fuel rows hr hi a s hrow ha hs hs2 hq hf
    obtain ⟨fuel, rfl⟩ : ∃ f, fuel = f + 1 := ⟨fuel - 1, by omega⟩
    by_cases c : T.getD a default = -1
    · refine ⟨a, ha, c, ?_⟩
      rw [L_maglev_walk_take_1]
      simp only [hrow, Int.toNat_natCast]
      refine stIf (by omega) (stIf (by omega) (stNT c (stIf (by omega) ?_)))
      have : rows.set i ⟨(a : Int), (s : Int)⟩ = rows := by
        rw [← hrow, List.getD_eq_getElem?_getD, List.getElem?_eq_getElem hi]
        exact List.set_getElem_self hi
      rw [this]
    · have hn : L_maglev_walk_next N i rows = some (rows.set i ⟨(((a + s) % 31 : Nat) : Int), (s : Int)⟩) := by
        unfold L_maglev_walk_next
        simp only [hrow]
        refine stIf (by omega) (stVia ?_)
        rw [w64 (by omega) (by omega), Int.tmod_eq_emod_of_nonneg (by omega)]
        rfl
      have hw : okW ⟨(((a + s) % 31 : Nat) : Int), (s : Int)⟩ := ⟨_, _, Nat.mod_lt _ (by decide), hs, hs2, rfl⟩
      obtain ⟨p, p1, p2, p3⟩ := ih fuel (rows.set i ⟨(((a + s) % 31 : Nat) : Int), (s : Int)⟩) (okWs_set hr i hw) (by rw [List.length_set]; exact hi) ((a + s) % 31) s (getD_set _ _ _ hi) (Nat.mod_lt _ (by decide)) hs hs2 (by
        have : ((a + s) % 31 + j * s) % 31 = (a + (j + 1) * s) % 31 := by rw [Nat.succ_mul]; omega
        rw [this]; exact hq) (by omega)
      refine ⟨p, p1, p2, ?_⟩
      rw [L_maglev_walk_take_1]
      simp only [hrow, Int.toNat_natCast]
      refine stIf (by omega) (stIf (by omega) (stNF c (stB hn (stIf (by rw [List.length_set]) ?_))))
      rw [p3, set_set]
structure Inv (n : Nat) (T : List Int) (rows : List Gmaglev_walk) (left : Nat) : Prop where
  tl : T.length = 31
  n : rows.length = n
  ok : okWs rows
  left : T.count (-1) = left
theorem take_eq {N : Nat} (hN : 1000 ≤ N) {n left : Nat} {T : List Int} {rows : List Gmaglev_walk} (h : Inv n T rows (left + 1)) {i : Nat} (hi : i < n) {id : Int} (hid : 0 ≤ id) :
    ∃ T' rows', L_maglev_walk_take N i rows T id = some (rows', T') ∧ Inv n T' rows' left ∧ T'.count id = T.count id + 1 ∧ ∀ x, x ≠ id → x ≠ -1 → T'.count x = T.count x := by
  have hir : i < rows.length := by rw [h.n]; exact hi
  obtain ⟨a, s, ha, hs, hs2, hrow⟩ := okWs_at h.ok hir
  have hmem : (-1 : Int) ∈ T := List.count_pos_iff.1 (by rw [h.left]; omega)
  obtain ⟨q, hq, hq2⟩ := List.getElem_of_mem hmem
  obtain ⟨j, hj, hj2⟩ := reach ha hs hs2 (show q < 31 by rw [← h.tl]; exact hq)
  obtain ⟨p, p1, p2, p3⟩ := take_loop (N := N) T h.tl id i j N rows h.ok hir a s hrow ha hs hs2 (by rw [hj2, List.getD_eq_getElem?_getD, List.getElem?_eq_getElem hq, hq2]; rfl) (by omega)
  have hp : p < T.length := by rw [h.tl]; exact p1
  have hTp : T[p] = -1 := by rw [List.getD_eq_getElem?_getD, List.getElem?_eq_getElem hp] at p2; exact p2
  refine ⟨T.set p id, rows.set i ⟨(p : Int), (s : Int)⟩, ?_, ⟨by rw [List.length_set]; exact h.tl, by rw [List.length_set]; exact h.n, okWs_set h.ok i ⟨p, s, p1, hs, hs2, rfl⟩, ?_⟩, ?_, ?_⟩
  · unfold L_maglev_walk_take
    exact stIf (by omega) p3
  · rw [List.count_set hp, hTp, h.left]
    have : (id == (-1 : Int)) = false := by rw [beq_eq_false_iff_ne]; omega
    rw [this]
    simp
  · rw [List.count_set hp, hTp]
    have : ((-1 : Int) == id) = false := by rw [beq_eq_false_iff_ne]; omega
    rw [this]
    simp
  · intro x hx hx2
    rw [List.count_set hp, hTp]
    have e1 : ((-1 : Int) == x) = false := by rw [beq_eq_false_iff_ne]; omega
    have e2 : (id == x) = false := by rw [beq_eq_false_iff_ne]; exact fun e => hx e.symm
    rw [e1, e2]
    simp
end Go.Proofs.Ythhlflmjikdgcaa.Pu
