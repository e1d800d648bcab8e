import Derived.Test.YthhlflmjikdgcaaPN
set_option linter.unusedVariables false
set_option linter.unusedSimpArgs false
namespace Go.Proofs.Ythhlflmjikdgcaa.Pu
open Go Go.RowKit Go.Proofs.Ythhlflmjikdgcaa.Sv Go.Proofs.Ythhlflmjikdgcaa.Lf
theorem within_eq (N : Nat) (a : Int) (n : Nat) (h : n ≤ 62) : L_ref1_within N a (n : Int) = some (decide (0 ≤ a ∧ a < 2 ^ n)) := by
  have hp : (0 : Int) < 2 ^ n := Int.pow_pos (by decide)
  have hq : (2 : Nat) ^ n ≤ 2 ^ 62 := Nat.pow_le_pow_right (by decide) h
  have hq : (2 : Int) ^ n ≤ 2 ^ 62 := by exact_mod_cast hq
  unfold L_ref1_within L_ref1_within_1
  rw [condd, if_pos (by omega : 0 ≤ (n : Int)), Int.toNat_natCast, Nat.min_eq_left (by omega), viaE, w64 (by omega) (by omega)]
  by_cases h0 : a ≥ 0
  · rw [if_pos h0, Option.some.injEq, Bool.eq_iff_iff]
    simp only [decide_eq_true_eq]
    omega
  · rw [if_neg h0]; congr 1; symm; simp; omega
theorem within32 (N : Nat) (a : Int) : L_ref1_within N a 32 = some (decide (0 ≤ a ∧ a < 4294967296)) := within_eq N a 32 (by decide)
theorem gel {α : Type} [Inhabited α] {l : List α} {i : Nat} (h : i < l.length) : l.getD i default = l[i] := by
  rw [List.getD_eq_getElem?_getD, List.getElem?_eq_getElem h]
  rfl
theorem gmem {α : Type} [Inhabited α] {l : List α} {i : Nat} (h : i < l.length) : l.getD i default ∈ l := by rw [gel h]; exact List.getElem_mem _
theorem badAt_iff {cs : List GCandidate} {i : Nat} : badAt cs i = true ↔ ¬ (0 ≤ (cs.getD i default).Id ∧ (cs.getD i default).Id < 256) ∨ ¬ (1 ≤ (cs.getD i default).Weight ∧ (cs.getD i default).Weight ≤ 16) ∨ (0 < i ∧ (cs.getD (i - 1) default).Id ≥ (cs.getD i default).Id) := by
  unfold badAt
  simp only [Bool.or_eq_true, Bool.and_eq_true, Bool.not_eq_true', decide_eq_true_eq, decide_eq_false_iff_not]
theorem RCands_loop (N : Nat) (cs : List GCandidate) (hc : cs.length ≤ 140737488355328) : ∀ (d fuel i : Nat), cs.length = i + d → d < fuel →
    L_ref1_CandsMay_1 N fuel cs (i : Int) = some (((List.range' i d).all fun j => !badAt cs j) && decide (cs.length ≤ 16)) := by
  intro d
  induction d with
  | zero =>
    intro fuel i hi hf
    obtain ⟨fuel, rfl⟩ : ∃ f, fuel = f + 1 := ⟨fuel - 1, by omega⟩
    rw [L_ref1_CandsMay_1]
    refine stDF (by omega) ?_
    rw [show List.range' i 0 = [] from rfl, List.all_nil, Bool.true_and]
    congr 1
    exact decide_eq_decide.2 (by omega)
  | succ d ih =>
    intro fuel i hi hf
    obtain ⟨fuel, rfl⟩ : ∃ f, fuel = f + 1 := ⟨fuel - 1, by omega⟩
    have hg := ih fuel (i + 1) (by omega) (by omega)
    rw [L_ref1_CandsMay_1, Int.toNat_natCast, List.range'_succ, List.all_cons]
    unfold L_ref1_CandsMay_2
    rw [w64 (n := (i : Int) + 1) (by omega) (by omega)]
    have hbad : badAt cs i = true → (some false : Option Bool) = some ((!badAt cs i && (List.range' (i + 1) d).all fun j => !badAt cs j) && decide (cs.length ≤ 16)) := fun h => by rw [h]; rfl
    have hgood : badAt cs i = false → L_ref1_CandsMay_1 N fuel cs ((i : Int) + 1) = some ((!badAt cs i && (List.range' (i + 1) d).all fun j => !badAt cs j) && decide (cs.length ≤ 16)) := fun h => by rw [h, Bool.not_false, Bool.true_and]; exact hg
    refine stDT (by omega) (stIf (by omega) ?_)
    by_cases c1 : (cs.getD i default).Id < 0
    · exact stDT c1 (stTT (hbad (badAt_iff.2 (by omega))))
    refine stDF c1 (stIf (by omega) ?_)
    by_cases c2 : (cs.getD i default).Id > 255
    · exact stDT c2 (stTT (hbad (badAt_iff.2 (by omega))))
    refine stDF c2 (stIf (by omega) ?_)
    by_cases c3 : (cs.getD i default).Weight < 1
    · exact stDT c3 (stTT (hbad (badAt_iff.2 (by omega))))
    refine stDF c3 (stIf (by omega) ?_)
    by_cases c4 : (cs.getD i default).Weight > 16
    · exact stDT c4 (stTT (hbad (badAt_iff.2 (by omega))))
    refine stDF c4 ?_
    by_cases c5 : (i : Int) > 0
    · refine stDT c5 (stIf (by omega) ?_)
      rw [w64 (n := (i : Int) - 1) (by omega) (by omega), show ((i : Int) - 1) = ((i - 1 : Nat) : Int) by omega, Int.toNat_natCast]
      refine stIf (by omega) (stVia ?_)
      by_cases c6 : (cs.getD i default).Id ≤ (cs.getD (i - 1) default).Id
      · exact stDT c6 (hbad (badAt_iff.2 (by omega)))
      · exact stDF c6 (hgood (by rw [← Bool.not_eq_true, badAt_iff]; omega))
    · exact stDF c5 (stFF (hgood (by rw [← Bool.not_eq_true, badAt_iff]; omega)))
theorem RCands_eq {N : Nat} (cs : List GCandidate) (hc : cs.length ≤ 140737488355328) (hN : cs.length < N) : L_ref1_CandsMay N cs = some (mayC cs) := RCands_loop N cs hc cs.length N 0 (by omega) hN
abbrev TyR4 := List GCandidate → List Int → List Bool → List Int → List Int → Int → Int → Int → Option (List Int × Int)
abbrev TyR3 := List GCandidate → List Int → List Bool → List Int → List Int → Int → Int → Option (List Int × Int)
abbrev TyR2 := List GCandidate → List Int → List Bool → List Int → List Int → Int → Option (List Int × Int)
def atsW (rows : List Gmaglev_walk) : List Int := rows.map fun r => r.at_
def stepsW (rows : List Gmaglev_walk) : List Int := rows.map fun r => r.step_
theorem getD_map {α β : Type} [Inhabited α] [Inhabited β] (f : α → β) (l : List α) (i : Nat) (h : i < l.length) : (l.map f).getD i default = f (l.getD i default) := by
  rw [gel (by rw [List.length_map]; exact h), gel h, List.getElem_map]
theorem set_at {α : Type} [Inhabited α] (l : List α) (i : Nat) (h : i < l.length) {x : α} (e : l.getD i default = x) : l.set i x = l := by
  rw [← e, gel h]
  exact List.set_getElem_self h
theorem steps_set {rows : List Gmaglev_walk} {i : Nat} (hi : i < rows.length) {a s p : Int} (h : rows.getD i default = ⟨a, s⟩) : stepsW (rows.set i ⟨p, s⟩) = stepsW rows := by
  unfold stepsW
  rw [List.map_set]
  exact set_at _ _ (by rw [List.length_map]; exact hi) (by rw [getD_map _ _ _ hi, h])
theorem ats_set {rows : List Gmaglev_walk} {i : Nat} {s p : Int} : atsW (rows.set i ⟨p, s⟩) = (atsW rows).set i p := by
  unfold atsW
  rw [List.map_set]
structure SimT (T : List Int) (O : List Int) (K : List Bool) : Prop where
  tl : T.length = 31
  ol : O.length = 31
  kl : K.length = 31
  k : ∀ p, p < 31 → K.getD p default = decide (T.getD p default ≠ -1)
  o : ∀ p, p < 31 → T.getD p default ≠ -1 → O.getD p default = T.getD p default
theorem SimT.put {T O : List Int} {K : List Bool} (h : SimT T O K) {p : Nat} (hp : p < 31) {id : Int} (hid : 0 ≤ id) : SimT (T.set p id) (O.set p id) (K.set p true) := by
  have h1 := h.tl; have h2 := h.ol; have h3 := h.kl
  refine ⟨by rw [List.length_set]; exact h1, by rw [List.length_set]; exact h2, by rw [List.length_set]; exact h3, fun q hq => ?_, fun q hq hne => ?_⟩
  · by_cases e : q = p
    · subst e
      rw [getD_set _ _ _ (by omega), getD_set _ _ _ (by omega), decide_eq_true (by omega)]
    · rw [gel (by rw [List.length_set]; omega), gel (by rw [List.length_set]; omega), List.getElem_set_ne (fun x => e x.symm), List.getElem_set_ne (fun x => e x.symm), ← gel (by omega), ← gel (by omega)]
      exact h.k q hq
  · by_cases e : q = p
    · subst e
      rw [getD_set _ _ _ (by omega), getD_set _ _ _ (by omega)]
    · rw [gel (by rw [List.length_set]; omega), List.getElem_set_ne (fun x => e x.symm), ← gel (by omega)] at hne ⊢
      rw [gel (l := T.set p id) (by rw [List.length_set]; omega), List.getElem_set_ne (fun x => e x.symm), ← gel (by omega)]
      exact h.o q hq hne
theorem take_loop2 {N : Nat} (cs : List GCandidate) (T O : List Int) (K : List Bool) (hS : SimT T O K) (id : Int) (i : Nat) (hic : i < cs.length) (hcid : (cs.getD i default).Id = id) : ∀ (j fuel : Nat) (rows : List Gmaglev_walk), okWs rows → i < rows.length → ∀ a s : Nat, rows.getD i default = ⟨(a : Int), (s : Int)⟩ → a < 31 → 1 ≤ s → s ≤ 30 → T.getD ((a + j * s) % 31) default = -1 → j < fuel →
    ∃ p, p < 31 ∧ T.getD p default = -1 ∧ L_maglev_walk_take_1 N fuel i rows T id = some (rows.set i ⟨(p : Int), (s : Int)⟩, T.set p id) ∧
      ∀ (m t15 : Int) (r2 : TyR2) (r3 : TyR3) (r4 : TyR4), L_ref1_Build_6 N r2 r3 r4 fuel cs O K (atsW rows) (stepsW rows) m (i : Int) t15 = r4 cs (O.set p id) (K.set p true) (atsW (rows.set i ⟨(p : Int), (s : Int)⟩)) (stepsW (rows.set i ⟨(p : Int), (s : Int)⟩)) (IntKind.i64.wrap (m + 1)) i (IntKind.i64.wrap (t15 + 1)) := by
  have hT := hS.tl
  have hO := hS.ol
  have hK := hS.kl
  have fin : ∀ (fuel : Nat) (rows : List Gmaglev_walk), i < rows.length → ∀ a s : Nat, rows.getD i default = ⟨(a : Int), (s : Int)⟩ → a < 31 → T.getD a default = -1 → rows.set i ⟨(a : Int), (s : Int)⟩ = rows ∧ L_maglev_walk_take_1 N (fuel + 1) i rows T id = some (rows.set i ⟨(a : Int), (s : Int)⟩, T.set a id) ∧
      ∀ (m t15 : Int) (r2 : TyR2) (r3 : TyR3) (r4 : TyR4), L_ref1_Build_6 N r2 r3 r4 (fuel + 1) cs O K (atsW rows) (stepsW rows) m (i : Int) t15 = r4 cs (O.set a id) (K.set a true) (atsW (rows.set i ⟨(a : Int), (s : Int)⟩)) (stepsW (rows.set i ⟨(a : Int), (s : Int)⟩)) (IntKind.i64.wrap (m + 1)) i (IntKind.i64.wrap (t15 + 1)) := by
    intro fuel rows hi a s hrow ha hq
    have he : rows.set i ⟨(a : Int), (s : Int)⟩ = rows := set_at _ _ hi hrow
    refine ⟨he, ?_, fun m t15 r2 r3 r4 => ?_⟩
    · rw [L_maglev_walk_take_1]
      simp only [hrow, Int.toNat_natCast]
      refine stIf (by omega) (stIf (by omega) (stNT hq (stIf (by omega) ?_)))
      rw [he]
    · have hat : (atsW rows).getD i default = (a : Int) := by unfold atsW; rw [getD_map _ _ _ hi, hrow]
      have hal : (atsW rows).length = rows.length := by unfold atsW; rw [List.length_map]
      rw [L_ref1_Build_6, Int.toNat_natCast, hat, Int.toNat_natCast, hal, hK, hO, hS.k a ha, hq, hcid, he]
      exact stIf (by omega) (stIf (by omega) (stDF (by decide) (stIf (by omega) (stIf (by omega) (stIf (by omega) (stIf (by omega) (stIf (by omega) rfl)))))))
  intro j
  induction j with
  | zero =>
    intro fuel rows hr hi a s hrow ha hs hs2 hq hf
    obtain ⟨fuel, rfl⟩ : ∃ f, fuel = f + 1 := ⟨fuel - 1, by omega⟩
    rw [Nat.zero_mul, Nat.add_zero, Nat.mod_eq_of_lt ha] at hq
    exact ⟨a, ha, hq, (fin fuel rows hi a s hrow ha hq).2⟩
  | succ j ih =>
    intro fuel rows hr hi a s hrow ha hs hs2 hq hf
    obtain ⟨fuel, rfl⟩ : ∃ f, fuel = f + 1 := ⟨fuel - 1, by omega⟩
    by_cases c : T.getD a default = -1
    · exact ⟨a, ha, c, (fin fuel rows hi a s hrow ha c).2⟩
    · have hn : L_maglev_walk_next N i rows = some (rows.set i ⟨(((a + s) % 31 : Nat) : Int), (s : Int)⟩) := by
        unfold L_maglev_walk_next
        simp only [hrow]
        refine stIf (by omega) (stVia ?_)
        rw [w64 (by omega) (by omega), Int.tmod_eq_emod_of_nonneg (by omega)]
        rfl
      have hw : okW ⟨(((a + s) % 31 : Nat) : Int), (s : Int)⟩ := ⟨_, _, Nat.mod_lt _ (by decide), hs, hs2, rfl⟩
      obtain ⟨p, p1, p2, p3, p4⟩ := ih fuel (rows.set i ⟨(((a + s) % 31 : Nat) : Int), (s : Int)⟩) (okWs_set hr i hw) (by rw [List.length_set]; exact hi) ((a + s) % 31) s (getD_set _ _ _ hi) (Nat.mod_lt _ (by decide)) hs hs2 (by
        have : ((a + s) % 31 + j * s) % 31 = (a + (j + 1) * s) % 31 := by rw [Nat.succ_mul]; omega
        rw [this]; exact hq) (by omega)
      rw [set_set] at p3 p4
      refine ⟨p, p1, p2, ?_, fun m t15 r2 r3 r4 => ?_⟩
      · rw [L_maglev_walk_take_1]
        simp only [hrow, Int.toNat_natCast]
        exact stIf (by omega) (stIf (by omega) (stNF c (stB hn (stIf (by rw [List.length_set]) p3))))
      · have hat : (atsW rows).getD i default = (a : Int) := by unfold atsW; rw [getD_map _ _ _ hi, hrow]
        have hst : (stepsW rows).getD i default = (s : Int) := by unfold stepsW; rw [getD_map _ _ _ hi, hrow]
        have hal : (atsW rows).length = rows.length := by unfold atsW; rw [List.length_map]
        have hsl : (stepsW rows).length = rows.length := by unfold stepsW; rw [List.length_map]
        have h4 := p4 m t15 r2 r3 r4
        rw [steps_set hi hrow, ats_set] at h4
        rw [L_ref1_Build_6, Int.toNat_natCast, hat, hst, Int.toNat_natCast, hal, hsl, hK, hS.k a ha, w64 (n := (a : Int) + s) (by omega) (by omega)]
        refine stIf (by omega) (stIf (by omega) (stDT c (stIf (by omega) (stIf (by omega) (stVia (stIf (by omega) ?_))))))
        rw [Int.tmod_eq_emod_of_nonneg (by omega)]
        exact h4
theorem take2 {N : Nat} (hN : 1000 ≤ N) {n left : Nat} {T : List Int} {rows : List Gmaglev_walk} (h : Inv n T rows (left + 1)) {i : Nat} (hi : i < n) {cs : List GCandidate} (hic : i < cs.length) {id : Int} (hid : 0 ≤ id) (hcid : (cs.getD i default).Id = id) {O : List Int} {K : List Bool} (hS : SimT T O K) :
    ∃ T' rows' O' K', L_maglev_walk_take N i rows T id = some (rows', T') ∧ Inv n T' rows' left ∧ SimT T' O' K' ∧
      ∀ (m t15 : Int) (r2 : TyR2) (r3 : TyR3) (r4 : TyR4), L_ref1_Build_6 N r2 r3 r4 N cs O K (atsW rows) (stepsW rows) m (i : Int) t15 = r4 cs O' K' (atsW rows') (stepsW rows') (IntKind.i64.wrap (m + 1)) i (IntKind.i64.wrap (t15 + 1)) := by
  have hir : i < rows.length := by rw [h.n]; exact hi
  obtain ⟨a, s, ha, hs, hs2, hrow⟩ := okWs_at h.ok hir
  have hmem : (-1 : Int) ∈ T := List.count_pos_iff.1 (by rw [h.left]; omega)
  obtain ⟨q, hq, hq2⟩ := List.getElem_of_mem hmem
  obtain ⟨j, hj, hj2⟩ := reach ha hs hs2 (show q < 31 by rw [← h.tl]; exact hq)
  obtain ⟨p, p1, p2, p3, p4⟩ := take_loop2 (N := N) cs T O K hS id i hic hcid j N rows h.ok hir a s hrow ha hs hs2 (by rw [hj2, List.getD_eq_getElem?_getD, List.getElem?_eq_getElem hq, hq2]; rfl) (by omega)
  have hp : p < T.length := by rw [h.tl]; exact p1
  have hTp : T[p] = -1 := by rw [List.getD_eq_getElem?_getD, List.getElem?_eq_getElem hp] at p2; exact p2
  refine ⟨T.set p id, rows.set i ⟨(p : Int), (s : Int)⟩, O.set p id, K.set p true, ?_, ⟨by rw [List.length_set]; exact h.tl, by rw [List.length_set]; exact h.n, okWs_set h.ok i ⟨p, s, p1, hs, hs2, rfl⟩, ?_⟩, hS.put p1 hid, p4⟩
  · unfold L_maglev_walk_take
    exact stIf (by omega) p3
  · rw [List.count_set hp, hTp, h.left]
    have : (id == (-1 : Int)) = false := by rw [beq_eq_false_iff_ne]; omega
    rw [this]
    simp
abbrev TyQ2 := List GCandidate → List Int → List Gmaglev_walk → Int → Option (List Int × Int)
abbrev TyQ3 := List GCandidate → List Int → List Gmaglev_walk → Int → List GCandidate → Int → Int → Option (List Int × Int)
theorem build4 {N : Nat} (hN : 1000 ≤ N) {n : Nat} {cs : List GCandidate} {i : Nat} (hi : i < n) (hic : i < cs.length) (hi16 : i < 16) (hid : 0 ≤ (cs.getD i default).Id) (hW : (cs.getD i default).Weight ≤ 16) :
    ∀ (k fuel left j : Nat) (T : List Int) (rows : List Gmaglev_walk) (O : List Int) (K : List Bool), Inv n T rows (left + k) → SimT T O K → k < fuel → left + k ≤ 31 → (((j + k : Nat) : Int) = (cs.getD i default).Weight ∨ (left = 0 ∧ ((j + k : Nat) : Int) ≤ (cs.getD i default).Weight)) →
    ∃ T' rows' O' K', Inv n T' rows' left ∧ SimT T' O' K' ∧
      (∀ (r2 : TyQ2) (r3 : TyQ3) (W : Int) (t34 : List GCandidate) (t35 t36 : Int), L_maglev_Build_4 N r2 r3 fuel cs T rows ((left + k : Nat) : Int) (i : Int) (cs.getD i default).Id W (k : Int) t34 t35 t36 = r3 cs T' rows' (left : Int) t34 t35 (IntKind.i64.wrap (t36 + 1))) ∧
      ∀ (r2 : TyR2) (r3 : TyR3), L_ref1_Build_4 N r2 r3 fuel cs O K (atsW rows) (stepsW rows) ((31 - (left + k) : Nat) : Int) (i : Int) (j : Int) = r3 cs O' K' (atsW rows') (stepsW rows') ((31 - left : Nat) : Int) ((i : Int) + 1) := by
  intro k
  induction k with
  | zero =>
    intro fuel left j T rows O K h hS hf hl hj
    obtain ⟨fuel, rfl⟩ : ∃ f, fuel = f + 1 := ⟨fuel - 1, by omega⟩
    refine ⟨T, rows, O, K, h, hS, fun r2 r3 W t34 t35 t36 => ?_, fun r2 r3 => ?_⟩
    · rw [L_maglev_Build_4]
      exact stDF (by omega) rfl
    · rw [L_ref1_Build_4]
      unfold L_ref1_Build_5
      rw [w64 (n := (i : Int) + 1) (by omega) (by omega), Int.toNat_natCast]
      refine stIf (by omega) ?_
      by_cases c : (j : Int) < (cs.getD i default).Weight
      · exact stDT c (stDF (by omega) rfl)
      · exact stDF c (stFF rfl)
  | succ k ih =>
    intro fuel left j T rows O K h hS hf hl hj
    obtain ⟨fuel, rfl⟩ : ∃ f, fuel = f + 1 := ⟨fuel - 1, by omega⟩
    obtain ⟨T1, rows1, O1, K1, e1, h1, s1, g1⟩ := take2 hN (left := left + k) h hi hic hid rfl hS
    obtain ⟨T2, rows2, O2, K2, h2, s2, e2, g2⟩ := ih fuel left (j + 1) T1 rows1 O1 K1 h1 s1 (by omega) (by omega) (by omega)
    refine ⟨T2, rows2, O2, K2, h2, s2, fun r2 r3 W t34 t35 t36 => ?_, fun r2 r3 => ?_⟩
    · rw [L_maglev_Build_4]
      have w1 : IntKind.i64.wrap (((left + (k + 1) : Nat) : Int) - 1) = ((left + k : Nat) : Int) := by rw [w64 (by omega) (by omega)]; omega
      have w2 : IntKind.i64.wrap (((k + 1 : Nat) : Int) - 1) = (k : Int) := by rw [w64 (by omega) (by omega)]; omega
      have hr := h.n
      refine stDT (by omega) (stIf (by omega) ?_)
      rw [Int.toNat_natCast, w1, w2]
      refine stB e1 (stIf (by rw [h1.n, h.n]) (stIf (by rw [h1.tl, h.tl]) ?_))
      exact e2 r2 r3 W t34 t35 t36
    · rw [L_ref1_Build_4]
      unfold L_ref1_Build_5
      rw [Int.toNat_natCast]
      refine stIf (by omega) (stDT (by omega) (stDT (by omega) ?_))
      rw [g1, w64 (n := ((31 - (left + (k + 1)) : Nat) : Int) + 1) (by omega) (by omega), w64 (n := (j : Int) + 1) (by omega) (by omega), show ((31 - (left + (k + 1)) : Nat) : Int) + 1 = ((31 - (left + k) : Nat) : Int) by omega]
      exact g2 r2 r3
theorem build3 {N : Nat} (hN : 1000 ≤ N) {cs : List GCandidate} (hg : Good cs) :
    ∀ (d fuel i left : Nat) (T : List Int) (rows : List Gmaglev_walk) (O : List Int) (K : List Bool), cs.length = i + d → d < fuel → Inv cs.length T rows left → SimT T O K → left ≤ 31 →
    ∃ T' rows' O' K' left', left' ≤ left ∧ (0 < d → 0 < left → left' < left) ∧ Inv cs.length T' rows' left' ∧ SimT T' O' K' ∧
      (∀ r2 : TyQ2, L_maglev_Build_3 N r2 fuel cs T rows (left : Int) cs (cs.length : Int) (i : Int) = r2 cs T' rows' (left' : Int)) ∧
      ∀ r2 : TyR2, L_ref1_Build_3 N r2 fuel cs O K (atsW rows) (stepsW rows) ((31 - left : Nat) : Int) (i : Int) = r2 cs O' K' (atsW rows') (stepsW rows') ((31 - left' : Nat) : Int) := by
  intro d
  induction d with
  | zero =>
    intro fuel i left T rows O K hi hf hI hS hl
    obtain ⟨fuel, rfl⟩ : ∃ f, fuel = f + 1 := ⟨fuel - 1, by omega⟩
    refine ⟨T, rows, O, K, left, Nat.le_refl _, fun h => absurd h (by decide), hI, hS, fun r2 => ?_, fun r2 => ?_⟩
    · rw [L_maglev_Build_3]
      exact stDF (by omega) rfl
    · rw [L_ref1_Build_3]
      exact stDF (by omega) rfl
  | succ d ih =>
    intro fuel i left T rows O K hi hf hI hS hl
    obtain ⟨fuel, rfl⟩ : ∃ f, fuel = f + 1 := ⟨fuel - 1, by omega⟩
    have hil : i < cs.length := by omega
    obtain ⟨hw0, hw1⟩ := hg.w i hil
    obtain ⟨hd0, hd1⟩ := hg.id i hil
    have hlen := hg.len
    generalize hk : min (cs.getD i default).Weight.toNat left = k
    have hkl : k ≤ left := by omega
    obtain ⟨T1, rows1, O1, K1, h1, s1, e1, g1⟩ := build4 hN (cs := cs) hil hil (by omega) hd0 hw1 k N (left - k) 0 T rows O K (by rw [Nat.sub_add_cancel hkl]; exact hI) hS (by omega) (by omega) (by omega)
    obtain ⟨T2, rows2, O2, K2, l2, a1, a2, h2, s2, e2, g2⟩ := ih fuel (i + 1) (left - k) T1 rows1 O1 K1 (by omega) (by omega) h1 s1 (by omega)
    refine ⟨T2, rows2, O2, K2, l2, by omega, fun _ hl0 => by omega, h2, s2, fun r2 => ?_, fun r2 => ?_⟩
    · rw [L_maglev_Build_3]
      refine stDT (by omega) (stIf (by omega) (stVia ?_))
      rw [Int.toNat_natCast]
      have hv : (if decide ((left : Int) < (cs.getD i default).Weight) = true then (left : Int) else (cs.getD i default).Weight) = (k : Int) := by
        by_cases q : (left : Int) < (cs.getD i default).Weight
        · rw [if_pos (decide_eq_true q)]; omega
        · rw [if_neg (by rw [decide_eq_true_eq]; exact q)]; omega
      rw [hv]
      rw [Nat.sub_add_cancel hkl] at e1
      rw [e1, w64 (by omega) (by omega)]
      exact e2 r2
    · rw [L_ref1_Build_3]
      refine stDT (by omega) ?_
      have := g1 r2 (L_ref1_Build_3 N r2 fuel)
      rw [Nat.sub_add_cancel hkl] at this
      exact this.trans (g2 r2)
theorem build2 {N : Nat} (hN : 1000 ≤ N) {cs : List GCandidate} (hg : Good cs) (hne : 0 < cs.length) :
    ∀ (f fuel left : Nat) (T : List Int) (rows : List Gmaglev_walk) (O : List Int) (K : List Bool), left ≤ f → f < fuel → Inv cs.length T rows left → SimT T O K → left ≤ 31 →
    ∃ T', T'.length = 31 ∧ L_maglev_Build_2 N fuel cs T rows (left : Int) = some (T', 0) ∧ L_ref1_Build_2 N fuel cs O K (atsW rows) (stepsW rows) ((31 - left : Nat) : Int) = some (T', 0) := by
  have fin : ∀ (fuel : Nat) (T : List Int) (rows : List Gmaglev_walk) (O : List Int) (K : List Bool), Inv cs.length T rows 0 → SimT T O K → ∃ T', T'.length = 31 ∧ L_maglev_Build_2 N (fuel + 1) cs T rows ((0 : Nat) : Int) = some (T', 0) ∧ L_ref1_Build_2 N (fuel + 1) cs O K (atsW rows) (stepsW rows) ((31 - 0 : Nat) : Int) = some (T', 0) := by
    intro fuel T rows O K hI hS
    refine ⟨T, hI.tl, ?_, ?_⟩
    · rw [L_maglev_Build_2]
      exact stDF (by decide) rfl
    · have hO : O = T := by
        refine List.ext_getElem (by rw [hS.ol, hS.tl]) fun p p1 p2 => ?_
        have hne1 : T.getD p default ≠ -1 := by
          intro q
          have h0 := hI.left
          rw [List.count_eq_zero] at h0
          exact h0 (by rw [← q]; exact gmem p2)
        have := hS.o p (by rw [← hS.tl]; exact p2) hne1
        rwa [gel p1, gel p2] at this
      rw [L_ref1_Build_2, hO]
      exact stDF (by decide) rfl
  intro f
  induction f with
  | zero =>
    intro fuel left T rows O K hl hf hI hS h31
    obtain ⟨fuel, rfl⟩ : ∃ f, fuel = f + 1 := ⟨fuel - 1, by omega⟩
    obtain rfl : left = 0 := by omega
    exact fin fuel T rows O K hI hS
  | succ f ih =>
    intro fuel left T rows O K hl hf hI hS h31
    obtain ⟨fuel, rfl⟩ : ∃ f, fuel = f + 1 := ⟨fuel - 1, by omega⟩
    cases left with
    | zero => exact fin fuel T rows O K hI hS
    | succ left =>
      have hlen := hg.len
      obtain ⟨T1, rows1, O1, K1, l1, a1, a2, h1, s1, e1, g1⟩ := build3 hN hg cs.length N 0 (left + 1) T rows O K (by omega) (by omega) hI hS h31
      have a3 := a2 hne (by omega)
      obtain ⟨T2, t2, e2, g2⟩ := ih fuel l1 T1 rows1 O1 K1 (by omega) (by omega) h1 s1 (by omega)
      refine ⟨T2, t2, ?_, ?_⟩
      · rw [L_maglev_Build_2]
        exact stDT (by omega) ((e1 _).trans e2)
      · rw [L_ref1_Build_2]
        exact stDT (by omega) ((g1 _).trans g2)
theorem RMix_eq (N : Nat) (k x : Nat) (hk : k < 4294967296) (hx : x < 4294967296) : L_ref1_Mix N (k : Int) (x : Int) = some (((mixN k x : Nat) : Int), 0) := by
  have hm := mixN_lt k x
  have wk : IntKind.u32.wrap (k : Int) = (k : Int) := by rw [wu32]; omega
  have wx : IntKind.u32.wrap (x : Int) = (x : Int) := by rw [wu32]; omega
  unfold L_ref1_Mix L_ref1_Mix_1
  rw [within32, within32, decide_eq_true (show 0 ≤ (k : Int) ∧ (k : Int) < 4294967296 by omega), decide_eq_true (show 0 ≤ (x : Int) ∧ (x : Int) < 4294967296 by omega), wk, wx]
  refine stB rfl (stNTT (stB rfl (stFF ?_)))
  unfold mixN at *
  have h1 : (k + 2654435769) % 4294967296 < 4294967296 := Nat.mod_lt _ (by decide)
  have w1 : IntKind.u32.wrap ((k : Int) + 2654435769) = (((k + 2654435769) % 4294967296 : Nat) : Int) := by rw [wu32]; omega
  rw [w1]
  simp only [viaE]
  rw [(xor32 _ x h1 hx).1]
  have hx1 := (xor32 _ x h1 hx).2
  generalize (k + 2654435769) % 4294967296 ^^^ x = a at *
  rw [bX 16 a hx1]
  have w2 : IntKind.u32.wrap (((X 16 a : Nat) : Int) * 2246822507) = ((X 16 a * 2246822507 % 4294967296 : Nat) : Int) := by rw [wu32]; omega
  rw [w2, bX 13 _ (Nat.mod_lt _ (by decide))]
  have w3 : ∀ y : Nat, IntKind.u32.wrap ((y : Int) * 3266489909) = ((y * 3266489909 % 4294967296 : Nat) : Int) := fun y => by rw [wu32]; omega
  rw [w3, bX 16 _ (Nat.mod_lt _ (by decide)), w64 (by omega) (by omega)]
theorem rows_put (f : Gmaglev_walk → Int) (rows : List Gmaglev_walk) (d : Nat) (w : Gmaglev_walk) : ((rows.map f) ++ List.replicate (d + 1) 0).set rows.length (f w) = ((rows ++ [w]).map f) ++ List.replicate d 0 := by
  rw [List.set_append_right _ _ (by rw [List.length_map]; exact Nat.le_refl _), List.length_map, Nat.sub_self, List.replicate_succ, List.set_cons_zero, List.map_append, List.append_assoc]
  rfl
theorem build1 {N : Nat} {cs : List GCandidate} (hg : Good cs) (T O : List Int) (K : List Bool) : ∀ (d fuel i : Nat) (rows : List Gmaglev_walk), cs.length = i + d → d < fuel → rows.length = i → okWs rows →
    ∃ rows', rows'.length = cs.length ∧ okWs rows' ∧ L_maglev_Build_1 N fuel cs T rows cs (cs.length : Int) (i : Int) = L_maglev_Build_2 N N cs T rows' 31 ∧
      L_ref1_Build_1 N fuel cs O K (atsW rows ++ List.replicate d 0) (stepsW rows ++ List.replicate d 0) (i : Int) = L_ref1_Build_2 N N cs O K (atsW rows') (stepsW rows') 0 := by
  intro d
  induction d with
  | zero =>
    intro fuel i rows hi hf hr ho
    obtain ⟨fuel, rfl⟩ : ∃ f, fuel = f + 1 := ⟨fuel - 1, by omega⟩
    refine ⟨rows, by omega, ho, ?_, ?_⟩
    · rw [L_maglev_Build_1]
      exact stDF (by omega) rfl
    · rw [L_ref1_Build_1, List.replicate_zero, List.append_nil, List.append_nil]
      exact stDF (by omega) rfl
  | succ d ih =>
    intro fuel i rows hi hf hr ho
    obtain ⟨fuel, rfl⟩ : ∃ f, fuel = f + 1 := ⟨fuel - 1, by omega⟩
    have hlen := hg.len
    obtain ⟨d0, d1⟩ := hg.id i (by omega)
    obtain ⟨rows', l1, o1, e1, g1⟩ := ih fuel (i + 1) (rows ++ [begW (cs.getD i default).Id]) (by omega) (by omega) (by simp [hr]) (by
      intro x hx
      rcases List.mem_append.1 hx with h | h
      · exact ho x h
      · rw [List.mem_singleton.1 h]; exact okW_beg _)
    refine ⟨rows', l1, o1, ?_, ?_⟩
    · rw [L_maglev_Build_1]
      refine stDT (by omega) (stIf (by omega) ?_)
      rw [Int.toNat_natCast, w64 (by omega) (by omega)]
      refine stB (begin_eq N _ d0 d1) (stIf ⟨by omega, by omega⟩ ?_)
      exact e1
    · rw [L_ref1_Build_1, Int.toNat_natCast, w64 (n := (i : Int) + 1) (by omega) (by omega)]
      obtain ⟨y, hy⟩ := Int.eq_ofNat_of_zero_le d0
      rw [hy] at d0 d1 e1 g1 ⊢
      have m1 := mixN_lt 1 y
      have m2 := mixN_lt 2 y
      have hal : (atsW rows ++ List.replicate (d + 1) 0).length = cs.length := by unfold atsW; rw [List.length_append, List.length_map, List.length_replicate]; omega
      have hsl : (stepsW rows ++ List.replicate (d + 1) 0).length = cs.length := by unfold stepsW; rw [List.length_append, List.length_map, List.length_replicate]; omega
      refine stDT (by omega) (stIf (by omega) (stB (RMix_eq N 1 y (by decide) (by omega)) (stIf (by omega) (stB (RMix_eq N 2 y (by decide) (by omega)) (stIf (by rw [hal]; omega) (stVia (stIf (by rw [hsl]; omega) ?_)))))))
      dsimp only
      rw [Int.tmod_eq_emod_of_nonneg (by omega), Int.tmod_eq_emod_of_nonneg (by omega), w64 (by omega) (by omega)]
      have b1 : ((mixN 1 y : Nat) : Int) % 31 = (begW (y : Int)).at_ := by unfold begW; rw [Int.toNat_natCast]; show _ = ((mixN 1 y % 31 : Nat) : Int); omega
      have b2 : (1 : Int) + ((mixN 2 y : Nat) : Int) % 30 = (begW (y : Int)).step_ := by unfold begW; rw [Int.toNat_natCast]; show _ = ((1 + mixN 2 y % 30 : Nat) : Int); omega
      rw [b1, b2, ← hr]
      have p1 : (atsW rows ++ List.replicate (d + 1) 0).set rows.length (begW (y : Int)).at_ = atsW (rows ++ [begW (y : Int)]) ++ List.replicate d 0 := rows_put (fun r => r.at_) rows d (begW (y : Int))
      have p2 : (stepsW rows ++ List.replicate (d + 1) 0).set rows.length (begW (y : Int)).step_ = stepsW (rows ++ [begW (y : Int)]) ++ List.replicate d 0 := rows_put (fun r => r.step_) rows d (begW (y : Int))
      rw [p1, p2]
      rw [← hr] at g1
      exact g1
theorem Build_same {cs : List GCandidate} (hc : cs.length ≤ 140737488355328) : ∃ r, L_maglev_Build 281474976710656 cs = some r ∧ L_ref1_Build 281474976710656 cs = some r ∧ (r.2 = 0 → 0 < cs.length → r.1.length = 31) := by
  have hR := RCands_eq (N := 281474976710656) cs hc (by omega)
  cases h : mayC cs with
  | false =>
    refine ⟨([], 900), Build_bad hc h, ?_, fun q => by cases q⟩
    unfold L_ref1_Build
    refine stB hR ?_
    rw [h]
    rfl
  | true =>
    have hg := good_of h
    have hlen := hg.len
    by_cases hne : 0 < cs.length
    · obtain ⟨rows, r1, r2, e1, g1⟩ := build1 (N := 281474976710656) hg (List.replicate 31 (-1)) (List.replicate 31 0) (List.replicate 31 false) cs.length 281474976710656 0 [] (by omega) (by omega) rfl (fun x hx => by simp at hx)
      have hk : ∀ p, p < 31 → (List.replicate 31 false).getD p default = decide ((List.replicate 31 (-1 : Int)).getD p default ≠ -1) := by decide
      have ho : ∀ p, p < 31 → (List.replicate 31 (-1 : Int)).getD p default = -1 := by decide
      obtain ⟨T, t1, e2, g2⟩ := build2 (N := 281474976710656) (by decide) hg hne 31 281474976710656 31 (List.replicate 31 (-1)) rows (List.replicate 31 0) (List.replicate 31 false) (by omega) (by omega) ⟨by simp, r1, r2, by decide⟩ ⟨by simp, by simp, by simp, hk, fun p hp q => absurd (ho p hp) q⟩ (by decide)
      refine ⟨(T, 0), ?_, ?_, fun _ _ => t1⟩
      · unfold L_maglev_Build
        refine stB (MayC_eq _ cs (by omega) (by omega)) ?_
        rw [h]
        refine stNTT (stEF (by omega) (stB repeat_eq ?_))
        exact e1.trans e2
      · unfold L_ref1_Build
        refine stB hR ?_
        rw [h]
        refine stNTT (stEF (by omega) (stIf (by omega) (stIf (by omega) ?_)))
        rw [Int.toNat_natCast]
        exact g1.trans g2
    · obtain rfl : cs = [] := List.eq_nil_of_length_eq_zero (by omega)
      refine ⟨([], 0), Build_none, ?_, fun _ q => by simp at q⟩
      unfold L_ref1_Build
      refine stB hR ?_
      rw [h]
      rfl
theorem Pick_same {cs : List GCandidate} (hc : cs.length ≤ 140737488355328) (x : Int) : ∃ r, L_maglev_Pick 281474976710656 cs x = some r ∧ L_ref1_Pick 281474976710656 cs x = some r := by
  obtain ⟨⟨T, e⟩, b1, b2, b3⟩ := Build_same hc
  have hT : e = 0 → T = [] ∨ T.length = 31 := by
    intro he
    by_cases c : 0 < cs.length
    · exact .inr (b3 he c)
    · obtain rfl : cs = [] := List.eq_nil_of_length_eq_zero (by omega)
      rw [Build_none, Option.some.injEq, Prod.mk.injEq] at b1
      exact .inl b1.1.symm
  unfold L_maglev_Pick L_ref1_Pick L_maglev_Pick_1 L_ref1_Pick_1
  by_cases he : e = 0
  · subst he
    by_cases hx : x < 0
    · exact ⟨(0, false, 900), stB b1 (stNT rfl (by rw [decide_eq_true hx]; rfl)), stB b2 (stNT rfl (by rw [decide_eq_true hx]; rfl))⟩
    · rcases hT rfl with rfl | hT
      · exact ⟨(0, false, 0), stB b1 (stNT rfl (by rw [decide_eq_false hx]; rfl)), stB b2 (stNT rfl (by rw [decide_eq_false hx]; rfl))⟩
      · have hm : x.tmod 31 = x % 31 := Int.tmod_eq_emod_of_nonneg (by omega)
        refine ⟨(T.getD (x.tmod 31).toNat default, true, 0), stB b1 (stNT rfl ?_), stB b2 (stNT rfl ?_)⟩ <;> (rw [decide_eq_false hx]; rw [hm]; exact stFF (stEF (by dsimp only; omega) (stIf (by dsimp only; omega) rfl)))
  · exact ⟨(0, false, 900), stB b1 (stNF he rfl), stB b2 (stNF he rfl)⟩
end Go.Proofs.Ythhlflmjikdgcaa.Pu
