import Derived.Test.YthhlflmjikdgcaaPM
set_option linter.unusedVariables false
set_option linter.unusedSimpArgs false
namespace Go.Proofs.Ythhlflmjikdgcaa.Pu
open Go Go.RowKit Go.Proofs.Ythhlflmjikdgcaa.Sv Go.Proofs.Ythhlflmjikdgcaa.Lf
theorem build_4 {N : Nat} (hN : 1000 ≤ N) {n : Nat} (r2 : List GCandidate → List Int → List Gmaglev_walk → Int → Option (List Int × Int)) (r3 : List GCandidate → List Int → List Gmaglev_walk → Int → List GCandidate → Int → Int → Option (List Int × Int)) (cs : List GCandidate) {i : Nat} (hi : i < n) {id : Int} (W : Int) (hid : 0 ≤ id) (t34 : List GCandidate) (t35 t36 : Int) :
    ∀ (k fuel left : Nat) (T : List Int) (rows : List Gmaglev_walk), Inv n T rows (left + k) → k < fuel → left + k ≤ 31 →
    ∃ T' rows', Inv n T' rows' left ∧ T'.count id = T.count id + k ∧ (∀ x, x ≠ id → x ≠ -1 → T'.count x = T.count x) ∧
      L_maglev_Build_4 N r2 r3 fuel cs T rows ((left + k : Nat) : Int) (i : Int) id W (k : Int) t34 t35 t36 = r3 cs T' rows' (left : Int) t34 t35 (IntKind.i64.wrap (t36 + 1)) := by
  intro k
  induction k with
  | zero =>
    intro fuel left T rows h hf hl
    obtain ⟨fuel, rfl⟩ : ∃ f, fuel = f + 1 := ⟨fuel - 1, by omega⟩
    refine ⟨T, rows, h, by omega, fun _ _ _ => rfl, ?_⟩
    rw [L_maglev_Build_4]
    exact stDF (by omega) rfl
  | succ k ih =>
    intro fuel left T rows h hf hl
    obtain ⟨fuel, rfl⟩ : ∃ f, fuel = f + 1 := ⟨fuel - 1, by omega⟩
    obtain ⟨T1, rows1, e1, h1, c1, o1⟩ := take_eq hN (left := left + k) h hi hid
    obtain ⟨T2, rows2, h2, c2, o2, e2⟩ := ih fuel left T1 rows1 h1 (by omega) (by omega)
    refine ⟨T2, rows2, h2, by omega, fun x hx hx2 => (o2 x hx hx2).trans (o1 x hx hx2), ?_⟩
    rw [L_maglev_Build_4]
    have w1 : IntKind.i64.wrap (((left + (k + 1) : Nat) : Int) - 1) = ((left + k : Nat) : Int) := by rw [w64 (by omega) (by omega)]; omega
    have w2 : IntKind.i64.wrap (((k + 1 : Nat) : Int) - 1) = (k : Int) := by rw [w64 (by omega) (by omega)]; omega
    have hr := h.n
    refine stDT (by omega) (stIf (by omega) ?_)
    rw [Int.toNat_natCast, w1, w2]
    refine stB e1 (stIf (by rw [h1.n, h.n]) (stIf (by rw [h1.tl, h.tl]) ?_))
    exact e2
def rd : List Nat → Nat → Nat × List Nat → Nat × List Nat
  | [], _, s => s
  | w :: ws, i, (l, c) => rd ws (i + 1) (l - min w l, c.set i (c.getD i 0 + min w l))
def rounds (ws : List Nat) : Nat → Nat × List Nat → List Nat
  | 0, s => s.2
  | _ + 1, (0, c) => c
  | f + 1, (l + 1, c) => rounds ws f (rd ws 0 (l + 1, c))
theorem rd_le : ∀ (ws : List Nat) (i l : Nat) (c : List Nat), (rd ws i (l, c)).1 ≤ l
  | [], i, l, c => Nat.le_refl _
  | w :: ws, i, l, c => Nat.le_trans (rd_le ws (i + 1) _ _) (Nat.sub_le _ _)
structure Good (cs : List GCandidate) : Prop where
  len : cs.length ≤ 16
  id : ∀ i, i < cs.length → 0 ≤ (cs.getD i default).Id ∧ (cs.getD i default).Id < 256
  w : ∀ i, i < cs.length → 1 ≤ (cs.getD i default).Weight ∧ (cs.getD i default).Weight ≤ 16
  up : ∀ j i, i < j → j < cs.length → (cs.getD i default).Id < (cs.getD j default).Id
theorem good_of {cs : List GCandidate} (h : mayC cs = true) : Good cs := by
  unfold mayC at h
  rw [Bool.and_eq_true, List.all_eq_true, decide_eq_true_eq] at h
  have hb : ∀ i, i < cs.length → badAt cs i = false := fun i hi => by
    have := h.1 i (by rw [List.mem_range'_1]; omega)
    simpa using this
  have hp : ∀ i, i < cs.length → (0 ≤ (cs.getD i default).Id ∧ (cs.getD i default).Id < 256) ∧ (1 ≤ (cs.getD i default).Weight ∧ (cs.getD i default).Weight ≤ 16) ∧ (0 < i → (cs.getD (i - 1) default).Id < (cs.getD i default).Id) := fun i hi => by
    have := hb i hi
    unfold badAt at this
    simp only [Bool.or_eq_false_iff, Bool.and_eq_false_iff, Bool.not_eq_false', decide_eq_true_eq, decide_eq_false_iff_not] at this
    omega
  refine ⟨h.2, fun i hi => (hp i hi).1, fun i hi => (hp i hi).2.1, ?_⟩
  intro j
  induction j with
  | zero => intro i hi; omega
  | succ j ih =>
    intro i hi hj
    have h1 := (hp (j + 1) hj).2.2 (by omega)
    rw [Nat.add_sub_cancel] at h1
    by_cases c : i = j
    · rw [c]; exact h1
    · exact Int.lt_trans (ih i (by omega) (by omega)) h1
theorem Good.ne {cs : List GCandidate} (h : Good cs) {i j : Nat} (hi : i < cs.length) (hj : j < cs.length) (hij : i ≠ j) : (cs.getD i default).Id ≠ (cs.getD j default).Id := by
  rcases Nat.lt_or_gt_of_ne hij with c | c
  · have := h.up j i c hj; omega
  · have := h.up i j c hi; omega
structure Cnt (cs : List GCandidate) (T : List Int) (c : List Nat) : Prop where
  len : c.length = cs.length
  at_ : ∀ j, j < cs.length → T.count (cs.getD j default).Id = c.getD j 0
def wts (cs : List GCandidate) : List Nat := cs.map fun c => c.Weight.toNat
theorem wts_at (cs : List GCandidate) {i : Nat} (hi : i < cs.length) : (wts cs).drop i = (cs.getD i default).Weight.toNat :: (wts cs).drop (i + 1) := by
  unfold wts
  rw [List.drop_eq_getElem_cons (by rw [List.length_map]; exact hi)]
  simp [List.getD_eq_getElem?_getD, List.getElem?_eq_getElem hi]
theorem build_3 {N : Nat} (hN : 1000 ≤ N) {cs : List GCandidate} (hg : Good cs) (r2 : List GCandidate → List Int → List Gmaglev_walk → Int → Option (List Int × Int)) :
    ∀ (d fuel i left : Nat) (T : List Int) (rows : List Gmaglev_walk) (c : List Nat), cs.length = i + d → d < fuel → Inv cs.length T rows left → Cnt cs T c → left ≤ 31 →
    ∃ T' rows', Inv cs.length T' rows' (rd ((wts cs).drop i) i (left, c)).1 ∧ Cnt cs T' (rd ((wts cs).drop i) i (left, c)).2 ∧
      L_maglev_Build_3 N r2 fuel cs T rows (left : Int) cs (cs.length : Int) (i : Int) = r2 cs T' rows' ((rd ((wts cs).drop i) i (left, c)).1 : Int) := by
  intro d
  induction d with
  | zero =>
    intro fuel i left T rows c hi hf hI hC hl
    obtain ⟨fuel, rfl⟩ : ∃ f, fuel = f + 1 := ⟨fuel - 1, by omega⟩
    have e : (wts cs).drop i = [] := List.drop_eq_nil_of_le (by unfold wts; rw [List.length_map]; omega)
    rw [e]
    refine ⟨T, rows, hI, hC, ?_⟩
    rw [L_maglev_Build_3]
    exact stDF (by omega) rfl
  | succ d ih =>
    intro fuel i left T rows c hi hf hI hC hl
    obtain ⟨fuel, rfl⟩ : ∃ f, fuel = f + 1 := ⟨fuel - 1, by omega⟩
    have hil : i < cs.length := by omega
    obtain ⟨hw0, hw1⟩ := hg.w i hil
    obtain ⟨hd0, hd1⟩ := hg.id i hil
    have hlen := hg.len
    rw [wts_at cs hil]
    unfold rd
    generalize hk : min (cs.getD i default).Weight.toNat left = k
    have hkl : k ≤ left := by omega
    obtain ⟨T1, rows1, h1, c1, o1, e1⟩ := build_4 hN r2 (L_maglev_Build_3 N r2 fuel) cs hil (cs.getD i default).Weight hd0 cs (cs.length : Int) (i : Int) k N (left - k) T rows (by rw [Nat.sub_add_cancel hkl]; exact hI) (by omega) (by omega)
    have hC1 : Cnt cs T1 (c.set i (c.getD i 0 + k)) := by
      refine ⟨by rw [List.length_set]; exact hC.len, fun j hj => ?_⟩
      by_cases e : j = i
      · subst e
        rw [c1, hC.at_ j hj, List.getD_eq_getElem?_getD (l := c.set j _), List.getElem?_set_self (by rw [hC.len]; exact hj)]
        rfl
      · have hne := hg.ne hj hil e
        have hjd := (hg.id j hj).1
        rw [o1 _ hne (by omega), hC.at_ j hj, List.getD_eq_getElem?_getD, List.getD_eq_getElem?_getD, List.getElem?_set_ne (fun x => e x.symm)]
    obtain ⟨T2, rows2, h2, C2, e2⟩ := ih fuel (i + 1) (left - k) T1 rows1 _ (by omega) (by omega) h1 hC1 (by omega)
    refine ⟨T2, rows2, h2, C2, ?_⟩
    rw [L_maglev_Build_3]
    refine stDT (by omega) (stIf (by omega) (stVia ?_))
    rw [Int.toNat_natCast]
    have hv : (if decide ((left : Int) < (cs.getD i default).Weight) = true then (left : Int) else (cs.getD i default).Weight) = (k : Int) := by
      by_cases q : (left : Int) < (cs.getD i default).Weight
      · rw [if_pos (decide_eq_true q)]; omega
      · rw [if_neg (by rw [decide_eq_true_eq]; exact q)]; omega
    rw [hv]
    rw [Nat.sub_add_cancel hkl] at e1
    rw [e1, w64 (by omega) (by omega)]
    exact e2
theorem build_2 {N : Nat} (hN : 1000 ≤ N) {cs : List GCandidate} (hg : Good cs) (hne : 0 < cs.length) :
    ∀ (f fuel left : Nat) (T : List Int) (rows : List Gmaglev_walk) (c : List Nat), left ≤ f → f < fuel → Inv cs.length T rows left → Cnt cs T c → left ≤ 31 →
    ∃ T', T'.length = 31 ∧ T'.count (-1) = 0 ∧ Cnt cs T' (rounds (wts cs) f (left, c)) ∧ L_maglev_Build_2 N fuel cs T rows (left : Int) = some (T', 0) := by
  intro f
  induction f with
  | zero =>
    intro fuel left T rows c hl hf hI hC h31
    obtain ⟨fuel, rfl⟩ : ∃ f, fuel = f + 1 := ⟨fuel - 1, by omega⟩
    obtain rfl : left = 0 := by omega
    refine ⟨T, hI.tl, hI.left, hC, ?_⟩
    rw [L_maglev_Build_2]
    exact stDF (by decide) rfl
  | succ f ih =>
    intro fuel left T rows c hl hf hI hC h31
    obtain ⟨fuel, rfl⟩ : ∃ f, fuel = f + 1 := ⟨fuel - 1, by omega⟩
    cases left with
    | zero =>
      refine ⟨T, hI.tl, hI.left, hC, ?_⟩
      rw [L_maglev_Build_2]
      exact stDF (by decide) rfl
    | succ left =>
      have hlen := hg.len
      obtain ⟨T1, rows1, h1, C1, e1⟩ := build_3 hN hg (L_maglev_Build_2 N fuel) cs.length N 0 (left + 1) T rows c (by omega) (by omega) hI hC h31
      rw [List.drop_zero] at h1 C1 e1
      have hle : (rd (wts cs) 0 (left + 1, c)).1 ≤ left := by
        have hw := wts_at cs hne
        rw [List.drop_zero] at hw
        rw [hw]
        unfold rd
        obtain ⟨w0, _⟩ := hg.w 0 hne
        refine Nat.le_trans (rd_le _ _ _ _) ?_
        omega
      obtain ⟨T2, l2, m2, C2, e2⟩ := ih fuel _ T1 rows1 _ (by omega) (by omega) h1 C1 (by omega)
      refine ⟨T2, l2, m2, C2, ?_⟩
      rw [L_maglev_Build_2]
      exact stDT (by omega) (e1.trans e2)
def begW (id : Int) : Gmaglev_walk := ⟨((mixN 1 id.toNat % 31 : Nat) : Int), ((1 + mixN 2 id.toNat % 30 : Nat) : Int)⟩
theorem begin_eq (N : Nat) (id : Int) (h0 : 0 ≤ id) (h1 : id < 256) : L_maglev_begin N id = some (begW id) := by
  obtain ⟨x, rfl⟩ := Int.eq_ofNat_of_zero_le h0
  have m1 := mixN_lt 1 x
  have m2 := mixN_lt 2 x
  unfold L_maglev_begin begW
  refine stB (Mix_eq N 1 x (by decide) (by omega)) (stB (Mix_eq N 2 x (by decide) (by omega)) (stVia ?_))
  rw [Int.toNat_natCast, Int.tmod_eq_emod_of_nonneg (by omega), Int.tmod_eq_emod_of_nonneg (by omega), w64 (by omega) (by omega)]
  congr 2
theorem okW_beg (id : Int) : okW (begW id) := ⟨_, _, Nat.mod_lt _ (by decide), by omega, by omega, rfl⟩
theorem build_1 {N : Nat} {cs : List GCandidate} (hg : Good cs) (T : List Int) : ∀ (d fuel i : Nat) (rows : List Gmaglev_walk), cs.length = i + d → d < fuel → rows.length = i → okWs rows →
    ∃ rows', rows'.length = cs.length ∧ okWs rows' ∧ L_maglev_Build_1 N fuel cs T rows cs (cs.length : Int) (i : Int) = L_maglev_Build_2 N N cs T rows' 31 := by
  intro d
  induction d with
  | zero =>
    intro fuel i rows hi hf hr ho
    obtain ⟨fuel, rfl⟩ : ∃ f, fuel = f + 1 := ⟨fuel - 1, by omega⟩
    refine ⟨rows, by omega, ho, ?_⟩
    rw [L_maglev_Build_1]
    exact stDF (by omega) rfl
  | succ d ih =>
    intro fuel i rows hi hf hr ho
    obtain ⟨fuel, rfl⟩ : ∃ f, fuel = f + 1 := ⟨fuel - 1, by omega⟩
    have hlen := hg.len
    obtain ⟨d0, d1⟩ := hg.id i (by omega)
    obtain ⟨rows', l1, o1, e1⟩ := ih fuel (i + 1) (rows ++ [begW (cs.getD i default).Id]) (by omega) (by omega) (by simp [hr]) (by
      intro x hx
      rcases List.mem_append.1 hx with h | h
      · exact ho x h
      · rw [List.mem_singleton.1 h]; exact okW_beg _)
    refine ⟨rows', l1, o1, ?_⟩
    rw [L_maglev_Build_1]
    refine stDT (by omega) (stIf (by omega) ?_)
    rw [Int.toNat_natCast, w64 (by omega) (by omega)]
    refine stB (begin_eq N _ d0 d1) (stIf ⟨by omega, by omega⟩ ?_)
    exact e1
theorem repeat_eq : L_maglev_repeat_int 281474976710656 (-1) 31 = some (List.replicate 31 (-1)) := by decide +kernel
theorem Build_bad {cs : List GCandidate} (hc : cs.length ≤ 140737488355328) (h : mayC cs = false) : L_maglev_Build 281474976710656 cs = some ([], 900) := by
  unfold L_maglev_Build
  refine stB (MayC_eq _ cs hc (by omega)) ?_
  rw [h]
  rfl
theorem Build_none : L_maglev_Build 281474976710656 [] = some ([], 0) := by
  unfold L_maglev_Build
  refine stB (MayC_eq _ [] (by decide) (by decide)) ?_
  rfl
theorem Build_eq {cs : List GCandidate} (h : mayC cs = true) (hne : 0 < cs.length) :
    ∃ T, L_maglev_Build 281474976710656 cs = some (T, 0) ∧ T.length = 31 ∧ T.count (-1) = 0 ∧ Cnt cs T (rounds (wts cs) 31 (31, List.replicate cs.length 0)) := by
  have hg := good_of h
  have hlen := hg.len
  obtain ⟨rows, r1, r2, e1⟩ := build_1 (N := 281474976710656) hg (List.replicate 31 (-1)) cs.length 281474976710656 0 [] (by omega) (by omega) rfl (fun x hx => by simp at hx)
  obtain ⟨T, t1, t2, t3, e2⟩ := build_2 (N := 281474976710656) (by decide) hg hne 31 281474976710656 31 (List.replicate 31 (-1)) rows (List.replicate cs.length 0) (by omega) (by omega) ⟨by simp, r1, r2, by decide⟩ ⟨by simp, fun j hj => by
    have := (hg.id j hj).1
    rw [List.count_replicate, if_neg (by rw [beq_iff_eq]; omega), List.getD_eq_getElem?_getD]
    simp [hj]⟩ (by decide)
  refine ⟨T, ?_, t1, t2, t3⟩
  unfold L_maglev_Build
  refine stB (MayC_eq _ cs (by omega) (by omega)) ?_
  rw [h]
  refine stNTT (stEF (by omega) (stB repeat_eq ?_))
  exact e1.trans e2
end Go.Proofs.Ythhlflmjikdgcaa.Pu
