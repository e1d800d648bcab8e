/- Plain laws: MaglevShares. -/
import Derived.Test.YthhlflmjikdgcaaPO
namespace Go.Proofs.Ythhlflmjikdgcaa.Pu
set_option linter.unusedSimpArgs false
set_option linter.unusedVariables false
open Go Go.RowKit Go.Proofs.Ythhlflmjikdgcaa.Sv Go.Proofs.Ythhlflmjikdgcaa.Lf
theorem sum_set : ∀ (c : List Nat) (i x : Nat), i < c.length → (c.set i x).sum + c.getD i 0 = c.sum + x
  | [], i, x, h => by simp at h
  | a :: c, 0, x, h => by simp; omega
  | a :: c, i + 1, x, h => by
    have := sum_set c i x (by simpa using h)
    simp only [List.set_cons_succ, List.sum_cons, List.getD_cons_succ]
    omega
theorem getD_set_ne (c : List Nat) {i j : Nat} (x : Nat) (h : j ≠ i) : (c.set i x).getD j 0 = c.getD j 0 := by
  rw [List.getD_eq_getElem?_getD, List.getD_eq_getElem?_getD, List.getElem?_set_ne (fun e => h e.symm)]
theorem getD_set_eq (c : List Nat) {i : Nat} (x : Nat) (h : i < c.length) : (c.set i x).getD i 0 = x := by
  rw [List.getD_eq_getElem?_getD, List.getElem?_set_self h]
  rfl
theorem rd_spec : ∀ (ws : List Nat) (i l : Nat) (c : List Nat), i + ws.length ≤ c.length →
    (rd ws i (l, c)).1 = l - ws.sum ∧ (rd ws i (l, c)).2.sum + (rd ws i (l, c)).1 = c.sum + l ∧ (∀ j, j < i → (rd ws i (l, c)).2.getD j 0 = c.getD j 0) ∧
      ∀ t, t < ws.length → ∃ k, k ≤ ws.getD t 0 ∧ (ws.sum ≤ l → k = ws.getD t 0) ∧ (rd ws i (l, c)).2.getD (i + t) 0 = c.getD (i + t) 0 + k
  | [], i, l, c, h => ⟨by simp [rd], rfl, fun _ _ => rfl, fun t ht => by simp at ht⟩
  | w :: ws, i, l, c, h => by
    simp only [List.length_cons] at h
    unfold rd
    generalize hk : min w l = k
    obtain ⟨h1, h2, h3, h4⟩ := rd_spec ws (i + 1) (l - k) (c.set i (c.getD i 0 + k)) (by rw [List.length_set]; omega)
    have hs := sum_set c i (c.getD i 0 + k) (by omega)
    refine ⟨by rw [h1, List.sum_cons]; omega, by rw [h2]; omega, ?_, ?_⟩
    · intro j hj
      rw [h3 j (by omega), getD_set_ne _ _ (by omega)]
    · intro t ht
      cases t with
      | zero =>
        refine ⟨k, by rw [List.getD_cons_zero]; omega, fun hl => by rw [List.sum_cons] at hl; rw [List.getD_cons_zero]; omega, ?_⟩
        simp only [Nat.add_zero]
        rw [h3 i (by omega), getD_set_eq _ _ (by omega)]
      | succ t =>
        simp only [List.length_cons] at ht
        obtain ⟨q, q1, q2, q3⟩ := h4 t (by omega)
        refine ⟨q, by rw [List.getD_cons_succ]; exact q1, fun hl => by rw [List.sum_cons] at hl; rw [List.getD_cons_succ]; exact q2 (by omega), ?_⟩
        rw [show i + (t + 1) = i + 1 + t by omega, q3, getD_set_ne _ _ (by omega)]
theorem rounds_spec (ws : List Nat) (hS : 0 < ws.sum) : ∀ (f l r : Nat) (c : List Nat), l ≤ f → c.length = ws.length → (∀ j, j < ws.length → c.getD j 0 = r * ws.getD j 0) → l + r * ws.sum = 31 → c.sum + l = 31 →
    (rounds ws f (l, c)).length = ws.length ∧ (rounds ws f (l, c)).sum = 31 ∧ ∀ j, j < ws.length → 31 / ws.sum * ws.getD j 0 ≤ (rounds ws f (l, c)).getD j 0 ∧ (rounds ws f (l, c)).getD j 0 ≤ (31 / ws.sum + 1) * ws.getD j 0 := by
  intro f
  induction f with
  | zero =>
    intro l r c hl hc hcj hr hs
    obtain rfl : l = 0 := by omega
    have hR : 31 / ws.sum = r := by rw [← hr, Nat.zero_add]; exact Nat.mul_div_cancel _ hS
    refine ⟨hc, by show c.sum = 31; omega, fun j hj => ?_⟩
    show _ ≤ c.getD j 0 ∧ c.getD j 0 ≤ _
    rw [hR, hcj j hj, Nat.succ_mul]
    omega
  | succ f ih =>
    intro l r c hl hc hcj hr hs
    cases l with
    | zero =>
      have hR : 31 / ws.sum = r := by rw [← hr, Nat.zero_add]; exact Nat.mul_div_cancel _ hS
      refine ⟨hc, by show c.sum = 31; omega, fun j hj => ?_⟩
      show _ ≤ c.getD j 0 ∧ c.getD j 0 ≤ _
      rw [hR, hcj j hj, Nat.succ_mul]
      omega
    | succ l =>
      obtain ⟨h1, h2, _, h4⟩ := rd_spec ws 0 (l + 1) c (by omega)
      have h5 := rd_len ws 0 (l + 1) c
      show (rounds ws f (rd ws 0 (l + 1, c))).length = _ ∧ (rounds ws f (rd ws 0 (l + 1, c))).sum = _ ∧ ∀ j, _ → _ ≤ (rounds ws f (rd ws 0 (l + 1, c))).getD j 0 ∧ (rounds ws f (rd ws 0 (l + 1, c))).getD j 0 ≤ _
      generalize rd ws 0 (l + 1, c) = s at *
      obtain ⟨l', c'⟩ := s
      simp only at h1 h2 h4 h5
      by_cases hle : ws.sum ≤ l + 1
      · refine ih l' (r + 1) c' (by omega) (by omega) ?_ (by rw [Nat.succ_mul]; omega) (by omega)
        intro j hj
        obtain ⟨k, _, k2, k3⟩ := h4 j hj
        rw [Nat.zero_add] at k3
        rw [k3, hcj j hj, k2 hle, Nat.succ_mul]
      · obtain rfl : l' = 0 := by omega
        have hR : 31 / ws.sum = r := by
          rw [← hr, Nat.add_mul_div_right _ _ hS, Nat.div_eq_of_lt (by omega), Nat.zero_add]
        have e : rounds ws f (0, c') = c' := by cases f <;> rfl
        rw [e]
        refine ⟨by omega, by omega, fun j hj => ?_⟩
        obtain ⟨k, k1, _, k3⟩ := h4 j hj
        rw [Nat.zero_add] at k3
        rw [hR, k3, hcj j hj, Nat.succ_mul]
        omega
theorem shares_3 {cs : List GCandidate} (r2 : List GCandidate → List Int → Int → Int → Int → Option Bool) (N : Nat) (T : List Int) (hT : T.length = 31) (t5 t7 : Int) (i : Nat) (hi : i < cs.length) {r : Option Bool} (x : Int) (hx : x = (cs.getD i default).Id)
    (hr : (if t5 ≠ 0 then
      if 0 ≤ (i : Int) ∧ (i : Int) < ((cs.length : Nat) : Int) then
      via ((IntKind.i64.wrap ((IntKind.i64.wrap ((31 : Int).tdiv t5)) * (cs.getD (i : Int).toNat default).Weight)) : Int) fun v1 =>
      bif (decide (((T.count x : Nat) : Int) < v1)) then
        L_law9_MaglevShares_5 N r2 cs T t5 t7 (i : Int) ((T.count x : Nat) : Int) true
      else
        via ((IntKind.i64.wrap ((IntKind.i64.wrap ((31 : Int).tdiv t5)) + 1)) : Int) fun v2 =>
        if 0 ≤ (i : Int) ∧ (i : Int) < ((cs.length : Nat) : Int) then
        via ((IntKind.i64.wrap (v2 * (cs.getD (i : Int).toNat default).Weight)) : Int) fun v3 =>
        L_law9_MaglevShares_5 N r2 cs T t5 t7 (i : Int) ((T.count x : Nat) : Int) (decide (((T.count x : Nat) : Int) > v3))
        else none
      else none
      else none) = r) : ∀ (d fuel j : Nat), 31 = j + d → d < fuel → L_law9_MaglevShares_3 N r2 fuel cs T t5 t7 (i : Int) (((T.take j).count x : Nat) : Int) (j : Int) = r := by
  intro d
  induction d with
  | zero =>
    intro fuel j hj hf
    obtain ⟨fuel, rfl⟩ : ∃ f, fuel = f + 1 := ⟨fuel - 1, by omega⟩
    rw [L_law9_MaglevShares_3]
    refine stDF (by omega) ?_
    rw [List.take_of_length_le (by omega)]
    exact hr
  | succ d ih =>
    intro fuel j hj hf
    obtain ⟨fuel, rfl⟩ : ∃ f, fuel = f + 1 := ⟨fuel - 1, by omega⟩
    have hn := ih fuel (j + 1) (by omega) (by omega)
    have c1 := count_next T x j (by omega)
    have b1 : (T.take j).count x ≤ 31 := Nat.le_trans List.count_le_length (by rw [List.length_take]; omega)
    rw [c1] at hn
    rw [L_law9_MaglevShares_3]
    unfold L_law9_MaglevShares_4
    refine stDT (by omega) (stIf (by omega) (stIf (by omega) ?_))
    rw [Int.toNat_natCast, Int.toNat_natCast, ← hx, w64 (n := (j : Int) + 1) (by omega) (by omega), w64 (n := (((T.take j).count x : Nat) : Int) + 1) (by omega) (by omega)]
    by_cases e1 : T.getD j default = x
    · rw [if_pos e1] at hn
      exact stET e1 hn
    · rw [if_neg e1] at hn
      exact stEF e1 hn
theorem wts_len (cs : List GCandidate) : (wts cs).length = cs.length := by unfold wts; rw [List.length_map]
theorem wts_get (cs : List GCandidate) {i : Nat} (hi : i < cs.length) : (wts cs).getD i 0 = (cs.getD i default).Weight.toNat := by
  have h := wts_at cs hi
  have : (wts cs).getD i 0 = ((wts cs).drop i).getD 0 0 := by
    simp [List.getD_eq_getElem?_getD]
  rw [this, h]
  rfl
theorem sum_le : ∀ (ws : List Nat), (∀ w ∈ ws, w ≤ 16) → ws.sum ≤ 16 * ws.length
  | [], _ => by simp
  | w :: ws, h => by
    have h1 := h w (by simp)
    have h2 := sum_le ws (fun x hx => h x (by simp [hx]))
    simp only [List.sum_cons, List.length_cons]
    omega
theorem sum_take (c : List Nat) (i : Nat) (h : i < c.length) : (c.take (i + 1)).sum = (c.take i).sum + c.getD i 0 := by
  rw [List.take_add_one, List.sum_append, List.getD_eq_getElem?_getD, List.getElem?_eq_getElem h]
  simp
theorem sum_take_le (c : List Nat) (i : Nat) : (c.take i).sum ≤ c.sum := by
  have : (c.take i).sum + (c.drop i).sum = c.sum := by rw [← List.sum_append, List.take_append_drop]
  omega
theorem shares_2 {cs : List GCandidate} (hg : Good cs) (T : List Int) (hT : T.length = 31) (S : Nat) (hS : 0 < S) (hS2 : S ≤ 256) (c : List Nat) (hC : Cnt cs T c) (hsum : c.sum = 31)
    (hb : ∀ j, j < cs.length → 31 / S * (cs.getD j default).Weight.toNat ≤ c.getD j 0 ∧ c.getD j 0 ≤ (31 / S + 1) * (cs.getD j default).Weight.toNat) :
    ∀ (d fuel i : Nat), cs.length = i + d → d < fuel → L_law9_MaglevShares_2 281474976710656 fuel cs T (S : Int) (((c.take i).sum : Nat) : Int) (i : Int) = some true := by
  intro d
  have hlen := hg.len
  induction d with
  | zero =>
    intro fuel i hi hf
    obtain ⟨fuel, rfl⟩ : ∃ f, fuel = f + 1 := ⟨fuel - 1, by omega⟩
    rw [L_law9_MaglevShares_2]
    refine stDF (by omega) (stET (by rw [hT]; rfl) ?_)
    rw [List.take_of_length_le (by rw [hC.len]; omega), hsum]
    rfl
  | succ d ih =>
    intro fuel i hi hf
    obtain ⟨fuel, rfl⟩ : ∃ f, fuel = f + 1 := ⟨fuel - 1, by omega⟩
    have hil : i < cs.length := by omega
    have hn := ih fuel (i + 1) (by omega) (by omega)
    obtain ⟨hw0, hw1⟩ := hg.w i hil
    obtain ⟨hb1, hb2⟩ := hb i hil
    have hst := sum_take c i (by rw [hC.len]; exact hil)
    have hle := sum_take_le c i
    have hle1 := sum_take_le c (i + 1)
    rw [L_law9_MaglevShares_2]
    refine stDT (by omega) ?_
    refine shares_3 _ _ T hT (S : Int) _ i hil (cs.getD i default).Id rfl ?_ 31 _ 0 rfl (by decide)
    rw [hC.at_ i hil, Int.toNat_natCast]
    have e1 : (31 : Int).tdiv (S : Int) = ((31 / S : Nat) : Int) := by rw [Int.tdiv_eq_ediv_of_nonneg (by decide)]; rfl
    have hR : 31 / S ≤ 31 := Nat.div_le_self _ _
    obtain ⟨w, hw⟩ := Int.eq_ofNat_of_zero_le (show 0 ≤ (cs.getD i default).Weight by omega)
    rw [hw] at hb1 hb2 hw0 hw1
    rw [Int.toNat_natCast] at hb1 hb2
    generalize 31 / S = R at *
    generalize c.getD i 0 = m at *
    rw [e1, w64 (n := (R : Int)) (by omega) (by omega), w64 (n := (R : Int) + 1) (by omega) (by omega), hw]
    have m1 : (R : Int) * (w : Int) = ((R * w : Nat) : Int) := by simp
    have m2 : ((R : Int) + 1) * (w : Int) = (((R + 1) * w : Nat) : Int) := by simp
    have m3 : (R + 1) * w ≤ 32 * 16 := Nat.mul_le_mul (by omega) (by omega)
    have m4 : R * w ≤ (R + 1) * w := Nat.mul_le_mul_right _ (by omega)
    rw [m1, w64 (n := ((R * w : Nat) : Int)) (by omega) (by omega)]
    refine stIf (by omega) (stIf (by omega) (stVia (stDF (by omega) (stVia (stIf (by omega) (stVia ?_))))))
    rw [m2, w64 (n := (((R + 1) * w : Nat) : Int)) (by omega) (by omega), decide_eq_false (show ¬ (m : Int) > (((R + 1) * w : Nat) : Int) by omega)]
    unfold L_law9_MaglevShares_5
    refine stFF ?_
    rw [w64 (by omega) (by omega), w64 (by omega) (by omega), show (((c.take i).sum : Nat) : Int) + (m : Int) = (((c.take (i + 1)).sum : Nat) : Int) by omega]
    exact hn
theorem shares_1 {cs : List GCandidate} (hg : Good cs) (T : List Int) (N : Nat) {r : Option Bool} (hr : L_law9_MaglevShares_2 N N cs T ((wts cs).sum : Nat) 0 0 = r) :
    ∀ (d fuel i : Nat), cs.length = i + d → d < fuel → L_law9_MaglevShares_1 N fuel cs T ((((wts cs).take i).sum : Nat) : Int) (i : Int) = r := by
  intro d
  have hlen := hg.len
  have hsl : (wts cs).sum ≤ 16 * (wts cs).length := sum_le _ (fun w hw => by
    unfold wts at hw
    obtain ⟨c, hc, rfl⟩ := List.mem_map.1 hw
    obtain ⟨k, hk, rfl⟩ := List.getElem_of_mem hc
    have := hg.w k hk
    rw [List.getD_eq_getElem?_getD, List.getElem?_eq_getElem hk] at this
    simp only [Option.getD_some] at this
    omega)
  rw [wts_len] at hsl
  induction d with
  | zero =>
    intro fuel i hi hf
    obtain ⟨fuel, rfl⟩ : ∃ f, fuel = f + 1 := ⟨fuel - 1, by omega⟩
    rw [L_law9_MaglevShares_1]
    refine stDF (by omega) ?_
    rw [List.take_of_length_le (by rw [wts_len]; omega)]
    exact hr
  | succ d ih =>
    intro fuel i hi hf
    obtain ⟨fuel, rfl⟩ : ∃ f, fuel = f + 1 := ⟨fuel - 1, by omega⟩
    have hil : i < cs.length := by omega
    have hn := ih fuel (i + 1) (by omega) (by omega)
    obtain ⟨hw0, hw1⟩ := hg.w i hil
    have hst := sum_take (wts cs) i (by rw [wts_len]; exact hil)
    have hle := sum_take_le (wts cs) i
    rw [wts_get cs hil] at hst
    rw [L_law9_MaglevShares_1]
    refine stDT (by omega) (stIf (by omega) (stVia ?_))
    rw [Int.toNat_natCast, w64 (n := (i : Int) + 1) (by omega) (by omega), w64 (by omega) (by omega), show ((((wts cs).take i).sum : Nat) : Int) + (cs.getD i default).Weight = ((((wts cs).take (i + 1)).sum : Nat) : Int) by omega]
    exact hn
theorem MaglevShares (cs : List GCandidate) (hc : cs.length ≤ 140737488355328) : L_law9_MaglevShares 281474976710656 cs = some true := by
  unfold L_law9_MaglevShares
  rw [awake9]
  refine stB rfl (stNTT ?_)
  cases hm : mayC cs with
  | false => exact stB (Build_bad hc hm) (stB rfl (stNF (by decide) rfl))
  | true =>
    by_cases h0 : 0 < cs.length
    · obtain ⟨T, t1, t2, _, t3⟩ := Build_eq hm h0
      have hg := good_of hm
      have hlen := hg.len
      have hS : 0 < (wts cs).sum := by
        have h := wts_at cs h0
        rw [List.drop_zero] at h
        have := (hg.w 0 h0).1
        rw [h, List.sum_cons]
        omega
      have hS2 : (wts cs).sum ≤ 256 := by
        have hsl : (wts cs).sum ≤ 16 * (wts cs).length := sum_le _ (fun w hw => by
          unfold wts at hw
          obtain ⟨c, hc, rfl⟩ := List.mem_map.1 hw
          obtain ⟨k, hk, rfl⟩ := List.getElem_of_mem hc
          have := hg.w k hk
          rw [List.getD_eq_getElem?_getD, List.getElem?_eq_getElem hk] at this
          simp only [Option.getD_some] at this
          omega)
        rw [wts_len] at hsl
        omega
      obtain ⟨r1, r2, r3⟩ := rounds_spec (wts cs) hS 31 31 0 (List.replicate cs.length 0) (by decide) (by simp [wts_len]) (fun j hj => by rw [Nat.zero_mul, List.getD_eq_getElem?_getD]; simp [List.getElem?_replicate]; split <;> rfl) (by omega) (by simp)
      refine stB t1 (stB rfl (stNT rfl (stEF (by omega) ?_)))
      refine shares_1 hg T _ (r := some true) ?_ cs.length _ 0 (by omega) (by omega)
      refine shares_2 hg T t2 (wts cs).sum hS hS2 _ t3 r2 (fun j hj => ?_) cs.length _ 0 (by omega) (by omega)
      have := r3 j (by rw [wts_len]; exact hj)
      rw [wts_get cs hj] at this
      exact this
    · obtain rfl : cs = [] := List.length_eq_zero_iff.1 (by omega)
      exact stB Build_none (stB rfl (stNT rfl (stET rfl rfl)))
end Go.Proofs.Ythhlflmjikdgcaa.Pu
