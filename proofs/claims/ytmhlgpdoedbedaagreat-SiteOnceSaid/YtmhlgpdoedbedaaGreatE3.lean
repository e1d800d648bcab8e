import Derived.Test.YtmhlgpdoedbedaaGreatE2
set_option linter.unusedVariables false
set_option linter.unusedSimpArgs false
namespace Go.Proofs.YtmhlgpdoedbedaaGreat.Pu
open Go Go.RowKit Go.Proofs.YtmhlgpdoedbedaaGreat.Sv Go.Proofs.YtmhlgpdoedbedaaGreat.Lf
theorem add_eq (N : Nat) (b : List GCandidate) (i w : Int) (d : Bool) (h : GHealth) (hb : b.length ≤ 100) :
    L_cand_add N b i w d h = some (bif h.Up && (!d && decide (0 < w)) then (b ++ [⟨i, w⟩], [], false) else (b, b, true)) := by
  unfold L_cand_add L_cand_add_1
  have hg := growOk_small (b := 16) (n := b.length + 1) (by decide) (by omega)
  cases h.Up with
  | false => rfl
  | true =>
    cases d with
    | true => rfl
    | false =>
      by_cases c : w ≤ 0
      · rw [decide_eq_true c, decide_eq_false (show ¬ 0 < w by omega)]; rfl
      · rw [decide_eq_false c, decide_eq_true (show 0 < w by omega)]
        exact stFF (stFF (stFF (stIf hg rfl)))
theorem mayC_of {cs : List GCandidate} (h : ∀ c ∈ cs, (0 ≤ c.Id ∧ c.Id < 256) ∧ (1 ≤ c.Weight ∧ c.Weight ≤ 16)) (hp : cs.Pairwise fun a b => a.Id < b.Id) (hl : cs.length ≤ 16) : mayC cs = true := by
  unfold mayC
  rw [Bool.and_eq_true, List.all_eq_true, decide_eq_true_eq]
  refine ⟨fun i hi => ?_, hl⟩
  rw [List.mem_range'_1] at hi
  have hil : i < cs.length := by omega
  obtain ⟨h1, h2⟩ := h _ (getD_mem hil)
  unfold badAt
  rw [decide_eq_true h1, decide_eq_true h2]
  by_cases c : 0 < i
  · have h0 : i - 1 < cs.length := by omega
    have := List.pairwise_iff_getElem.1 hp (i - 1) i h0 hil (by omega)
    rw [← getD_el h0, ← getD_el hil] at this
    rw [decide_eq_false (show ¬ ((cs.getD (i - 1) default).Id ≥ (cs.getD i default).Id) by omega)]
    simp
  · rw [decide_eq_false c]; rfl
theorem flow_loop (N : Nat) (l : List Int) (hl : l.length ≤ 100) : ∀ (d fuel i k : Nat), l.length = i + d → d < fuel → k < 4294967296 →
    ∃ h : Nat, h < 4294967296 ∧ L_hash_Flow_2 N fuel (k : Int) l (l.length : Int) (i : Int) = some ((h : Int), 0) := by
  intro d
  induction d with
  | zero =>
    intro fuel i k hi hf hk
    obtain ⟨fuel, rfl⟩ : ∃ f, fuel = f + 1 := ⟨fuel - 1, by omega⟩
    rw [L_hash_Flow_2]
    refine ⟨k, hk, stDF (by omega) ?_⟩
    rw [w64 (by omega) (by omega)]
  | succ d ih =>
    intro fuel i k hi hf hk
    obtain ⟨fuel, rfl⟩ : ∃ f, fuel = f + 1 := ⟨fuel - 1, by omega⟩
    obtain ⟨x, hx⟩ := Int.eq_ofNat_of_zero_le (show 0 ≤ IntKind.u32.wrap (l.getD i default) by rw [wu32]; omega)
    have hx2 : x < 4294967296 := by have : IntKind.u32.wrap (l.getD i default) < 4294967296 := by rw [wu32]; omega
                                    omega
    obtain ⟨h, h1, h2⟩ := ih fuel (i + 1) (mixN k x) (by omega) (by omega) (mixN_lt k x)
    rw [L_hash_Flow_2, Int.toNat_natCast, w64 (n := (i : Int) + 1) (by omega) (by omega), hx]
    exact ⟨h, h1, stDT (by omega) (stIf (by omega) (stVia (stB (mix_eq N k x hk hx2) h2)))⟩
theorem HFlow_eq {N : Nat} (hN : 1000 ≤ N) {f : GFlow} (hf : mayF f = true) (key : Int) (hk : 0 ≤ key ∧ key < 4294967296) : ∃ h : Nat, h < 4294967296 ∧ L_hash_Flow N key f = some ((h : Int), 0) := by
  obtain ⟨k, rfl⟩ := Int.eq_ofNat_of_zero_le hk.1
  unfold L_hash_Flow L_hash_Flow_1
  rw [in32, decide_eq_true hk, FlowMay_eq, hf]
  obtain ⟨h, h1, h2⟩ := flow_loop N [f.Src, f.Dst, f.Proto, bOr .i64 (IntKind.i64.wrap (f.Sport * 2 ^ 16)) f.Dport] (by simp) 4 N 0 k rfl (by omega) (by omega)
  have wk : IntKind.u32.wrap (k : Int) = (k : Int) := by rw [wu32]; omega
  refine ⟨h, h1, stB rfl (stNTT (stB rfl (stFF (stVia ?_))))⟩
  rw [wk]
  exact h2
theorem count_sum : ∀ (T ids : List Int) (x : Int), ids.Nodup → x ∉ ids → (ids.map fun a => T.count a).sum + T.count x ≤ T.length
  | [], ids, x, _, _ => by
    have : ∀ l : List Int, (l.map fun a => ([] : List Int).count a).sum = 0 := by
      intro l
      induction l with
      | nil => rfl
      | cons a l ih => rw [List.map_cons, List.sum_cons, ih, List.count_nil]
    rw [this, List.count_nil]
    exact Nat.le_refl _
  | t :: T, ids, x, hn, hx => by
    have ih := count_sum T ids x hn hx
    have hs : ∀ l : List Int, (l.map fun a => (t :: T).count a).sum = (l.map fun a => T.count a).sum + l.count t := by
      intro l
      induction l with
      | nil => rfl
      | cons a l il =>
        simp only [List.map_cons, List.sum_cons, List.count_cons] at il ⊢
        rw [il]
        have : (if (t == a) = true then 1 else 0) = (if (a == t) = true then 1 else 0) := by
          by_cases e : t = a
          · subst e; rfl
          · rw [if_neg (by simpa using e), if_neg (by simpa using fun h => e h.symm)]
        omega
    rw [hs, List.count_cons, List.length_cons]
    have h1 : ids.count t ≤ 1 := List.nodup_iff_count.1 hn t
    by_cases e : t = x
    · subst e
      have : ids.count t = 0 := List.count_eq_zero.2 hx
      rw [if_pos (by simp)]
      omega
    · rw [if_neg (by simpa using e)]
      omega
theorem ids_nodup : ∀ {cs : List GCandidate}, cs.Pairwise (fun a b => a.Id < b.Id) → (cs.map fun c => c.Id).Nodup := by
  intro cs h
  rw [List.Nodup, List.pairwise_map]
  exact h.imp fun h => Int.ne_of_lt h
theorem good_up {cs : List GCandidate} (hg : Good cs) : cs.Pairwise fun a b => a.Id < b.Id := by
  rw [List.pairwise_iff_getElem]
  intro i j hi hj hij
  have := hg.up j i hij hj
  rwa [getD_el hi, getD_el hj] at this
theorem cnt_sum {cs : List GCandidate} {T : List Int} {c : List Nat} (h : Cnt cs T c) : ((cs.map fun x => x.Id).map fun a => T.count a).sum = c.sum := by
  congr 1
  apply List.ext_getElem (by simp [h.len])
  intro i h1 h2
  have hi : i < cs.length := by simpa using h1
  have := h.at_ i hi
  rw [getD_el hi, List.getD_eq_getElem?_getD, List.getElem?_eq_getElem h2] at this
  simpa using this
theorem wts_sum_pos {cs : List GCandidate} (hg : Good cs) (hne : 0 < cs.length) : 0 < (wts cs).sum := by
  have h0 := wts_at cs hne
  rw [List.drop_zero] at h0
  rw [h0, List.sum_cons]
  have := (hg.w 0 hne).1
  omega
theorem all_ids {cs : List GCandidate} {T : List Int} (h : mayC cs = true) (hne : 0 < cs.length) (hT : T.length = 31) (hC : Cnt cs T (rounds (wts cs) 31 (31, List.replicate cs.length 0))) : ∀ x ∈ T, ∃ c ∈ cs, c.Id = x := by
  have hg := good_of h
  have hS := wts_sum_pos hg hne
  obtain ⟨r1, r2, r3⟩ := rounds_spec (wts cs) hS 31 31 0 (List.replicate cs.length 0) (by decide) (by rw [List.length_replicate, wts_len]) (fun j hj => by
    rw [List.getD_eq_getElem?_getD, List.getElem?_replicate]
    split <;> simp) (by simp) (by simp)
  intro x hx
  by_cases c : x ∈ cs.map fun c => c.Id
  · obtain ⟨q, q1, q2⟩ := List.mem_map.1 c
    exact ⟨q, q1, q2⟩
  · have := count_sum T (cs.map fun c => c.Id) x (ids_nodup (good_up hg)) c
    rw [cnt_sum hC, r2, hT] at this
    have := List.count_pos_iff.2 hx
    omega
theorem Choose_eq {cs : List GCandidate} (hc : mayC cs = true) {f : GFlow} (hf : mayF f = true) (key : Int) (hk : 0 ≤ key ∧ key < 4294967296) :
    ∃ id is, L_edge_Choose 281474976710656 cs key f = some (id, is) ∧ (is = true → ∃ c ∈ cs, c.Id = id) ∧ (is = false → cs = []) := by
  obtain ⟨h, h1, h2⟩ := HFlow_eq (N := 281474976710656) (by decide) hf key hk
  unfold L_edge_Choose
  cases cs with
  | nil =>
    exact ⟨0, false, stB h2 (stB (Pick_none _ (by show (0 : Int) ≤ (h : Int); omega)) rfl), fun e => absurd e (by decide), fun _ => rfl⟩
  | cons c cs =>
    obtain ⟨T, t1, t2, t3, t4⟩ := Build_eq hc (by simp)
    refine ⟨_, true, stB h2 (stB (Pick_eq t1 t2 _ (by show (0 : Int) ≤ (h : Int); omega)) rfl), fun _ => all_ids hc (by simp) t2 t4 _ (getD_mem (by rw [t2]; omega)), fun e => absurd e (by decide)⟩
end Go.Proofs.YtmhlgpdoedbedaaGreat.Pu
