import Derived.Test.YtmhlgpdoedbedaaGreatE1
set_option linter.unusedVariables false
set_option linter.unusedSimpArgs false
namespace Go.Proofs.YtmhlgpdoedbedaaGreat.Pu
open Go Go.RowKit Go.Proofs.YtmhlgpdoedbedaaGreat.Sv Go.Proofs.YtmhlgpdoedbedaaGreat.Lf
theorem getD_mem {α : Type} [Inhabited α] {l : List α} {i : Nat} (h : i < l.length) : l.getD i default ∈ l := by
  rw [List.getD_eq_getElem?_getD, List.getElem?_eq_getElem h]; exact List.getElem_mem _
theorem getD_el {α : Type} [Inhabited α] {l : List α} {i : Nat} (h : i < l.length) : l.getD i default = l[i] := by
  rw [List.getD_eq_getElem?_getD, List.getElem?_eq_getElem h]; rfl
theorem at_le (f : GFlow) : ∀ (es : List GEntry) (k j : Nat), j < es.length → eqF (es.getD j default).Flow f = true → at_ f es k ≤ ((k + j : Nat) : Int)
  | [], k, j, h, _ => by simp at h
  | e :: es, k, 0, h, hf => by unfold at_; rw [if_pos (by simpa using hf)]; omega
  | e :: es, k, j + 1, h, hf => by
    unfold at_
    split
    · omega
    · have := at_le f es (k + 1) j (by simpa using h) (by simpa using hf)
      omega
theorem at_is (f : GFlow) : ∀ (es : List GEntry) (k i : Nat), i < es.length → eqF (es.getD i default).Flow f = true → (∀ j, j < i → eqF (es.getD j default).Flow f = false) → at_ f es k = ((k + i : Nat) : Int)
  | [], k, i, h, _, _ => by simp at h
  | e :: es, k, 0, h, hf, _ => by unfold at_; rw [if_pos (by simpa using hf)]; omega
  | e :: es, k, i + 1, h, hf, hj => by
    unfold at_
    have h0 := hj 0 (by omega)
    rw [if_neg (by simpa using h0)]
    have := at_is f es (k + 1) i (by simpa using h) (by simpa using hf) (fun j hj' => by simpa using hj (j + 1) (by omega))
    rw [this]
    omega
theorem at_cases (f : GFlow) : ∀ (es : List GEntry) (k : Nat), (at_ f es k = -1 ∧ ∀ e ∈ es, eqF e.Flow f = false) ∨ ∃ i, i < es.length ∧ at_ f es k = ((k + i : Nat) : Int) ∧ eqF (es.getD i default).Flow f = true
  | [], _ => .inl ⟨rfl, fun e h => by simp at h⟩
  | e :: es, k => by
    unfold at_
    cases hq : eqF e.Flow f with
    | true => exact .inr ⟨0, by simp, by rw [if_pos rfl]; omega, by simpa using hq⟩
    | false =>
      rw [if_neg (by decide)]
      rcases at_cases f es (k + 1) with ⟨h1, h2⟩ | ⟨i, h1, h2, h3⟩
      · refine .inl ⟨h1, fun x hx => ?_⟩
        rcases List.mem_cons.1 hx with rfl | hx
        · exact hq
        · exact h2 x hx
      · exact .inr ⟨i + 1, by simpa using h1, by rw [h2]; omega, by simpa using h3⟩
def Apart (es : List GEntry) : Prop := es.Pairwise fun a b => a.Flow ≠ b.Flow
theorem cacheOk_iff (es : List GEntry) : cacheOk es = true ↔ (∀ e ∈ es, entOk e = true) ∧ Apart es ∧ es.length ≤ 8 := by
  unfold cacheOk
  rw [Bool.and_eq_true, List.all_eq_true, decide_eq_true_eq]
  constructor
  · rintro ⟨h, hl⟩
    have hg : ∀ i, i < es.length → entOk (es.getD i default) = true ∧ at_ (es.getD i default).Flow es 0 = (i : Int) := by
      intro i hi
      have := h i (by rw [List.mem_range'_1]; omega)
      unfold goodAt at this
      simp only [Bool.and_eq_true, Bool.not_eq_true', bne_eq_false_iff_eq] at this
      exact this
    refine ⟨?_, ?_, by omega⟩
    · intro e he
      obtain ⟨i, hi, rfl⟩ := List.getElem_of_mem he
      rw [← getD_el hi]
      exact (hg i hi).1
    · unfold Apart
      rw [List.pairwise_iff_getElem]
      intro i j hi hj hij e
      have h2 := (hg j hj).2
      have h3 := at_le (es.getD j default).Flow es 0 i hi (by rw [eqF_iff, getD_el hi, getD_el hj]; exact e)
      omega
  · rintro ⟨h1, h2, h3⟩
    refine ⟨fun i hi => ?_, by omega⟩
    rw [List.mem_range'_1] at hi
    have hil : i < es.length := by omega
    unfold goodAt
    rw [h1 _ (getD_mem hil), at_is _ es 0 i hil (eqF_rfl _) (fun j hj => by
      rw [← Bool.not_eq_true, eqF_iff, getD_el hil, getD_el (show j < es.length by omega)]
      exact List.pairwise_iff_getElem.1 h2 j i (by omega) hil hj)]
    simp
def zE : GEntry := ⟨⟨0, 0, 0, 0, 0⟩, 0, false, 0, 0⟩
def limE (p : Int) : Int := if p = 0 then 40 else 6
def ranE (e : GEntry) (now : Int) : Bool := !entOk e || decide (now ≥ e.Used + limE e.Phase)
theorem entOk_parts {e : GEntry} (h : entOk e = true) : mayF e.Flow = true ∧ (0 ≤ e.To ∧ e.To < 256) ∧ (0 ≤ e.Phase ∧ e.Phase ≤ 2) ∧ (0 ≤ e.Used ∧ e.Used ≤ 1048576) := by
  unfold entOk timeOk at h
  simpa only [Bool.and_eq_true, decide_eq_true_eq] using h
theorem Ran_eq (N : Nat) (e : GEntry) (now : Int) : L_entry_Ran N e now = some (ranE e now) := by
  unfold L_entry_Ran L_entry_Ran_1 ranE
  have hl : ∃ p, L_track_Limit N e.Phase = some p ∧ (entOk e = true → p.1 = limE e.Phase) := by
    unfold L_track_Limit
    rw [phase_eq, Option.bind_some]
    by_cases a : 0 ≤ e.Phase ∧ e.Phase ≤ 2
    · rw [decide_eq_true a]
      by_cases b : e.Phase = 0
      · exact ⟨_, stNTT (stET b rfl), fun _ => by unfold limE; rw [if_pos b]⟩
      · exact ⟨_, stNTT (stEF b rfl), fun _ => by unfold limE; rw [if_neg b]⟩
    · rw [decide_eq_false a]
      exact ⟨_, stNFF rfl, fun h => absurd (entOk_parts h).2.2.1 a⟩
  obtain ⟨p, h1, h2⟩ := hl
  refine stB h1 (stB (EMay_eq N e) ?_)
  cases he : entOk e with
  | false => rfl
  | true =>
    have hu := (entOk_parts he).2.2.2
    have hp : 0 ≤ limE e.Phase ∧ limE e.Phase ≤ 40 := by unfold limE; split <;> omega
    rw [h2 he, w64 (by omega) (by omega)]
    rfl
def findE (es : List GEntry) (f : GFlow) (now : Int) : GEntry × Bool :=
  if at_ f es 0 < 0 then (zE, false) else if ranE (es.getD (at_ f es 0).toNat default) now = true then (zE, false) else (es.getD (at_ f es 0).toNat default, true)
theorem Find_eq {N : Nat} (hN : 140737488355328 < N) (es : List GEntry) (f : GFlow) (now : Int) (h : cacheOk es = true) : L_cache_Find N es f now = some (findE es f now) := by
  have hl := ((cacheOk_iff es).1 h).2.2
  unfold L_cache_Find findE L_cache_Find_1
  refine stB (At_eq hN es f (by omega)) ?_
  by_cases a : at_ f es 0 < 0
  · rw [if_pos a]; exact stDT a rfl
  · rw [if_neg a]
    have hr : 0 ≤ at_ f es 0 ∧ at_ f es 0 < (es.length : Int) := by
      rcases at_cases f es 0 with ⟨q, _⟩ | ⟨i, q1, q2, _⟩ <;> omega
    refine stDF a (stB (CMay_eq hN es (by omega)) ?_)
    rw [h]
    refine stNTT (stIf hr (stB (Ran_eq N _ now) ?_))
    show (bif ranE (es.getD (at_ f es 0).toNat default) now then _ else _) = _
    cases ranE (es.getD (at_ f es 0).toNat default) now with
    | true => rfl
    | false => exact stFF (stIf hr rfl)
def rest (es : List GEntry) (f : GFlow) : List GEntry := es.filter fun e => !eqF e.Flow f
theorem split_loop (N : Nat) (x : GEntry) (es : List GEntry) (hb : es.length ≤ 1000) : ∀ (d fuel i : Nat) (a b : List GEntry), es.length = i + d → d < fuel → a.length ≤ i → b.length ≤ i →
    ∃ Y, L_cache_split_api_Entry_1 N fuel x.Flow.Src x.Flow.Dst x.Flow.Proto x.Flow.Sport x.Flow.Dport x.To x.Away x.Phase x.Used a b es (es.length : Int) (i : Int) = some (Y, b ++ rest (es.drop i) x.Flow) := by
  intro d
  induction d with
  | zero =>
    intro fuel i a b hi hf ha hb'
    obtain ⟨fuel, rfl⟩ : ∃ f, fuel = f + 1 := ⟨fuel - 1, by omega⟩
    rw [L_cache_split_api_Entry_1, List.drop_of_length_le (by omega)]
    refine ⟨a, stDF (by omega) ?_⟩
    unfold rest
    rw [List.filter_nil, List.append_nil]
  | succ d ih =>
    intro fuel i a b hi hf ha hb'
    obtain ⟨fuel, rfl⟩ : ∃ f, fuel = f + 1 := ⟨fuel - 1, by omega⟩
    have hil : i < es.length := by omega
    rw [L_cache_split_api_Entry_1, drop_at hil, Int.toNat_natCast]
    unfold L_cache_split_api_Entry_2
    rw [w64 (n := (i : Int) + 1) (by omega) (by omega)]
    have hr : rest (es.getD i default :: es.drop (i + 1)) x.Flow = bif eqF (es.getD i default).Flow x.Flow then rest (es.drop (i + 1)) x.Flow else es.getD i default :: rest (es.drop (i + 1)) x.Flow := by
      unfold rest
      cases h : eqF (es.getD i default).Flow x.Flow with
      | true => rw [List.filter_cons_of_neg (by rw [h]; decide)]; rfl
      | false => rw [List.filter_cons_of_pos (by rw [h]; decide)]; rfl
    rw [hr]
    cases h : eqF (es.getD i default).Flow x.Flow with
    | true =>
      obtain ⟨Y, hY⟩ := ih fuel (i + 1) (a ++ [es.getD i default]) b (by omega) (by omega) (by rw [List.length_append, List.length_singleton]; omega) (by omega)
      refine ⟨Y, stDT (by omega) (stIf (by omega) (stB (x := true) (congrArg some h) (stTT (stIf ⟨by omega, by omega⟩ ?_))))⟩
      exact hY
    | false =>
      obtain ⟨Y, hY⟩ := ih fuel (i + 1) a (b ++ [es.getD i default]) (by omega) (by omega) (by omega) (by rw [List.length_append, List.length_singleton]; omega)
      refine ⟨Y, stDT (by omega) (stIf (by omega) (stB (x := false) (congrArg some h) (stFF (stIf ⟨by omega, by omega⟩ ?_))))⟩
      refine hY.trans ?_
      rw [List.append_assoc]
      rfl
def putE (es : List GEntry) (x : GEntry) : List GEntry × GEntry × Bool × Int :=
  if 8 < (rest es x.Flow).length + 1 then ((rest es x.Flow ++ [x]).drop 1, (rest es x.Flow ++ [x]).getD 0 default, true, 0) else (rest es x.Flow ++ [x], zE, false, 0)
theorem rest_le (es : List GEntry) (f : GFlow) : (rest es f).length ≤ es.length := List.length_filter_le ..
theorem CPut_eq {N : Nat} (hN : 140737488355328 < N) (es : List GEntry) (x : GEntry) (h : cacheOk es = true) (hx : entOk x = true) : L_cache_Put N es x = some (putE es x) := by
  have hl := ((cacheOk_iff es).1 h).2.2
  obtain ⟨Y, hY⟩ := split_loop N x es (by omega) es.length N 0 [] [] (by omega) (by omega) (by simp) (by simp)
  rw [List.nil_append, List.drop_zero] at hY
  have hr := rest_le es x.Flow
  unfold L_cache_Put L_cache_Put_1 putE
  refine stB (CMay_eq hN es (by omega)) ?_
  rw [h]
  refine stNTT (stB (EMay_eq N x) ?_)
  rw [hx]
  refine stNTT (stB (x := (Y, rest es x.Flow)) hY ?_)
  dsimp only
  have hlen : (rest es x.Flow ++ [x]).length = (rest es x.Flow).length + 1 := by rw [List.length_append, List.length_singleton]
  have hx' : (⟨⟨x.Flow.Src, x.Flow.Dst, x.Flow.Proto, x.Flow.Sport, x.Flow.Dport⟩, x.To, x.Away, x.Phase, x.Used⟩ : GEntry) = x := rfl
  rw [hx']
  refine stIf ⟨by omega, by omega⟩ (stVia ?_)
  generalize rest es x.Flow ++ [x] = O at *
  by_cases c : 8 < (rest es x.Flow).length + 1
  · rw [if_pos c]
    refine stDT (by omega) (stIf ⟨by omega, by omega, by omega, by omega, by omega⟩ (stIf ⟨by omega, by omega⟩ ?_))
    rw [List.take_of_length_le (by rw [List.length_drop]; omega)]
    rfl
  · rw [if_neg c]
    exact stDF (by omega) rfl
theorem growOk_small {b n : Nat} (hb : b ≤ 1000) (hn : n ≤ 1000) : growOk b n := by
  have := Nat.mul_le_mul (Nat.mul_le_mul_left 2 hn) hb
  exact ⟨Nat.le_trans this (by decide), by omega⟩
theorem CopyC_loop {N : Nat} (v : Int) (ss : List GSite) (hs : ss.length ≤ 100) (hb : ∀ y ∈ ss, y.Backs.length ≤ 100) (ss0 : List GSite) (z : Int) : ∀ (d fuel i : Nat) (b : List GSite), ss.length = i + d → d < fuel → b.length = i →
    L_conf_Copy_1 N fuel v ss0 z b ss (ss.length : Int) (i : Int) = some ⟨v, b ++ ss.drop i⟩ := by
  intro d
  induction d with
  | zero =>
    intro fuel i b hi hf hl
    obtain ⟨fuel, rfl⟩ : ∃ f, fuel = f + 1 := ⟨fuel - 1, by omega⟩
    rw [L_conf_Copy_1, List.drop_of_length_le (by omega), List.append_nil]
    exact stDF (by omega) rfl
  | succ d ih =>
    intro fuel i b hi hf hl
    obtain ⟨fuel, rfl⟩ : ∃ f, fuel = f + 1 := ⟨fuel - 1, by omega⟩
    have hil : i < ss.length := by omega
    have hm := hb _ (getD_mem hil)
    rw [L_conf_Copy_1, Int.toNat_natCast, w64 (n := (i : Int) + 1) (by omega) (by omega)]
    refine stDT (by omega) (stIf (by omega) (stIf (growOk_small (by omega) (by omega)) (stIf (growOk_small (by omega) (by omega)) ?_)))
    refine (ih fuel (i + 1) (b ++ [ss.getD i default]) (by omega) (by omega) (by rw [List.length_append, hl]; rfl)).trans ?_
    rw [List.append_assoc, drop_at hil]
    rfl
theorem CopyC_eq {N : Nat} (hN : 1000 ≤ N) (c : GConfig) (hs : c.Sites.length ≤ 100) (hb : ∀ y ∈ c.Sites, y.Backs.length ≤ 100) : L_conf_Copy N c = some c :=
  CopyC_loop c.Version c.Sites hs hb c.Sites 0 c.Sites.length N 0 [] (by omega) (by omega) rfl
theorem CloneH_eq (N : Nat) (hs : List GHealth) (hl : hs.length ≤ 100) : L_slices_Clone_api_Health_api_Health_v3 N hs = some hs := by
  unfold L_slices_Clone_api_Health_api_Health_v3 L_slices_Clone_api_Health_api_Health L_slices_Clone_api_Health_api_Health_v2
  by_cases h : hs.length = 0
  · rw [if_pos h, List.eq_nil_of_length_eq_zero h]
  · rw [if_neg h]
    exact stIf h (stIf (growOk_small (by omega) (by omega)) rfl)
theorem CloneE_eq (N : Nat) (hs : List GEntry) (hl : hs.length ≤ 100) : L_slices_Clone_api_Entry_api_Entry_v3 N hs = some hs := by
  unfold L_slices_Clone_api_Entry_api_Entry_v3 L_slices_Clone_api_Entry_api_Entry L_slices_Clone_api_Entry_api_Entry_v2
  by_cases h : hs.length = 0
  · rw [if_pos h, List.eq_nil_of_length_eq_zero h]
  · rw [if_neg h]
    exact stIf h (stIf (growOk_small (by omega) (by omega)) rfl)
theorem confOk_small {c : GConfig} (h : confOk c = true) : c.Sites.length ≤ 3 ∧ ∀ y ∈ c.Sites, siteOk y = true ∧ y.Backs.length ≤ 4 := by
  unfold confOk at h
  simp only [Bool.and_eq_true, List.all_eq_true, decide_eq_true_eq] at h
  refine ⟨by omega, fun y hy => ⟨h.1 y hy, ?_⟩⟩
  have := h.1 y hy
  unfold siteOk at this
  simp only [Bool.and_eq_true, List.all_eq_true, decide_eq_true_eq] at this
  omega
theorem hsOk_len {hs : List GHealth} {n : Int} (h : hsOk hs n = true) : (hs.length : Int) = n := by
  unfold hsOk at h
  simp only [Bool.and_eq_true, beq_iff_eq] at h
  exact h.2
end Go.Proofs.YtmhlgpdoedbedaaGreat.Pu
