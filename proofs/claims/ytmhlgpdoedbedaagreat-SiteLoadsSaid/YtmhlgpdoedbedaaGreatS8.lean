/- Plain laws: SiteLoads. -/
import Derived.Test.YtmhlgpdoedbedaaGreatS7
namespace Go.Proofs.YtmhlgpdoedbedaaGreat.Pu
set_option linter.unusedSimpArgs false
set_option linter.unusedVariables false
open Go Go.RowKit Go.Proofs.YtmhlgpdoedbedaaGreat.Sv Go.Proofs.YtmhlgpdoedbedaaGreat.Lf
def entL (i : Nat) : GEntry := ⟨flowI i, 0, false, 0, 1⟩
def nL (is : List Nat) (sr : Int) : GNode := ⟨1, givenC, newsB, newV, is.map entL, sr⟩
def marks (is : List Nat) : List Bool := (List.range 16).map fun j => decide (j ∈ is)
def joined (is : List Nat) (i : Nat) : List Nat := (is.filter fun j => j != i) ++ [i]
theorem flowI_inj {i j : Nat} (hi : i < 16) (hj : j < 16) (h : flowI i = flowI j) : i = j := by
  have : (i : Int) % 65536 = (j : Int) % 65536 := congrArg GFlow.Src h
  omega
theorem marks_set {is : List Nat} {i : Nat} (hi : i < 16) : (marks is).set i true = marks (joined is i) := by
  unfold marks
  refine List.ext_getElem (by simp) fun n h1 h2 => ?_
  rw [List.getElem_set]
  simp only [List.getElem_map, List.getElem_range]
  unfold joined
  by_cases c : i = n
  · rw [if_pos c, c]; simp
  · rw [if_neg c]
    congr 1
    simp only [List.mem_append, List.mem_filter, List.mem_singleton, bne_iff_ne, ne_eq, eq_iff_iff]
    constructor
    · exact fun q => .inl ⟨q, fun e => c e.symm⟩
    · rintro (q | q)
      · exact q.1
      · exact absurd q.symm c
theorem joined_sub {is : List Nat} {i : Nat} (hi : i < 16) (h : ∀ j ∈ is, j < 16) : ∀ j ∈ joined is i, j < 16 := by
  intro j hj
  unfold joined at hj
  simp only [List.mem_append, List.mem_filter, List.mem_singleton] at hj
  rcases hj with q | q
  · exact h j q.1
  · rw [q]; exact hi
theorem joined_nodup {is : List Nat} {i : Nat} (h : is.Nodup) : (joined is i).Nodup := by
  unfold joined
  rw [List.nodup_append]
  refine ⟨h.sublist List.filter_sublist, by simp, ?_⟩
  intro a ha b hb
  rw [List.mem_singleton] at hb
  have := (List.mem_filter.1 ha).2
  rw [hb]
  simpa using this
theorem joined_len {is : List Nat} {i : Nat} : (joined is i).length ≤ is.length + 1 := by
  unfold joined
  rw [List.length_append]
  have := List.length_filter_le (fun j => j != i) is
  simp only [List.length_singleton]; omega
theorem put_joined {is : List Nat} {i : Nat} (hi : i < 16) (h : ∀ j ∈ is, j < 16) (hl : is.length ≤ 6) : (putE (is.map entL) (entL i)).1 = (joined is i).map entL := by
  have hr : rest (is.map entL) (flowI i) = (is.filter fun j => j != i).map entL := by
    unfold rest
    rw [List.filter_map]
    congr 1
    refine List.filter_congr fun j hj => ?_
    show (!eqF (flowI j) (flowI i)) = _
    by_cases c : j = i
    · rw [c, eqF_rfl]; simp
    · rw [show eqF (flowI j) (flowI i) = false by rw [← Bool.not_eq_true, eqF_iff]; exact fun q => c (flowI_inj (h j hj) hi q)]
      simp [c]
  have hle := List.length_filter_le (fun j => j != i) is
  unfold putE
  rw [show (entL i).Flow = flowI i from rfl, hr, if_neg (by rw [List.length_map]; omega)]
  unfold joined
  rw [List.map_append]
  rfl
theorem countP_or (p q : Nat → Bool) : ∀ l : List Nat, (∀ x ∈ l, p x = true → q x = false) → l.countP (fun x => p x || q x) = l.countP p + l.countP q
  | [], _ => rfl
  | x :: l, h => by
    have ih := countP_or p q l fun y hy => h y (List.mem_cons_of_mem _ hy)
    have hx := h x List.mem_cons_self
    rw [List.countP_cons, List.countP_cons, List.countP_cons, ih]
    cases hp : p x with
    | true => rw [hx hp]; simp; omega
    | false => cases q x <;> simp <;> omega
theorem count_marks : ∀ is : List Nat, is.Nodup → (∀ j ∈ is, j < 16) → (List.range 16).countP (fun j => decide (j ∈ is)) = is.length
  | [], _, _ => by decide
  | a :: is, hn, h => by
    rw [List.nodup_cons] at hn
    have ih := count_marks is hn.2 fun j hj => h j (List.mem_cons_of_mem _ hj)
    have e : (fun j => decide (j ∈ a :: is)) = fun j => decide (j = a) || decide (j ∈ is) := by
      funext j
      rw [Bool.eq_iff_iff]
      simp
    rw [e, countP_or _ _ _ (fun x _ hx => by
      rw [decide_eq_true_eq] at hx
      rw [hx]
      exact decide_eq_false hn.1), ih, List.length_cons]
    have : ∀ a : Fin 16, (List.range 16).countP (fun j => decide (j = a.val)) = 1 := by decide
    rw [this ⟨a, h a List.mem_cons_self⟩]
    omega
def countT : List Bool → Nat
  | [] => 0
  | b :: l => (bif b then 1 else 0) + countT l
theorem countT_map (p : Nat → Bool) : ∀ l : List Nat, countT (l.map p) = l.countP p
  | [] => rfl
  | x :: l => by
    rw [List.map_cons, countT, countT_map p l, List.countP_cons]
    cases p x <;> simp <;> omega
theorem countT_marks {is : List Nat} (hn : is.Nodup) (h : ∀ j ∈ is, j < 16) : countT (marks is) = is.length := by
  unfold marks
  rw [countT_map]
  exact count_marks is hn h
theorem countT_le : ∀ l : List Bool, countT l ≤ l.length
  | [] => Nat.le_refl 0
  | b :: l => by have := countT_le l; rw [countT, List.length_cons]; cases b <;> simp <;> omega
theorem marks_len (is : List Nat) : (marks is).length = 16 := by unfold marks; simp
theorem countT_drop {b : List Bool} (hb : b.length = 16) {i : Nat} (hi : i < 16) : countT (b.drop i) = (bif b.getD i default then 1 else 0) + countT (b.drop (i + 1)) := by
  rw [List.drop_eq_getElem_cons (by omega), countT, getD_el (by omega)]
/-- The marks are counted. -/
theorem loads_4 (t1 b0 b1 : Int) (b2 : List GSite) (b3 : List GHealth) (b4 : List GSeen) (b5 : List GEntry) (b6 : Int) (b : List Bool) (hb : b.length = 16) : ∀ (d fuel i : Nat) (c : Nat), 16 = i + d → d + 1 ≤ fuel → c ≤ i →
    L_law20_SiteLoads_4 281474976710656 fuel t1 b0 b1 b2 b3 b4 b5 b6 b c i = L_law20_SiteLoads_4 281474976710656 1 t1 b0 b1 b2 b3 b4 b5 b6 b ((c + countT (b.drop i) : Nat) : Int) 16 := by
  intro d
  induction d with
  | zero =>
    intro fuel i c hi hf hc
    obtain ⟨fuel, rfl⟩ : ∃ f, fuel = f + 1 := ⟨fuel - 1, by omega⟩
    have : i = 16 := by omega
    subst this
    rw [List.drop_of_length_le (by omega)]
    rw [L_law20_SiteLoads_4, L_law20_SiteLoads_4]
    rfl
  | succ d ih =>
    intro fuel i c hi hf hc
    obtain ⟨fuel, rfl⟩ : ∃ f, fuel = f + 1 := ⟨fuel - 1, by omega⟩
    have hle := countT_le (b.drop (i + 1))
    rw [countT_drop hb (by omega)]
    conv => lhs; rw [L_law20_SiteLoads_4]
    unfold L_law20_SiteLoads_5
    refine stDT (by omega) (stIf (by omega) (stIf (by omega) ?_))
    rw [Int.toNat_natCast, w64 (n := (i : Int) + 1) (by omega) (by omega), w64 (n := (c : Int) + 1) (by omega) (by omega)]
    cases b.getD i default with
    | true => 
      have := ih fuel (i + 1) (c + 1) (by omega) (by omega) (by omega)
      rw [show ((c + 1 : Nat) : Int) = (c : Int) + 1 by omega, show ((i + 1 : Nat) : Int) = (i : Int) + 1 by omega] at this
      rw [cond_true, cond_true, this, show c + (1 + countT (b.drop (i + 1))) = c + 1 + countT (b.drop (i + 1)) by omega]
    | false =>
      have := ih fuel (i + 1) c (by omega) (by omega) (by omega)
      rw [show ((i + 1 : Nat) : Int) = (i : Int) + 1 by omega] at this
      rw [cond_false, cond_false, this, Nat.zero_add]
end Go.Proofs.YtmhlgpdoedbedaaGreat.Pu
