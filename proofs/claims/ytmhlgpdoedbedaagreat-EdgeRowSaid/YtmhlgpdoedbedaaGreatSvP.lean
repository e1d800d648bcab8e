/- A call, against what its function is said to do. -/
import Derived.Test.YtmhlgpdoedbedaaGreatSvO
namespace Go.Proofs.YtmhlgpdoedbedaaGreat.Sv
set_option linter.unusedVariables false
set_option linter.unusedSimpArgs false
open Go Go.RowKit
mutual
/-- Under other names. -/
theorem R.map {im bo : Nat → Prop} {w : World} {φ φ' : Env} {ρ : Nat → Nat} (hp : ∀ b p, φ b = some p → φ' (ρ b) = some p) : ∀ {d : D} {v : Value}, R im w bo φ d v → R im w bo φ' (d.map ρ) v
  | _, _, .undef v => .undef v
  | _, _, .bool b => .bool b
  | _, _, .int k n => .int k n
  | _, _, .str s => .str s
  | _, _, .agg o h => .agg o (Rs.map hp h)
  | _, _, .tup h => .tup (Rs.map hp h)
  | _, _, .nilp => .nilp
  | _, _, .ptr h => .ptr (hp _ _ h)
  | _, _, .ip h1 h2 h3 o h4 => .ip h1 h2 h3 o h4
  | _, _, .nils => .nils
  | _, _, .z0 a => .z0 a
  | _, _, .e0 a c => .e0 a c
  | _, _, .sl0 a c h => .sl0 a c h
  | _, _, .sl h1 h2 h3 h4 o h5 => .sl h1 h2 h3 h4 o h5
  | _, _, .ref0 a h => .ref0 a (hp _ _ h)
  | _, _, .refz a h => .refz a (hp _ _ h)
  | _, _, .ref h1 h2 h3 => .ref (hp _ _ h1) h2 h3
  | _, _, .fn h => .fn (Rs.map hp h)
  | _, _, .nilf => .nilf
theorem Rs.map {im bo : Nat → Prop} {w : World} {φ φ' : Env} {ρ : Nat → Nat} (hp : ∀ b p, φ b = some p → φ' (ρ b) = some p) : ∀ {ds : List D} {vs : List Value}, Rs im w bo φ ds vs → Rs im w bo φ' (mapL ρ ds) vs
  | _, _, .nil => .nil
  | _, _, .cons h t => .cons (R.map hp h) (Rs.map hp t)
end
mutual
/-- What holds nothing that is lent. -/
theorem R.unlend {im bo bo' : Nat → Prop} {w : World} {φ : Env} : ∀ {d : D} {v : Value}, R im w bo φ d v → d.kept = true → R im w bo' φ d v
  | _, _, .undef v, _ => .undef v
  | _, _, .bool b, _ => .bool b
  | _, _, .int k n, _ => .int k n
  | _, _, .str s, _ => .str s
  | _, _, .agg o h, k => .agg o (Rs.unlend h k)
  | _, _, .tup h, k => .tup (Rs.unlend h k)
  | _, _, .nilp, _ => .nilp
  | _, _, .ptr h, _ => .ptr h
  | _, _, .ip (g := true) h1 h2 h3 o h4, _ => .ip (.inl (h1.elim id fun h => Bool.noConfusion h.1)) h2 h3 o h4
  | _, _, .ip (g := false) h1 h2 h3 o h4, k => Bool.noConfusion (show false = true from k)
  | _, _, .nils, _ => .nils
  | _, _, .z0 a, _ => .z0 a
  | _, _, .e0 a c, _ => .e0 a c
  | _, _, .sl0 a c h, _ => .sl0 a c h
  | _, _, .sl (g := true) h1 h2 h3 h4 o h5, _ => .sl (.inl (h1.elim id fun h => Bool.noConfusion h.1)) h2 h3 h4 o h5
  | _, _, .sl (g := false) h1 h2 h3 h4 o h5, k => Bool.noConfusion (show false = true from k)
  | _, _, .ref0 a h, _ => .ref0 a h
  | _, _, .refz a h, _ => .refz a h
  | _, _, .ref h1 h2 h3, _ => .ref h1 h2 h3
  | _, _, .fn h, k => .fn (Rs.unlend h k)
  | _, _, .nilf, _ => .nilf
theorem Rs.unlend {im bo bo' : Nat → Prop} {w : World} {φ : Env} : ∀ {ds : List D} {vs : List Value}, Rs im w bo φ ds vs → kepts ds = true → Rs im w bo' φ ds vs
  | _, _, .nil, _ => .nil
  | _, _, .cons h t, k => .cons (R.unlend h ((Bool.and_eq_true _ _).mp k).1) (Rs.unlend t ((Bool.and_eq_true _ _).mp k).2)
end
theorem look_map {α β : Type} (f : Nat → Nat) (g : α → β) : ∀ {l : List (Nat × α)}, nodupB (l.map fun p => f p.1) = true → ∀ k x, look l k = some x → look (l.map fun p => (f p.1, g p.2)) (f k) = some (g x)
  | [], _, k, x, h => by simp [look] at h
  | (j, y) :: l, hn, k, x, h => by
    simp only [List.map_cons, nodupB, Bool.and_eq_true] at hn
    rw [List.map_cons, look_cons]
    rw [look_cons] at h
    split at h
    · rename_i e; subst e
      simp only [Option.some.injEq] at h
      rw [if_pos rfl, h]
    · rename_i e
      have hk : k ∈ l.map (·.1) := by
        clear hn
        induction l with
        | nil => simp [look] at h
        | cons p l ih =>
          obtain ⟨i, z⟩ := p
          rw [look_cons] at h
          split at h
          · rename_i e2; simp [e2]
          · simp only [List.map_cons, List.mem_cons]; exact .inr (ih h)
      have hne : f j ≠ f k := by
        intro e2
        have := idx_none hn.1
        rw [e2] at this
        obtain ⟨p, hp, rfl⟩ := List.mem_map.1 hk
        exact this (List.mem_map.2 ⟨p, hp, rfl⟩)
      rw [if_neg hne]
      exact look_map f g hn.2 k x h
theorem look_map_some {α β : Type} (f : Nat → Nat) (g : α → β) : ∀ {l : List (Nat × α)}, nodupB (l.map fun p => f p.1) = true → ∀ m y, look (l.map fun p => (f p.1, g p.2)) m = some y → ∃ k x, look l k = some x ∧ m = f k ∧ y = g x
  | [], _, m, y, h => by simp [look] at h
  | (j, z) :: l, hn, m, y, h => by
    rw [List.map_cons, look_cons] at h
    split at h
    · rename_i e; subst e
      simp only [Option.some.injEq] at h
      exact ⟨j, z, by rw [look_cons, if_pos rfl], rfl, h.symm⟩
    · rename_i e
      have hn' := hn
      simp only [List.map_cons, nodupB, Bool.and_eq_true] at hn
      obtain ⟨k, x, h1, rfl, rfl⟩ := look_map_some f g hn.2 m y h
      refine ⟨k, x, ?_, rfl, rfl⟩
      rw [look_cons, if_neg (fun e2 => e (by rw [e2]))]
      exact h1
theorem mem_look {α : Type} {l : List (Nat × α)} {k : Nat} {x : α} (h : (k, x) ∈ l) : ∃ y, look l k = some y := by
  induction l with
  | nil => simp at h
  | cons p l ih =>
    obtain ⟨j, y⟩ := p
    rw [look_cons]
    split
    · exact ⟨y, rfl⟩
    · rename_i e
      rcases List.mem_cons.1 h with h | h
      · simp only [Prod.mk.injEq] at h; exact absurd h.1.symm e
      · exact ih h
theorem look_mem {α : Type} {l : List (Nat × α)} {k : Nat} {x : α} (h : look l k = some x) : (k, x) ∈ l := by
  induction l with
  | nil => simp [look] at h
  | cons p l ih =>
    obtain ⟨j, y⟩ := p
    rw [look_cons] at h
    split at h
    · rename_i e; subst e; simp only [Option.some.injEq] at h; simp [h]
    · exact List.mem_cons_of_mem _ (ih h)
section
variable {P : Program} {ty : Ty} {n : Nat} {w0 : World} {S im0 bo im : Nat → Prop} {φ0 φ : Env} {s : St} {a : Act} {w : World}
set_option maxRecDepth 20000 in
theorem freshD_eq {ρ : List Nat} {base : Nat} {q : Bool} : ∀ {H : List (Nat × Option Blk)} {u : Unit} {l : Log}, freshD ρ base q H s = some (u, l) → l.ok → ∀ k x, (k, x) ∈ H → (1000 ≤ k ∧ k < 1008 ∧ q = true ∧ s.slot (base + (k - 1000)) = none) ∨ (k < 1000 ∧ k < ρ.length)
  | [], _, _, _, _, k, x, hk => by simp at hk
  | (j, y) :: H, u, l, h, ho, k, x, hk => by
    unfold freshD at h
    obtain ⟨h1, l1, h2, ho1⟩ := test_bind h ho
    cases hj : Nat.ble 1000 j with
    | true =>
      simp only [hj, cond_true, Bool.and_eq_true, Nat.ble_eq] at h1 h2
      obtain ⟨l2, h3, ho2⟩ := getH_bind h2 ho1
      cases hs : s.slot (base + (j - 1000)) with
      | some z => rw [hs] at h3; exact (M.fail_eq (s := s) h3).elim
      | none =>
        rw [hs] at h3
        rcases List.mem_cons.1 hk with e | hk
        · simp only [Prod.mk.injEq] at e
          obtain ⟨rfl, rfl⟩ := e
          exact .inl ⟨Nat.le_of_ble_eq_true hj, by omega, h1.2, hs⟩
        · exact freshD_eq h3 ho2 k x hk
    | false =>
      simp only [hj, cond_false, Nat.ble_eq] at h1 h2
      obtain ⟨l2, h3, ho2⟩ := pure_bind h2 ho1
      rcases List.mem_cons.1 hk with e | hk
      · simp only [Prod.mk.injEq] at e
        obtain ⟨rfl, rfl⟩ := e
        have : ¬ (1000 ≤ k) := fun h => by rw [Nat.ble_eq_true_of_le h] at hj; simp at hj
        exact .inr ⟨by omega, by omega⟩
      · exact freshD_eq h3 ho2 k x hk
end
end Go.Proofs.YtmhlgpdoedbedaaGreat.Sv
