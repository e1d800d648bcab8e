/- A row's slice of structs of two numbers, as a value. -/
import Derived.Test.YthhlflmjikdgcaaSvWc
import Derived.Deep.SlicePairs
import Derived.SizedLaws
namespace Go.Proofs.Ythhlflmjikdgcaa.Sv
set_option linter.unusedVariables false
set_option linter.unusedSimpArgs false
open Go Go.RowKit Go.ChangeShapes Go.WideShapes Go.Deep
/-- The values, one by one. -/
def V2 : Nat → (Nat → Int) → (Nat → Int) → List Value
  | 0, _, _ => []
  | n + 1, f, g => .int .i64 (f 0) :: .int .i64 (g 0) :: V2 n (fun i => f (i + 1)) (fun i => g (i + 1))
def X2 {α : Type} (mk : Int → Int → α) : Nat → (Nat → Int) → (Nat → Int) → List α
  | 0, _, _ => []
  | n + 1, f, g => mk (f 0) (g 0) :: X2 mk n (fun i => f (i + 1)) (fun i => g (i + 1))
theorem X2_len {α : Type} (mk : Int → Int → α) : ∀ (n : Nat) (f g : Nat → Int), (X2 mk n f g).length = n
  | 0, _, _ => rfl
  | n + 1, f, g => by simp [X2, X2_len mk n]
theorem V2_ones : ∀ (n : Nat) (f g : Nat → Int), Ones (V2 n f g)
  | 0, _, _ => .nil
  | n + 1, f, g => by
    intro v hv
    simp only [V2, List.mem_cons] at hv
    rcases hv with rfl | rfl | hv
    · rfl
    · rfl
    · exact V2_ones n _ _ v hv
theorem V2_rs {α : Type} {e : α → List D} {mk : Int → Int → α} (he : ∀ x y, e (mk x y) = [.int .i64 x, .int .i64 y]) {im bo : Nat → Prop} {w : World} {φ : Env} : ∀ (n : Nat) (f g : Nat → Int), Rs im w bo φ (eL e (X2 mk n f g)) (V2 n f g)
  | 0, _, _ => .nil
  | n + 1, f, g => by
    simp only [X2, V2, eL, he, List.cons_append, List.nil_append]
    exact .cons (.int _ _) (.cons (.int _ _) (V2_rs he n _ _))
theorem V2_cells (l : List Value) : ∀ (n o : Nat) (f g : Nat → Int), (∀ i, i < n → l[o + i * 2]? = some (.int .i64 (f i)) ∧ l[o + i * 2 + 1]? = some (.int .i64 (g i))) → (l.drop o).take (n * 2) = V2 n f g
  | 0, o, f, g, h => by simp [V2]
  | n + 1, o, f, g, h => by
    obtain ⟨h0, h1⟩ := h 0 (by omega)
    simp only [Nat.zero_mul, Nat.add_zero] at h0 h1
    have ih := V2_cells l n (o + 2) (fun i => f (i + 1)) (fun i => g (i + 1)) (fun i hi => by
      have := h (i + 1) (by omega)
      rw [show o + (i + 1) * 2 = o + 2 + i * 2 by omega] at this
      exact this)
    obtain ⟨k0, e0⟩ := List.getElem?_eq_some_iff.1 h0
    obtain ⟨k1, e1⟩ := List.getElem?_eq_some_iff.1 h1
    rw [List.drop_eq_getElem_cons k0, List.drop_eq_getElem_cons k1, e0, e1, show (n + 1) * 2 = n * 2 + 1 + 1 by omega, List.take_succ_cons, List.take_succ_cons, ih]
    rfl
theorem R_row2 {α : Type} {e : α → List D} {mk : Int → Int → α} (he : ∀ x y, e (mk x y) = [.int .i64 x, .int .i64 y]) (hz : ∀ x, (e x).length = 2) {w : World} {a : Addr} {len cap : Nat} (hl : len ≤ cap) (f g : Nat → Int)
    (h : ∀ i, i < len → w.cell? (a.add (i * 2)) = some (.int .i64 (f i)) ∧ w.cell? (a.add (i * 2 + 1)) = some (.int .i64 (g i))) :
    R (fun b => b < w.heap.size) w noB noEnv (.sl true (eL e (X2 mk len f g)) (X2 mk len f g).length (X2 mk len f g).length) (.slice (some a) len cap) := by
  rw [X2_len]
  cases len with
  | zero => exact .sl0 _ _
  | succ n =>
    obtain ⟨B, o, sp⟩ := a
    have h0 := (h 0 (by omega)).1
    rw [Nat.zero_mul] at h0
    have e0 : (⟨B, o, sp⟩ : Addr).add 0 = ⟨B, o, sp⟩ := rfl
    rw [e0] at h0
    unfold World.cell? at h0
    simp only at h0
    cases hb : w.heap[B]? with
    | none => rw [hb] at h0; simp at h0
    | some blk =>
    rw [hb] at h0
    cases blk with
    | cells c el fz =>
      cases sp with
      | some x => simp at h0
      | none =>
        have hlt : B < w.heap.size := by
          rcases Nat.lt_or_ge B w.heap.size with hh | hh
          · exact hh
          · rw [Array.getElem?_eq_none hh] at hb; simp at hb
        have hc : ∀ k v, w.cell? ((⟨B, o, none⟩ : Addr).add k) = some v → c.toList[o + k]? = some v := by
          intro k v hk
          have ea : (⟨B, o, none⟩ : Addr).add k = ⟨B, o + k, none⟩ := by
            unfold Addr.add
            split
            · rename_i q; subst q; rfl
            · rfl
          rw [ea] at hk
          unfold World.cell? at hk
          simp only [hb] at hk
          simpa using hk
        have hlen : (eL e (X2 mk (n + 1) f g)).length = (n + 1) * 2 := by rw [eL_len hz, X2_len]
        have hv : (c.toList.drop o).take (eL e (X2 mk (n + 1) f g)).length = V2 (n + 1) f g := by
          rw [hlen]
          refine V2_cells c.toList (n + 1) o f g (fun i hi => ?_)
          obtain ⟨q1, q2⟩ := h i hi
          refine ⟨hc _ _ q1, ?_⟩
          rw [Nat.add_assoc]
          exact hc _ _ q2
        exact .sl (B := B) (o := o) (.inl hlt) hl hb hv (V2_ones _ _ _) (V2_rs he _ _ _)
    | _ => simp at h0
section
variable {H : Type} {enc : TypeId × Value → H} {P : Program} {w : World} {base : Nat} {spare : Nat → Bool} {held : Bool}
/-- An argument that is a slice of structs of two numbers: what it holds. -/
theorem open_row2 {α : Type} {e : α → List D} {mk : Int → Int → α} (he : ∀ x y, e (mk x y) = [.int .i64 x, .int .i64 y]) (hz : ∀ x, (e x).length = 2) {t s : TypeId} {f0 f1 : Field} {fuel : Nat} {v : Value} {d : DataW H} {p : List MemPlace}
    (ht : P.underlying t = some (.slice s)) (hs : P.underlying s = some (.struct #[f0, f1])) (cs : P.cellsOf s = 2) (o0 : f0.offset = 0) (o1 : f1.offset = 1) (c0 : P.cellsOf f0.type = 1) (c1 : P.cellsOf f1.type = 1)
    (u0 : P.underlying f0.type = some (.int .i64)) (u1 : P.underlying f1.type = some (.int .i64)) (h : DataW.trod enc P w base spare held fuel t [v] = some (d, p)) {B : Nat} (hB : P.bytesOf s = B)
    {ts : List TypeId} {ds : List (DataW H)} {j : Nat} (hsz : (DataW.weightsEach P ts ds).all (· ≤ reachBytes) = true) (hj : ts[j]? = some t) (hd : ds[j]? = some d) :
    ∃ xs : List α, xs.length * B ≤ 140737488355328 ∧ R (fun b => b < w.heap.size) w noB noEnv (.sl true (eL e xs) xs.length xs.length) v := by
  rcases open_slice_pairs ht hs cs o0 o1 c0 c1 h with ⟨hv, hx⟩ | ⟨a, len, cap, m, n, V0, V1, D0, D1, P0, P1, hv, _, hl, _, hm, hx, hc⟩
  · simp only [List.cons.injEq, and_true] at hv
    subst hv
    exact ⟨[], by simp, .sl0 _ _⟩
  · simp only [List.cons.injEq, and_true] at hv
    subst hv
    have hlm : len ≤ m := by rw [hm]; split <;> omega
    have z0 : ∀ i, ∃ z, i < len → V0 i = .int .i64 z := by
      intro i
      by_cases hi : i < len
      · obtain ⟨z, hz, _⟩ := DataW.trod_int u0 (hc i (by omega)).2.2.1
        simp only [List.cons.injEq, and_true] at hz
        exact ⟨z, fun _ => hz⟩
      · exact ⟨0, fun h => absurd h hi⟩
    have z1 : ∀ i, ∃ z, i < len → V1 i = .int .i64 z := by
      intro i
      by_cases hi : i < len
      · obtain ⟨z, hz, _⟩ := DataW.trod_int u1 (hc i (by omega)).2.2.2
        simp only [List.cons.injEq, and_true] at hz
        exact ⟨z, fun _ => hz⟩
      · exact ⟨0, fun h => absurd h hi⟩
    refine ⟨X2 mk len (fun i => Classical.choose (z0 i)) (fun i => Classical.choose (z1 i)), ?_, R_row2 he hz hl _ _ ?_⟩
    · rw [X2_len]
      simp only [Prod.mk.injEq] at hx
      rw [hx.1] at hd
      have z := sized_slice hsz hj hd ht
      rw [hB] at z
      simp only [List.length_map, List.length_range] at z
      have : reachBytes < 2 ^ 47 := reachBytes_lt
      exact Nat.le_trans (Nat.mul_le_mul_right _ (by omega)) (Nat.le_trans z (by omega))
    · intro i hi
      obtain ⟨q0, q1, _⟩ := hc i (by omega)
      exact ⟨q0.trans (congrArg some (Classical.choose_spec (z0 i) hi)), q1.trans (congrArg some (Classical.choose_spec (z1 i) hi))⟩
end
end Go.Proofs.Ythhlflmjikdgcaa.Sv
