/- Structs put together; lengths; what is the least. -/
import Derived.Test.YtmhlgpdoedbedaaGreatSvG
namespace Go.Proofs.YtmhlgpdoedbedaaGreat.Sv
set_option linter.unusedVariables false
set_option linter.unusedSimpArgs false
open Go Go.RowKit
section
variable {P : Program} {ty : Ty} {n : Nat} {w0 : World} {S im0 bo im : Nat → Prop} {φ0 φ : Env} {s : St} {a : Act} {w : World}

inductive Par (im bo : Nat → Prop) (w : World) (φ : Env) : List (Nat × D) → List (Nat × Value) → Prop
  | nil : Par im bo w φ [] []
  | cons {i d v ps qs} : R im w bo φ d v → Par im bo w φ ps qs → Par im bo w φ ((i, d) :: ps) ((i, v) :: qs)
theorem cells_sim {d : D} {v : Value} (h : R im w bo φ d v) (hd : d.val = true) : Rs im w bo φ d.cells v.cells.toList ∧ Ones v.cells.toList := by
  cases h <;> first
    | exact absurd (show false = true from hd) Bool.false_ne_true
    | (rename_i h o; exact ⟨h, o⟩)
    | (rename_i o h; exact ⟨h, o⟩)
    | exact ⟨.cons (by constructor <;> assumption) .nil, fun v hv => by
        simp only [Value.cells, List.mem_singleton] at hv; subst hv; rfl⟩
theorem foldSet (off : Nat) : ∀ (vs : List Value) (k : Nat) (cells : Array Value), off + k + vs.length ≤ cells.size →
    ((vs.zipIdx k).foldl (fun cs p => cs.setIfInBounds (off + p.2) p.1) cells).toList = cells.toList.take (off + k) ++ vs ++ cells.toList.drop (off + k + vs.length)
  | [], k, cells, h => by simp
  | v :: vs, k, cells, h => by
    simp only [List.length_cons] at h
    have ih := foldSet off vs (k + 1) (cells.setIfInBounds (off + k) v) (by simp; omega)
    simp only [List.zipIdx_cons, List.foldl_cons, ih, Array.toList_setIfInBounds, List.length_cons]
    have e1 : (cells.toList.set (off + k) v).take (off + (k + 1)) = cells.toList.take (off + k) ++ [v] := by
      rw [show off + (k + 1) = (off + k) + 1 by omega, List.take_succ_eq_append_getElem (by simp; omega), List.take_set_of_le (Nat.le_refl _)]
      simp
    have e2 : (cells.toList.set (off + k) v).drop (off + (k + 1) + vs.length) = cells.toList.drop (off + k + (vs.length + 1)) := by
      rw [List.drop_set_of_lt (by omega)]
      congr 1
      omega
    rw [e1, e2]
    simp
theorem splice_sim {cs ds : List D} {vs us : List Value} (off : Nat) (h : Rs im w bo φ cs vs) (k : Rs im w bo φ ds us) : Rs im w bo φ (splice cs off ds) (vs.take off ++ us ++ vs.drop (off + us.length)) := by
  unfold splice
  rw [k.length]
  exact ((h.take off).append k).append (h.drop _)
theorem zipIdx_toList (xs : Array Value) : xs.zipIdx.toList = xs.toList.zipIdx := by simp
theorem fillD_sim {pl : Nat → Option (Nat × Nat)} : ∀ {ps : List (Nat × D)} {qs : List (Nat × Value)} {cs ds : List D} {vs : Array Value} {l : Log}, fillD pl cs ps s = some (ds, l) → l.ok → Rs im w bo φ cs vs.toList → Ones vs.toList →
    Par im bo w φ ps qs → ∃ us, Instr.fill pl vs qs = some us ∧ Rs im w bo φ ds us.toList ∧ Ones us.toList := by
  intro ps
  induction ps with
  | nil =>
    intro qs cs ds vs l h ho hc hon hp
    have h := pure_ok (s := s) h
    subst h
    cases hp
    exact ⟨vs, rfl, hc, hon⟩
  | cons p ps ih =>
    intro qs cs ds vs l h ho hc hon hp
    cases hp with
    | cons hv hp =>
    rename_i i d v qs
    obtain ⟨⟨off, size⟩, hpl, l1, h1, ho1⟩ := lift_bind h ho
    obtain ⟨ht, l2, h2, ho2⟩ := test_bind h1 ho1
    obtain ⟨hz, l3, h3, ho3⟩ := ask_bind h2 ho2
    obtain ⟨hcs, hone⟩ := cells_sim hv ht
    have hl : d.cells.length = v.cells.size := hcs.length.trans (by simp)
    have hl' : cs.length = vs.size := hc.length.trans (by simp)
    have hs1 : v.cells.size = size := by omega
    have hs2 : ¬ (off + v.cells.size > vs.size) := by omega
    obtain ⟨us, hu, hus⟩ := ih (vs := v.cells.zipIdx.foldl (fun cs p => cs.setIfInBounds (off + p.2) p.1) vs) h3 ho3 (by
      rw [← Array.foldl_toList, zipIdx_toList, foldSet off v.cells.toList 0 vs (by simp; omega)]
      have := splice_sim off hc hcs
      simpa using this) (by
      rw [← Array.foldl_toList, zipIdx_toList, foldSet off v.cells.toList 0 vs (by simp; omega)]
      have := ((hon.take off).append hone).append (hon.drop (off + v.cells.toList.length))
      simpa using this) hp
    refine ⟨us, ?_, hus⟩
    simp only [Instr.fill, hpl]
    rw [if_neg (by simp [hs1]; omega)]
    exact hu
theorem fillD_len {pl : Nat → Option (Nat × Nat)} : ∀ {ps : List (Nat × D)} {cs ds : List D} {l : Log}, fillD pl cs ps s = some (ds, l) → l.ok → ds.length = cs.length := by
  intro ps
  induction ps with
  | nil => intro cs ds l h ho; rw [pure_ok (s := s) h]
  | cons p ps ih =>
    intro cs ds l h ho
    obtain ⟨i, d⟩ := p
    obtain ⟨⟨off, size⟩, hpl, l1, h1, ho1⟩ := lift_bind h ho
    obtain ⟨ht, l2, h2, ho2⟩ := test_bind h1 ho1
    obtain ⟨hz, l3, h3, ho3⟩ := ask_bind h2 ho2
    rw [ih h3 ho3]
    simp only [splice, List.length_append, List.length_take, List.length_drop]
    omega
theorem evs_sim (hr : Rel n w0 S im0 bo φ0 im φ s a w) : ∀ {xs : List (Nat × Operand)} {ds : List (Nat × D)} {l : Log}, evs xs s = some (ds, l) →
    Par im bo w φ ds (xs.map fun x => (x.1, a.eval x.2)) := by
  intro xs
  induction xs with
  | nil => intro ds l h; obtain ⟨rfl, _⟩ := M.pure_eq h; exact .nil
  | cons x xs ih =>
    intro ds l h
    obtain ⟨d, l1, l2, h1, h2, _⟩ := M.bind_eq h
    obtain ⟨es, l3, l4, h3, h4, _⟩ := M.bind_eq h2
    obtain ⟨rfl, _⟩ := M.pure_eq h4
    exact .cons (ev_sim hr h1) (ih h3)
theorem evs_bind (hr : Rel n w0 S im0 bo φ0 im φ s a w) {xs : List (Nat × Operand)} {β : Type} {f : List (Nat × D) → M β} {b : β} {k : Log} (h : (evs xs >>= f) s = some (b, k)) (ho : k.ok) :
    ∃ ds, Par im bo w φ ds (xs.map fun x => (x.1, a.eval x.2)) ∧ ∃ l, f ds s = some (b, l) ∧ l.ok := by
  obtain ⟨d, l, l', h1, h2, h3, h4⟩ := M.bindO h ho
  exact ⟨d, evs_sim hr h1, l', h2, h4⟩
theorem TIOk.zero {t : Nat} {i : TI} (h : TIOk P t i) (hz : i.zero.isEmpty = false) : ∃ z, (zeroValue t).run P w = .ok z w ∧ Rs im w bo φ i.zero z.cells.toList ∧ i.zero.length = i.size ∧ Ones z.cells.toList := by
  obtain ⟨j, d, h1, h2, _, _, _, h4⟩ := h.info
  obtain ⟨z, h5, h6, h7, h8⟩ := h4 hz
  exact ⟨z, by simp [zeroValue, typeInfo, h1, h5], ofVs_R _ _ h6, h7, h8⟩
theorem placesOf_sim (ht : TyOk P ty) : ∀ {fs : List (Nat × Nat)} {ps : List (Nat × Nat)} {l : Log}, placesOf ty fs s = some (ps, l) → l.ok → ∀ gs : List Field, fs = gs.map (fun f => (f.offset, f.type)) →
    (gs.mapM (m := Sem) fun f => do pure (f.offset, ← sizeOf f.type)).run P w = .ok ps w := by
  intro fs
  induction fs with
  | nil =>
    intro ps l h ho gs hg
    have h := pure_ok (s := s) h
    subst h
    cases gs with
    | nil => simp
    | cons => simp at hg
  | cons p fs ih =>
    intro ps l h ho gs hg
    cases gs with
    | nil => simp at hg
    | cons g gs =>
    simp only [List.map_cons, List.cons.injEq] at hg
    obtain ⟨rfl, hg⟩ := hg
    obtain ⟨i, hi, l1, h1, ho1⟩ := at_bind ht h ho
    obtain ⟨qs, l2, l3, h2, h3, ho2, ho3⟩ := M.bindO h1 ho1
    have h := pure_ok (s := s) h3
    subst h
    have := ih h2 ho2 gs hg
    simp only [bind_pure_comp] at this ⊢
    simp [List.mapM_cons, hi.sizeOf, this]
theorem lenD_sim (ht : TyOk P ty) {t : Nat} {x d : D} {v : Value} {l : Log} {ts : Array TypeId} {vs : Array Value} {rt : TypeId} (h : lenD ty t x s = some (d, l)) (ho : l.ok) (hx : R im w bo φ x v) (h0 : ts[0]? = some t) (h1 : vs[0]? = some v) :
    ∃ r, (Builtin.len_ ts rt vs).run P w = .ok r w ∧ R im w bo φ d r := by
  unfold lenD at h
  obtain ⟨i, hi, l1, h2, ho1⟩ := at_bind ht h ho
  cases hk : i.kind with
  | string =>
    rw [hk] at h2
    have hu := hi.string hk
    cases x <;> first
      | exact (M.fail_eq (s := s) h2).elim
      | skip
    have h := pure_ok (s := s) h2
    subst h
    cases hx
    exact ⟨_, by simp [Builtin.len_, h0, h1, run_underlying hu, goInt], .int _ _⟩
  | array m e =>
    rw [hk] at h2
    have hu := hi.array hk
    have h := pure_ok (s := s) h2
    subst h
    exact ⟨.int .i64 m, by simp [Builtin.len_, h0, h1, run_underlying hu, goInt], .int _ _⟩
  | slice e =>
    rw [hk] at h2
    have hu := hi.slice hk
    cases x <;> first
      | exact (M.fail_eq (s := s) h2).elim
      | skip
    all_goals
      have h := pure_ok (s := s) h2
      subst h
      cases hx <;> exact ⟨_, by simp [Builtin.len_, h0, h1, run_underlying hu, goInt], .int _ _⟩
  | _ => rw [hk] at h2; cases x <;> exact (M.fail_eq (s := s) h2).elim
theorem minD_sim {lt : Int → Int → Bool} {m2 : Value → Value → Sem Value} (hm : ∀ k x k' y, m2 (.int k x) (.int k' y) = pure (.int k (if lt y x then y else x))) : ∀ {ds : List D} {x d : D} {v : Value} {vs : List Value} {l : Log}, minD lt x ds s = some (d, l) →
    R im w bo φ x v → Rs im w bo φ ds vs → (ds = [] → True) → ∃ r, (vs.foldlM m2 v).run P w = .ok r w ∧ R im w bo φ d r := by
  intro ds
  induction ds with
  | nil =>
    intro x d v vs l h hx hs _
    cases hs
    have h : x = d := by cases x <;> exact pure_ok (s := s) h
    subst h
    exact ⟨v, by simp, hx⟩
  | cons y ds ih =>
    intro x d v vs l h hx hs _
    cases hs with
    | cons hy hs =>
    cases x <;> cases y <;> first
      | exact (M.fail_eq (s := s) h).elim
      | skip
    cases hx; cases hy
    obtain ⟨r, h1, h2⟩ := ih h (.int _ _) hs (fun _ => trivial)
    exact ⟨r, by simp [List.foldlM_cons, hm, h1], h2⟩
end
end Go.Proofs.YtmhlgpdoedbedaaGreat.Sv
