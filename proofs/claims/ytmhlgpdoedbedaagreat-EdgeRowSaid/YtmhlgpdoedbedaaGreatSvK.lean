/- Each operation, but calls, against the model. -/
import Derived.Test.YtmhlgpdoedbedaaGreatSvJ
import Derived.Laws.OwnMore
import Derived.Laws.IdiomStrings
namespace Go.Proofs.YtmhlgpdoedbedaaGreat.Sv
set_option linter.unusedVariables false
set_option linter.unusedSimpArgs false
open Go Go.RowKit
section
variable {P : Program} {ty : Ty} {n : Nat} {w0 : World} {S im0 bo im : Nat → Prop} {φ0 φ : Env} {s : St} {a : Act} {w : World}

/-- What an operation comes to, against its effect. -/
def EffOk (n : Nat) (w0 : World) (S im0 bo : Nat → Prop) (φ0 : Env) (s : St) (a : Act) (e : Eff) (r : Result Next) : Prop :=
  ∃ v w', (r = .ok (.value v) w' ∨ (r = .ok .skip w' ∧ v = Go.undef)) ∧ ∃ im' φ', Rel n w0 S im0 bo φ0 im' φ' (s.setH e.sets) a w' ∧ R im' w' bo φ' e.val v
theorem eff_quiet (hr : Rel n w0 S im0 bo φ0 im φ s a w) {f : Sem Value} {d : D} {e : Eff} {l : Log} {v : Value} (h : eff d s = some (e, l)) (hf : f.run P w = .ok v w) (hv : R im w bo φ d v) :
    EffOk n w0 S im0 bo φ0 s a e ((do pure (.value (← f)) : Sem Next).run P w) := by
  have h := pure_ok (s := s) h
  subst h
  exact ⟨v, w, .inl (by simp [hf]), im, φ, hr, hv⟩
theorem newAt_eq {o : Oper} {b : Blk} {f : Nat → D} {e : Eff} {l : Log} (h : newAt o b f s = some (e, l)) (ho : l.ok) : ∃ m, s.slot m = none ∧ e = { val := f m, sets := [(m, some b)] } := by
  unfold newAt at h
  obtain ⟨m, l1, l2, h1, h2, ho1, ho2⟩ := M.bindO h ho
  obtain ⟨l3, h3, ho3⟩ := getH_bind h2 ho2
  cases hs : s.slot m with
  | none => rw [hs] at h3; exact ⟨m, hs, (pure_ok (s := s) h3).symm⟩
  | some x => rw [hs] at h3; exact (M.fail_eq (s := s) h3).elim
/-- A new block whose cells are known. -/
theorem eff_new (hr : Rel n w0 S im0 bo φ0 im φ s a w) {o : Oper} {b : Blk} {g : Nat → D} {e : Eff} {l : Log} (h : newAt o b g s = some (e, l)) (ho : l.ok) {c : Array Value} {el : TypeId} {fz : Nat × Nat} (hc : Rs im w (if b.pure then noB else bo) (if b.pure then noEnv else φ) b.cs (c.toList.take b.cs.length))
    (hon : Ones (c.toList.take b.cs.length)) (hl : b.cs.length ≤ c.size) (hf : fz.2 ≤ fz.1 ∨ c.size ≤ fz.1) {f : Sem Value} {v : Value} {wb : World} (hrun : f.run P wb = .ok v (w.alloc (.cells c el fz))) (hv : ∀ m, (R im (w.alloc (.cells c el fz)) bo (φ.upd m (.at_ w.heap.size 0 b.sz c.size)) (g m) v)) :
    EffOk n w0 S im0 bo φ0 s a e ((do pure (.value (← f)) : Sem Next).run P wb) := by
  obtain ⟨m, hm, rfl⟩ := newAt_eq h ho
  exact ⟨v, _, .inl (by simp [hrun]), im, _, hr.new hm hl hf hon hc, hv m⟩
theorem alloc_sim (ht : TyOk P ty) (hr : Rel n w0 S im0 bo φ0 im φ s a w) {o : Oper} {t : Nat} {e : Eff} {l : Log} (h : (do let i ← ty.at t; test (!i.zero.isEmpty); newAt o { pure := allocPure i, sz := 0, cs := i.zero } fun b => .ptr b 0 : M Eff) s = some (e, l)) (ho : l.ok) :
    EffOk n w0 S im0 bo φ0 s a e ((do pure (.value (← Instr.alloc t true (.tuple #[]))) : Sem Next).run P w) := by
  obtain ⟨i, hi, l1, h1, ho1⟩ := at_bind ht h ho
  obtain ⟨hz, l2, h2, ho2⟩ := test_bind h1 ho1
  obtain ⟨z, hz1, hz2, hz3, hz4⟩ := hi.zero (P := P) (w := w) (im := im) (bo := bo) (φ := φ) (by simpa using hz)
  have hl : i.zero.length = z.cells.size := hz2.length.trans (by simp)
  refine eff_new hr h2 ho2 (c := z.cells) (el := t) (fz := (0, 0)) ?_ (hz4.take _) (by simp [hl]) (.inl (by simp)) (v := .pointer (some ⟨w.heap.size, 0, none⟩)) ?_ ?_
  · have e : z.cells.toList.take i.zero.length = z.cells.toList := List.take_of_length_le (by simp [hl])
    simp only [e]
    exact hz2.pureOr (by
      unfold allocPure
      split
      · cases frees i.zero <;> rfl
      · rfl)
  · simp [Instr.alloc, hz1, newVar, newRow]
  · intro m
    exact .ptr (b := m) (off := 0) (base := 0) (Env.upd_same _ _ _)
theorem box_sim (hr : Rel n w0 S im0 bo φ0 im φ s a w) {o : Oper} {t : Nat} {d : D} {v : Value} {e : Eff} {l : Log} (h : newAt o { pure := false, sz := 0, cs := d.cells } (fun b => .ptr b 0) s = some (e, l)) (ho : l.ok) (hd : d.val = true) (hv : R im w bo φ d v) :
    EffOk n w0 S im0 bo φ0 s a e ((do pure (.value (← Instr.box t v)) : Sem Next).run P w) := by
  obtain ⟨hc, hon⟩ := cells_sim hv hd
  have hl : d.cells.length = v.cells.size := hc.length.trans (by simp)
  refine eff_new hr h ho (c := v.cells) (el := t) (fz := (0, 0)) ?_ (hon.take _) (by simp [hl]) (.inl (by simp)) (v := .pointer (some ⟨w.heap.size, 0, none⟩)) ?_ ?_
  · have e : v.cells.toList.take d.cells.length = v.cells.toList := List.take_of_length_le (by simp [hl])
    simpa [e] using hc
  · simp [Instr.box, newVar, newRow]
  · intro m
    exact .ptr (b := m) (off := 0) (base := 0) (Env.upd_same _ _ _)
theorem repD_len (z : List D) (k : Nat) : (repD z k).length = k * z.length := by
  induction k with
  | zero => simp [repD]
  | succ k ih => simp [repD, ih, Nat.succ_mul, Nat.add_comm]
def repV (z : List Value) : Nat → List Value
  | 0 => []
  | k + 1 => z ++ repV z k
theorem rep_sim {ds : List D} {vs : List Value} (h : Rs im w bo φ ds vs) (k : Nat) : Rs im w bo φ (repD ds k) (repV vs k) := by
  induction k with
  | zero => exact .nil
  | succ k ih => exact h.append ih
theorem rep_ones {vs : List Value} (h : Ones vs) (k : Nat) : Ones (repV vs k) := by
  induction k with
  | zero => exact Ones.nil
  | succ k ih => exact h.append ih
theorem repV_len (z : List Value) (k : Nat) : (repV z k).length = k * z.length := by
  induction k with
  | zero => simp [repV]
  | succ k ih => simp [repV, ih, Nat.succ_mul, Nat.add_comm]
theorem repV_get (z : List Value) (hz : 0 < z.length) : ∀ (k i : Nat), i < k * z.length → (repV z k)[i]? = z[i % z.length]? := by
  intro k
  induction k with
  | zero => intro i h; simp at h
  | succ k ih =>
    intro i h
    simp only [repV]
    rcases Nat.lt_or_ge i z.length with h' | h'
    · rw [List.getElem?_append_left h', Nat.mod_eq_of_lt h']
    · rw [List.getElem?_append_right h', ih _ (by rw [Nat.succ_mul] at h; omega), ← Nat.mod_eq_sub_mod h']
theorem range_cells (z : Array Value) (k : Nat) : ((Array.range (k * z.size)).map (z[· % z.size]!)).toList = repV z.toList k := by
  apply List.ext_getElem?
  intro i
  by_cases h : i < k * z.size
  · have hz : 0 < z.size := by
      rcases Nat.eq_zero_or_pos z.size with e | e
      · rw [e] at h; simp at h
      · exact e
    rw [repV_get _ (by simpa using hz) _ _ (by simpa using h)]
    have hm : i % z.size < z.size := Nat.mod_lt _ hz
    simp [h, getElem!_pos z (i % z.size) hm, Array.getElem?_eq_getElem hm]
  · rw [List.getElem?_eq_none (by simp; omega), List.getElem?_eq_none (by rw [repV_len]; simp; omega)]
theorem build_sim (ht : TyOk P ty) {t : Nat} {ps : List (Nat × D)} {qs : Array (Nat × Value)} {d : D} {l : Log} (h : buildD ty t ps s = some (d, l)) (ho : l.ok) (hp : Par im bo w φ ps qs.toList) :
    ∃ v, (Instr.build t qs).run P w = .ok v w ∧ R im w bo φ d v := by
  unfold buildD at h
  obtain ⟨i, hi, l0, h0, ho0⟩ := at_bind ht h ho
  obtain ⟨hz, l1, h1, ho1⟩ := test_bind h0 ho0
  obtain ⟨z, hz1, hz2, hz3, hz4⟩ := hi.zero (P := P) (w := w) (im := im) (bo := bo) (φ := φ) (by simpa using hz)
  cases hk : i.kind with
  | struct fs =>
    rw [hk] at h1
    obtain ⟨gs, hu, hfs⟩ := hi.fields hk
    obtain ⟨pl, l2, l3, h2, h3, ho2, ho3⟩ := M.bindO h1 ho1
    obtain ⟨cs, l4, l5, h4, h5, ho4, ho5⟩ := M.bindO h3 ho3
    have h := pure_ok (s := s) h5
    subst h
    have hpl := placesOf_sim (P := P) (w := w) ht h2 ho2 gs.toList hfs
    obtain ⟨us, hu1, hu2, hu3⟩ := fillD_sim (pl := fun k => pl[k]?) h4 ho4 hz2 hz4 hp
    refine ⟨.agg us, ?_, ?_⟩
    · have e : (gs.mapM (m := Sem) fun f => do pure (f.offset, ← sizeOf f.type)).run P w = .ok pl.toArray w := by
        rw [Array.mapM_eq_mapM_toList]
        simp only [bind_pure_comp] at hpl ⊢
        simp [hpl]
      have e2 : (fun k : Nat => pl.toArray[k]?) = fun k : Nat => pl[k]? := by funext k; simp
      simp only [Instr.build, Sem.run_bind, hz1, Result.andThen_ok, run_underlying hu, e, e2, hu1, Sem.run_pure]
    · have := R.agg hu3 hu2
      simpa using this
  | array m e =>
    rw [hk] at h1
    have hu := hi.array hk
    obtain ⟨j, hj, l2, h2, ho2⟩ := at_bind ht h1 ho1
    obtain ⟨cs, l4, l5, h4, h5, ho4, ho5⟩ := M.bindO h2 ho2
    have h := pure_ok (s := s) h5
    subst h
    obtain ⟨us, hu1, hu2, hu3⟩ := fillD_sim (pl := fun k => some (k * j.size, j.size)) h4 ho4 hz2 hz4 hp
    refine ⟨.agg us, ?_, ?_⟩
    · simp only [Instr.build, Sem.run_bind, hz1, Result.andThen_ok, run_underlying hu, hj.sizeOf, hu1, Sem.run_pure]
    · have := R.agg hu3 hu2
      simpa using this
  | _ => rw [hk] at h1; exact (M.fail_eq (s := s) h1).elim
theorem ref_new {im bo : Nat → Prop} {φ : Env} {m B sz lim k c : Nat} (h : c * sz ≤ lim) (hk : k ≤ c) (w' : World) (cap : Nat) (hc : cap ≤ c) : R im w' bo (φ.upd m (.at_ B 0 sz lim)) (.ref m 0 k cap) (.slice (some ⟨B, 0, none⟩) k c) :=
  .ref (b := m) (off := 0) (base := 0) (Env.upd_same _ _ _) hc (by omega)
theorem buildSlice_sim (ht : TyOk P ty) (hr : Rel n w0 S im0 bo φ0 im φ s a w) {o : Oper} {t k : Nat} {ps : List (Nat × Operand)} {qs : Array (Nat × Value)} {e : Eff} {l : Log} (hq : qs.toList = ps.map fun x => (x.1, a.eval x.2))
    (h : opD.bs ty o t k ps s = some (e, l)) (ho : l.ok) : EffOk n w0 S im0 bo φ0 s a e ((do pure (.value (← Instr.buildSlice t k qs)) : Sem Next).run P w) := by
  unfold opD.bs at h
  obtain ⟨i, hi, l0, h0, ho0⟩ := at_bind ht h ho
  cases hk : i.kind with
  | slice el =>
    rw [hk] at h0
    have hu := hi.slice hk
    obtain ⟨j, hj, l1, h1, ho1⟩ := at_bind ht h0 ho0
    obtain ⟨hs, l2, h2, ho2⟩ := test_bind h1 ho1
    obtain ⟨hz, l3, h3, ho3⟩ := test_bind h2 ho2
    obtain ⟨ds, hd, l4, h4, ho4⟩ := evs_bind hr h3 ho3
    obtain ⟨cs, l5, l6, h5, h6, ho5, ho6⟩ := M.bindO h4 ho4
    obtain ⟨hfl, l7, h7, ho7⟩ := ask_bind h6 ho6
    have hs' : ¬ (k * j.size > 16777216) := by have := Nat.le_of_ble_eq_true hs; omega
    obtain ⟨z, hz1, hz2, hz4, hz3⟩ : ∃ z : Array Value, (k * j.size = 0 ∧ z = #[] ∨ k * j.size ≠ 0 ∧ ∃ zv, (zeroValue el).run P w = .ok zv w ∧ z = zv.cells) ∧ Rs im w bo φ (repD j.zero k) ((Array.range (k * j.size)).map (z[· % z.size]!)).toList ∧ Ones ((Array.range (k * j.size)).map (z[· % z.size]!)).toList ∧ (repD j.zero k).length = k * j.size := by
      by_cases hk0 : k = 0
      · subst hk0
        exact ⟨#[], .inl ⟨Nat.zero_mul _, rfl⟩, by simpa [repD] using (Rs.nil : Rs im w bo φ [] []), by simpa using Ones.nil, by rw [Nat.zero_mul]; rfl⟩
      · have hz' : j.zero.isEmpty = false := by
          have : Nat.beq k 0 = false := by cases k with | zero => exact absurd rfl hk0 | succ k => rfl
          simpa [this] using hz
        obtain ⟨z, z1, z2, z3, z4⟩ := hj.zero (P := P) (w := w) (im := im) (bo := bo) (φ := φ) hz'
        have zl : j.zero.length = z.cells.size := z2.length.trans (by simp)
        have hpos : j.size ≠ 0 := by
          rw [← z3]
          intro e
          rw [List.length_eq_zero_iff.1 e] at hz'
          exact absurd hz' (by decide)
        have hne : ¬ (k * j.size = 0) := Nat.mul_ne_zero hk0 hpos
        refine ⟨z.cells, .inr ⟨hne, z, z1, rfl⟩, ?_, ?_, by rw [repD_len, z3]⟩
        · rw [← z3, zl, range_cells]
          exact rep_sim z2 k
        · rw [← z3, zl, range_cells]
          exact rep_ones z4 k
    obtain ⟨us, hu1, hu2, hu3⟩ := fillD_sim (pl := fun q => some (q * j.size, j.size)) h5 ho5 hz2 hz4 (hq ▸ hd)
    have hul : cs.length = us.size := hu2.length.trans (by simp)
    have hlen : us.size = k * j.size := by
      have e1 := fillD_len h5 ho5
      omega
    refine eff_new hr h7 ho7 (c := us) (el := el) (fz := (0, 0)) ?_ (hu3.take _) (by simp [hul]) (.inl (by simp)) (v := .slice (some ⟨w.heap.size, 0, none⟩) k k) ?_ ?_
    · have e : us.toList.take cs.length = us.toList := List.take_of_length_le (by simp [hul])
      simp only [e]
      exact hu2.pureOr (by
        cases hf : j.flat
        · cases frees cs <;> rfl
        · rw [hfl hf]; rfl)
    · simp only [Instr.buildSlice, Sem.run_bind, run_underlying hu, Result.andThen_ok, hj.sizeOf]
      rw [if_neg (by simpa using hs')]
      rcases hz1 with ⟨e0, rfl⟩ | ⟨e0, zv, e1, rfl⟩
      · rw [if_pos e0]
        simp only [Sem.run_bind, Sem.run_pure, Result.andThen_ok, hu1, newRow, run_newObj]
        rfl
      · rw [if_neg e0]
        simp only [Sem.run_bind, Sem.run_pure, Result.andThen_ok, e1, hu1, newRow, run_newObj]
        rfl
    · intro m
      exact ref_new (by simp [hlen]) (Nat.le_refl _) _ k (Nat.le_refl _)
  | _ => rw [hk] at h0; exact (M.fail_eq (s := s) h0).elim
end
end Go.Proofs.YtmhlgpdoedbedaaGreat.Sv
