/- Stores; rows that are made; conversions. -/
import Derived.Test.YtmhlgpdoedbedaaGreatSvK
namespace Go.Proofs.YtmhlgpdoedbedaaGreat.Sv
set_option linter.unusedVariables false
set_option linter.unusedSimpArgs false
open Go Go.RowKit
section
variable {P : Program} {ty : Ty} {n : Nat} {w0 : World} {S im0 bo im : Nat → Prop} {φ0 φ : Env} {s : St} {a : Act} {w : World}

theorem live_at (hr : Rel n w0 S im0 bo φ0 im φ s a w) {b : Nat} {k : Blk} {B base sz lim : Nat} (h : s.slot b = some (some k)) (hp : φ b = some (.at_ B base sz lim)) : BlkAt im bo φ w k (.at_ B base sz lim) := by
  obtain ⟨pl, h1, h2⟩ := hr.own.blk b k h
  rw [hp] at h1
  obtain rfl := Option.some.inj h1
  exact h2
theorem dtk (c : List Value) (base off : Nat) (us : List Value) (lim : Nat) (h : base + off + us.length ≤ c.length) (hl : off + us.length ≤ lim) :
    ((c.take (base + off) ++ us ++ c.drop (base + off + us.length)).drop base).take lim = ((c.drop base).take lim).take off ++ us ++ ((c.drop base).take lim).drop (off + us.length) := by
  apply List.ext_getElem?
  intro i
  simp only [List.getElem?_take, List.getElem?_drop, List.getElem?_append, List.length_take, List.length_drop, List.length_append]
  have e1 : min (base + off) c.length = base + off := by omega
  have e2 : min off (min lim (c.length - base)) = off := by omega
  rw [e1, e2]
  by_cases h1 : i < off
  · have a1 : base + i < base + off + us.length := by omega
    have a2 : base + i < base + off := by omega
    have a3 : i < off + us.length := by omega
    have a4 : i < lim := by omega
    simp [h1, a1, a2, a3, a4]
  · by_cases h2 : i < off + us.length
    · have a1 : base + i < base + off + us.length := by omega
      have a2 : ¬ base + i < base + off := by omega
      have a4 : i < lim := by omega
      have a5 : base + i - (base + off) = i - off := by omega
      simp [h1, a1, a2, h2, a4, a5]
    · have a1 : ¬ base + i < base + off + us.length := by omega
      have a2 : ¬ base + i < base + off := by omega
      by_cases a4 : i < lim
      · have a6 : base + off + us.length + (base + i - (base + off + us.length)) = base + i := by omega
        have a7 : off + us.length + (i - (off + us.length)) < lim := by omega
        have a8 : base + (off + us.length + (i - (off + us.length))) = base + i := by omega
        simp [h1, a1, a2, h2, a4, a6, a7, a8]
      · have a7 : ¬ off + us.length + (i - (off + us.length)) < lim := by omega
        simp [h1, a1, a2, h2, a4, a7]
theorem splice_len (cs : List D) (off : Nat) (ds : List D) (h : off + ds.length ≤ cs.length) : (splice cs off ds).length = cs.length := by
  simp only [splice, List.length_append, List.length_take, List.length_drop]
  omega
theorem storeD_sim (ht : TyOk P ty) (hr : Rel n w0 S im0 bo φ0 im φ s a w) {t : Nat} {x d : D} {v u : Value} {e : Eff} {l : Log} {sym : Bool} (h : storeD ty t x d sym s = some (e, l)) (ho : l.ok) (hx : R im w bo φ x v) (hd : R im w bo φ d u) :
    EffOk n w0 S im0 bo φ0 s a e ((do Instr.storeAt t v u; pure .skip : Sem Next).run P w) := by
  unfold storeD at h
  obtain ⟨i, hi, l0, h0, ho0⟩ := at_bind ht h ho
  cases x <;> first
    | exact (M.fail_eq (s := s) h0).elim
    | skip
  rename_i b off
  obtain ⟨l1, h1, ho1⟩ := getH_bind h0 ho0
  cases hs : s.slot b with
  | none => rw [hs] at h1; exact (M.fail_eq (s := s) h1).elim
  | some y =>
  cases y with
  | none => rw [hs] at h1; exact (M.fail_eq (s := s) h1).elim
  | some blk =>
  rw [hs] at h1
  obtain ⟨hv, l2, h2, ho2⟩ := test_bind h1 ho1
  obtain ⟨⟨n1, n2, n3⟩, l5, h5, ho5⟩ := ask_bind h2 ho2
  have hp' : (!blk.pure || frees d.cells) = true := by
    cases hb : blk.pure
    · rfl
    · rw [n3 hb]; rfl
  have he := pure_ok (s := s) h5
  subst he
  cases hx with
  | ptr hp =>
  rename_i B base sz lim
  obtain ⟨c, el, fz, k1, k2, k3, k4, k5, k7, k6⟩ := live_at hr hs hp
  obtain ⟨hc, hon⟩ := cells_sim hd hv
  have hcl : d.cells.length = u.cells.size := hc.length.trans (by simp)
  have hul : u.cells.toList.length = d.cells.length := by simp [hcl]
  have hst := run_storeCells P u.cells.toList (base + off) 0 w c k1 (by simp at *; omega) k5 hon
  refine ⟨Go.undef, _, .inr ⟨?_, rfl⟩, im, φ, hr.put (m := b) (B := B) (base := base) (lim := lim) (φ' := φ) (blk := { blk with cs := splice blk.cs off d.cells }) (c := (c.toList.take (base + off) ++ u.cells.toList ++ c.toList.drop (base + off + u.cells.toList.length)).toArray) (el := el) (fz := fz)
    (fun _ _ h => h) (by rw [hp, k4]) (fun _ _ => rfl) (live_lt hr hs hp) (hr.owo _ _ _ _ _ _ hs hp) (hr.own.out _ _ _ _ _ _ hs hp).1 (hr.own.out _ _ _ _ _ _ hs hp).2 ?_ ?_ ?_ ?_ ?_ ?_, .undef _⟩
  · simp only [Instr.storeAt, Instr.sureAddr, storeVar, Sem.run_bind, Sem.run_pure, Result.andThen_ok, hi.sizeOf]
    rw [if_neg (by simp; omega)]
    rw [hst]
    rfl
  · intro b' k' base' sz' lim' hne hs' hp''
    exact hne (hr.own.inj _ _ _ _ _ _ _ _ _ _ _ hs' hs hp'' hp)
  · simp only [List.size_toArray, List.length_append, List.length_take, List.length_drop, Array.length_toList]
    simp only [Array.length_toList] at hul
    omega
  · simp only
    rw [splice_len _ _ _ (by omega)]
    exact k3
  · simp only [List.size_toArray, List.length_append, List.length_take, List.length_drop, Array.length_toList]
    simp only [Array.length_toList] at hul
    rcases k5 with k5 | k5
    · exact .inl k5
    · right; omega
  · simp only
    rw [splice_len _ _ _ (by omega), List.toList_toArray]
    rw [dtk c.toList base off u.cells.toList blk.cs.length (by simp at *; omega) (by simp at *; omega)]
    exact ((k7.take _).append hon).append (k7.drop _)
  · simp only
    rw [splice_len _ _ _ (by omega), List.toList_toArray]
    rw [dtk c.toList base off u.cells.toList blk.cs.length (by simp at *; omega) (by simp at *; omega)]
    have := splice_sim off k6 (hc.pureOr hp')
    exact this
theorem makeD_sim (ht : TyOk P ty) (hr : Rel n w0 S im0 bo φ0 im φ s a w) {o : Oper} {t : Nat} {x y : D} {v u : Value} {e : Eff} {l : Log} (h : makeD ty o t x y s = some (e, l)) (ho : l.ok) (hx : R im w bo φ x v) (hy : R im w bo φ y u) :
    EffOk n w0 S im0 bo φ0 s a e ((do pure (.value (← Instr.makeSlice t v u)) : Sem Next).run P w) := by
  unfold makeD at h
  obtain ⟨i, hi, l0, h0, ho0⟩ := at_bind ht h ho
  cases hk : i.kind with
  | slice el =>
    rw [hk] at h0
    have hu := hi.slice hk
    cases x <;> cases y <;> first
      | exact (M.fail_eq (s := s) h0).elim
      | skip
    rename_i k1 p k2 q
    obtain ⟨j, hj, l1, h1, ho1⟩ := at_bind ht h0 ho0
    obtain ⟨hz, l2, h2, ho2⟩ := test_bind h1 ho1
    obtain ⟨⟨b0, b1, b2, b3⟩, l3, h3, ho3⟩ := need_bind h2 ho2
    cases hx; cases hy
    obtain ⟨jj, dd, g1, g2, g3, g4, g5, g6⟩ := hj.info
    obtain ⟨z, g7, g8, g9, g10⟩ := g6 (by simpa using hz)
    have hzz := ofVs_R (im := im) (bo := bo) (w := w) (φ := φ) _ _ g8
    have zl : j.zero.length = z.cells.size := hzz.length.trans (by simp)
    have hrun := run_make (P := P) w t el jj z hu g1 g7 k1 k2 p q b0 b1 (by rw [g4]; omega) (by omega)
    have hcells : (madeCells z.cells (q.toNat * jj.size)).toList = repV z.cells.toList q.toNat := by
      rw [g3, ← g9, zl]
      exact range_cells _ _
    have hlen : (repD j.zero q.toNat).length = (madeCells z.cells (q.toNat * jj.size)).size := by
      rw [repD_len, size_madeCells, g3, g9]
    refine eff_new hr h3 ho3 (c := madeCells z.cells (q.toNat * jj.size)) (el := el) (fz := (0, 0)) ?_ (by rw [hcells]; exact (rep_ones g10 _).take _) (Nat.le_of_eq hlen) (.inl (by simp)) hrun ?_
    · simp only
      rw [List.take_of_length_le (by rw [hlen]; simp), hcells]
      exact rep_sim (hzz.pureOr (by cases frees j.zero <;> rfl)) _
    · intro m
      refine .ref (b := m) (off := 0) (base := 0) (Env.upd_same _ _ _) (Nat.le_refl _) ?_
      rw [size_madeCells, g3]
      simp
  | _ => rw [hk] at h0; cases x <;> cases y <;> exact (M.fail_eq (s := s) h0).elim
end
end Go.Proofs.YtmhlgpdoedbedaaGreat.Sv
