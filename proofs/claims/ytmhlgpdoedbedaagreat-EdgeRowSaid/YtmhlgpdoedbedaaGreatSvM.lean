/- Conversions; append. -/
import Derived.Test.YtmhlgpdoedbedaaGreatSvL
namespace Go.Proofs.YtmhlgpdoedbedaaGreat.Sv
set_option linter.unusedVariables false
set_option linter.unusedSimpArgs false
open Go Go.RowKit
section
variable {P : Program} {ty : Ty} {n : Nat} {w0 : World} {S im0 bo im : Nat → Prop} {φ0 φ : Env} {s : St} {a : Act} {w : World}

theorem bytes_sim {ds : List D} {vs : List Value} (h : Rs im w bo φ ds vs) (hb : ∀ d ∈ ds, d.byte) : ∃ ns : List Int, vs = ns.map (Value.int .u8) ∧ ds = ns.map (D.int .u8) := by
  induction ds generalizing vs with
  | nil => cases h; exact ⟨[], rfl, rfl⟩
  | cons d ds ih =>
    cases h with
    | cons k1 k2 =>
      obtain ⟨ns, rfl, rfl⟩ := ih k2 (fun d hd => hb d (by simp [hd]))
      have hd := hb d (by simp)
      cases d <;> first
        | exact hd.elim
        | skip
      rename_i k m
      cases k <;> first
        | exact hd.elim
        | skip
      cases k1
      exact ⟨m :: ns, rfl, rfl⟩
theorem foldl_push (ns : List Int) (b : ByteArray) : ns.foldl (fun r m => r.push (UInt8.ofNat m.toNat)) b = ⟨b.data ++ (ns.map fun m => UInt8.ofNat m.toNat).toArray⟩ := by
  induction ns generalizing b with
  | nil => simp
  | cons m ns ih =>
    simp only [List.foldl_cons, ih, List.map_cons]
    congr 1
    apply Array.ext'
    simp [ByteArray.push]
theorem bytesD_ints (ns : List Int) : bytesD (ns.map (D.int .u8)) = ns.foldl (fun r m => r.push (UInt8.ofNat m.toNat)) ByteArray.empty := by
  rw [foldl_push]
  unfold bytesD
  congr 1
  apply Array.ext'
  simp [ByteArray.empty, ByteArray.emptyWithCapacity, List.map_map]
  rfl
theorem TIOk.u8 {t : Nat} {i : TI} (h : TIOk P t i) (hk : (match i.kind with | .int .u8 => true | _ => false) = true) : P.underlying t = some (.int .u8) := by
  obtain ⟨j, d, h1, h2, _, _, h3, _⟩ := h.info
  cases hi : i.kind <;> rw [hi] at h3 hk <;> first
    | exact absurd (show false = true from hk) Bool.false_ne_true
    | skip
  rename_i k
  cases k <;> first
    | exact absurd (show false = true from hk) Bool.false_ne_true
    | skip
  cases d <;> simp [TK.desc] at h3
  subst h3; exact h2
theorem rowFrom_bind {b off : Nat} {β : Type} {f : List D → M β} {x : β} {k : Log} (h : (rowFrom b off >>= f) s = some (x, k)) (ho : k.ok) : ∃ blk, s.slot b = some (some blk) ∧ blk.pure = true ∧ ∃ l, f (blk.cs.drop off) s = some (x, l) ∧ l.ok := by
  obtain ⟨cs, l1, l2, h1, h2, ho1, ho2⟩ := M.bindO h ho
  unfold rowFrom at h1
  obtain ⟨l3, h3, ho3⟩ := getH_bind h1 ho1
  cases hs : s.slot b with
  | none => rw [hs] at h3; exact (M.fail_eq (s := s) h3).elim
  | some y =>
  cases y with
  | none => rw [hs] at h3; exact (M.fail_eq (s := s) h3).elim
  | some blk =>
  rw [hs] at h3
  obtain ⟨hp, l4, h4, ho4⟩ := test_bind h3 ho3
  have e := pure_ok (s := s) h4
  subst e
  exact ⟨blk, rfl, hp, l2, h2, ho2⟩
theorem rowSz_bind {z b off : Nat} {β : Type} {f : List D → M β} {x : β} {k : Log} (h : (rowSz z b off >>= f) s = some (x, k)) (ho : k.ok) : ∃ blk, s.slot b = some (some blk) ∧ blk.pure = true ∧ blk.sz = z ∧ ∃ l, f (blk.cs.drop off) s = some (x, l) ∧ l.ok := by
  obtain ⟨cs, l1, l2, h1, h2, ho1, ho2⟩ := M.bindO h ho
  unfold rowSz at h1
  obtain ⟨l3, h3, ho3⟩ := getH_bind h1 ho1
  cases hs : s.slot b with
  | none => rw [hs] at h3; exact (M.fail_eq (s := s) h3).elim
  | some y =>
  cases y with
  | none => rw [hs] at h3; exact (M.fail_eq (s := s) h3).elim
  | some blk =>
  rw [hs] at h3
  obtain ⟨hp, l4, h4, ho4⟩ := test_bind h3 ho3
  obtain ⟨hz, l5, h5, ho5⟩ := test_bind h4 ho4
  have e := pure_ok (s := s) h5
  subst e
  exact ⟨blk, rfl, hp, by simpa using hz, l2, h2, ho2⟩
/-- The cells of a slice, as they are read. -/
theorem ref_cells (hr : Rel n w0 S im0 bo φ0 im φ s a w) {b off len cap : Nat} {v : Value} {blk : Blk} (hs : s.slot b = some (some blk)) (hp : blk.pure = true) (hx : R im w bo φ (.ref b off len cap) v) (k : Nat) (hk : k ≤ (blk.cs.drop off).length) (hz : len = 0 → k = 0) :
    ∃ ad cap' vs, v = .slice ad len cap' ∧ Rs im w noB noEnv ((blk.cs.drop off).take k) vs ∧ vs.length = k ∧ Ones vs ∧ (∀ w', w'.heap = w.heap → ad = none ∧ vs = [] ∨ ∃ a', ad = some a' ∧ (loadCells a' k).run P w' = .ok vs.toArray w') := by
  have z0 : ∀ (ad : Option Addr) (w' : World), k = 0 → (ad = none ∧ ([] : List Value) = [] ∨ ∃ a', ad = some a' ∧ (loadCells a' k).run P w' = .ok ([] : List Value).toArray w') := by
    intro ad w' e
    subst e
    cases ad with
    | none => exact .inl ⟨rfl, rfl⟩
    | some a' => exact .inr ⟨a', rfl, rfl⟩
  cases hx with
  | ref0 ad h1 => have e := hz rfl; exact ⟨ad, 0, [], rfl, by subst e; exact .nil, by simp [e], Ones.nil, fun w' _ => z0 ad w' e⟩
  | refz ad h1 => have e := hz rfl; exact ⟨ad, 0, [], rfl, by subst e; exact .nil, by simp [e], Ones.nil, fun w' _ => z0 ad w' e⟩
  | ref h1 h2 h3 =>
    obtain ⟨vs, g1, g2, g3, g5⟩ := stands_blk (live_at hr hs h1) off
    have hl := g1.length
    refine ⟨_, _, vs.take k, rfl, (g3 hp).take k, by simp; omega, g5.take k, fun w' hw => .inr ⟨_, rfl, ?_⟩⟩
    have g4 : Stands w' _ vs := fun j v hv => by
      have := g2 j v hv
      rwa [World.cell?_of_block (w := w) (w' := w') (by rw [hw])]
    exact run_loadCells_take g4 (by omega)
theorem convD_sim (ht : TyOk P ty) (hr : Rel n w0 S im0 bo φ0 im φ s a w) {o : Oper} {t t' : Nat} {x : D} {v : Value} {e : Eff} {l : Log} (h : convD ty o t t' x s = some (e, l)) (ho : l.ok) (hx : R im w bo φ x v) :
    EffOk n w0 S im0 bo φ0 s a e ((do pure (.value (← convert t t' v)) : Sem Next).run P w) := by
  unfold convD at h
  obtain ⟨i, hi, l0, h0, ho0⟩ := at_bind ht h ho
  obtain ⟨j, hj, l1, h1, ho1⟩ := at_bind ht h0 ho0
  cases hk : j.kind with
  | int k =>
    rw [hk] at h1
    cases x <;> first
      | exact (M.fail_eq (s := s) h1).elim
      | skip
    cases hx
    obtain ⟨_, d, _, hu, _⟩ := hi.info
    obtain ⟨_, d', _, hu', _, _, hd', _⟩ := hj.info
    rw [hk] at hd'
    cases d' <;> simp [TK.desc] at hd'
    subst hd'
    refine eff_quiet hr h1 ?_ (.int _ _)
    simp [convert, run_underlying hu, run_underlying hu', Conv.intToInt]
  | string =>
    rw [hk] at h1
    have hu := hj.string hk
    cases x <;> first
      | exact (M.fail_eq (s := s) h1).elim
      | skip
    · cases hx
      obtain ⟨_, d, _, hu', _⟩ := hi.info
      refine eff_quiet hr h1 ?_ (.str _)
      simp [convert, run_underlying hu, run_underlying hu']
    · cases hki : i.kind with
      | slice el =>
        simp only [hki] at h1
        have hus := hi.slice hki
        obtain ⟨k, hk', l2, h2, ho2⟩ := at_bind ht h1 ho1
        obtain ⟨h8, l3, h3, ho3⟩ := test_bind h2 ho2
        have hu8 := hk'.u8 h8
        cases hx
        exact eff_quiet hr h3 (by rw [run_convert_bytes_string w t t' el _ _ _ hus hu8 hu]; rfl) (.str _)
      | _ => simp only [hki] at h1; exact (M.fail_eq (s := s) h1).elim
    · rename_i g cs len cap
      cases hki : i.kind with
      | slice el =>
        simp only [hki] at h1
        have hus := hi.slice hki
        obtain ⟨k, hk', l2, h2, ho2⟩ := at_bind ht h1 ho1
        obtain ⟨h8, l3, h3, ho3⟩ := test_bind h2 ho2
        obtain ⟨⟨n1, n2⟩, l4, h4, ho4⟩ := need_bind h3 ho3
        have hu8 := hk'.u8 h8
        cases hx with
        | sl0 ad c => exact eff_quiet hr h4 (v := .string ByteArray.empty) (by rw [run_convert_bytes_string w t t' el _ _ _ hus hu8 hu]; cases ad <;> rfl) (.str _)
        | sl k1 k2 k3 k4 _ k5 =>
          obtain ⟨ns, e1, e2⟩ := bytes_sim (k5.take len) n2
          refine eff_quiet hr h4 (v := .string (ns.foldl (fun r m => r.push (UInt8.ofNat m.toNat)) ByteArray.empty)) ?_ (by rw [e2, bytesD_ints]; exact .str _)
          rw [run_convert_bytes_string w t t' el _ _ _ hus hu8 hu]
          refine run_bytesToString w _ len _ ns ?_
          rw [← e1]
          exact run_loadCells_take (stands_im k3 k4) (by rw [← k5.length]; exact n1)
      | _ => simp only [hki] at h1; exact (M.fail_eq (s := s) h1).elim
    · rename_i b off len cap
      cases hki : i.kind with
      | slice el =>
        simp only [hki] at h1
        have hus := hi.slice hki
        obtain ⟨k, hk', l2, h2, ho2⟩ := at_bind ht h1 ho1
        obtain ⟨h8, l3, h3, ho3⟩ := test_bind h2 ho2
        obtain ⟨blk, hs, hp, l5, h5, ho5⟩ := rowFrom_bind h3 ho3
        obtain ⟨⟨n1, n2⟩, l4, h4, ho4⟩ := need_bind h5 ho5
        have hu8 := hk'.u8 h8
        obtain ⟨ad, cap', vs, rfl, g1, g2, _, g3⟩ := ref_cells (P := P) hr hs hp hx len n1 id
        obtain ⟨ns, e1, e2⟩ := bytes_sim g1 n2
        refine eff_quiet hr h4 (v := .string (ns.foldl (fun r m => r.push (UInt8.ofNat m.toNat)) ByteArray.empty)) ?_ (by rw [e2, bytesD_ints]; exact .str _)
        rw [run_convert_bytes_string w t t' el _ _ _ hus hu8 hu]
        rcases g3 w rfl with ⟨rfl, e3⟩ | ⟨a', rfl, e3⟩
        · have e4 : ns = [] := by rw [e1] at e3; simpa using e3
          subst e4
          rfl
        · refine run_bytesToString w _ len _ ns ?_
          rw [← e1]
          exact e3
      | _ => simp only [hki] at h1; exact (M.fail_eq (s := s) h1).elim
  | slice el =>
    rw [hk] at h1
    have hu := hj.slice hk
    cases x <;> first
      | exact (M.fail_eq (s := s) h1).elim
      | skip
    rename_i b
    obtain ⟨k, hk', l2, h2, ho2⟩ := at_bind ht h1 ho1
    obtain ⟨h8, l3, h3, ho3⟩ := test_bind h2 ho2
    obtain ⟨hst, l4, h4, ho4⟩ := test_bind h3 ho3
    have hu8 := hk'.u8 h8
    cases hx
    have hus : P.underlying t = some .string := by
      cases hki : i.kind <;> simp [hki] at hst
      exact hi.string hki
    have hrun := run_bytes_of_string (P := P) w t t' el b hus hu hu8
    have hge := grownCap_ge w b.size 0 el
    have hr' : Rel n w0 S im0 bo φ0 im φ s a w.drew := hr.same rfl rfl rfl rfl
    have hsz : (bytesRow b (grownCap w b.size 0 el)).size = grownCap w b.size 0 el := by
      have e : b.data.size = b.size := rfl
      simp [bytesRow, e]
      try omega
    have hl : (cellsD b).length = b.size := by
      simp [cellsD]
      try rfl
    refine eff_new hr' h4 ho4 (c := bytesRow b (grownCap w b.size 0 el)) (el := el) ?_ (fun v hv => ?_) (by simp only [hl, hsz]; exact hge) (.inr (Nat.le_refl _)) hrun ?_
    · simp only [if_true, hl]
      have e : (bytesRow b (grownCap w b.size 0 el)).toList.take b.size = b.data.toList.map fun c => Value.int .u8 c.toNat := by
        unfold bytesRow
        rw [Array.toList_append, List.take_left' (by simp; try rfl), Array.toList_map]
      rw [e]
      unfold cellsD
      generalize b.data.toList = bs
      induction bs with
      | nil => exact .nil
      | cons c bs ih => exact .cons (.int _ _) ih
    · have hv' := List.mem_of_mem_take hv
      simp only [bytesRow, Array.toList_append, Array.toList_map, Array.toList_replicate, List.mem_append, List.mem_map, List.mem_replicate] at hv'
      rcases hv' with ⟨c, _, rfl⟩ | ⟨_, rfl⟩ <;> rfl
    · intro m
      exact .ref (b := m) (off := 0) (base := 0) (Env.upd_same _ _ _) hge (by simp [hsz])
  | _ => rw [hk] at h1; cases x <;> exact (M.fail_eq (s := s) h1).elim
end
end Go.Proofs.YtmhlgpdoedbedaaGreat.Sv
