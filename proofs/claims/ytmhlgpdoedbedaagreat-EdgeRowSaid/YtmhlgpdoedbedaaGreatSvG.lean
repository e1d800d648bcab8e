/- Indices, cuts, structs that are put together. -/
import Derived.Test.YtmhlgpdoedbedaaGreatSvF
namespace Go.Proofs.YtmhlgpdoedbedaaGreat.Sv
set_option linter.unusedVariables false
set_option linter.unusedSimpArgs false
open Go Go.RowKit
section
variable {P : Program} {ty : Ty} {n : Nat} {w0 : World} {S im0 bo im : Nat → Prop} {φ0 φ : Env} {s : St} {a : Act} {w : World}

theorem TIOk.slice {t e : Nat} {i : TI} (h : TIOk P t i) (hk : i.kind = .slice e) : P.underlying t = some (.slice e) := by
  obtain ⟨j, d, h1, h2, _, _, h3, _⟩ := h.info
  rw [hk] at h3
  cases d <;> simp [TK.desc] at h3
  subst h3; exact h2
theorem TIOk.array {t m e : Nat} {i : TI} (h : TIOk P t i) (hk : i.kind = .array m e) : P.underlying t = some (.array m e) := by
  obtain ⟨j, d, h1, h2, _, _, h3, _⟩ := h.info
  rw [hk] at h3
  cases d <;> simp [TK.desc] at h3
  obtain ⟨rfl, rfl⟩ := h3; exact h2
theorem TIOk.string {t : Nat} {i : TI} (h : TIOk P t i) (hk : i.kind = .string) : P.underlying t = some .string := by
  obtain ⟨j, d, h1, h2, _, _, h3, _⟩ := h.info
  rw [hk] at h3
  cases d <;> simp [TK.desc] at h3
  exact h2
theorem unD_sim {op : UnOp} {x d : D} {v : Value} {l : Log} (h : unD op x s = some (d, l)) (hx : R im w bo φ x v) : ∃ r, (Op.unary op v).run P w = .ok r w ∧ R im w bo φ d r := by
  cases op <;> cases x <;> first
    | exact (M.fail_eq (s := s) h).elim
    | (have h := pure_ok (s := s) h; subst h; cases hx; exact ⟨_, rfl, by first | exact .int _ _ | exact .bool _⟩)
theorem pickD_sim {c : Bool} {x y : D} {v u : Value} (hx : R im w bo φ x v) (hy : R im w bo φ y u) : R im w bo φ (pickD c x y) (if c then v else u) := by
  unfold pickD
  split
  · cases hx; cases hy; cases c <;> exact .bool _
  · cases c
    · exact hy
    · exact hx
theorem dt_drop {c : List Value} {o k m : Nat} : ((c.drop o).take k).drop m = (c.drop (o + m)).take (k - m) := by
  rw [List.drop_take, List.drop_drop]
theorem sliceAddr_sim {g : Bool} {cs : List D} {B o : Nat} {c : Array Value} {el : TypeId} {fz : Nat × Nat} {vs : List Value} (m : Nat) (h1 : im B ∨ (g = false ∧ bo B)) (h2 : w.heap[B]? = some (.cells c el fz))
    (h3 : (c.toList.drop o).take cs.length = vs) (h5 : Ones vs) (h4 : Rs im w (if g then noB else bo) noEnv cs vs) : R im w bo φ (.ip g (cs.drop m)) (.pointer (some ⟨B, o + m, none⟩)) := by
  subst h3
  have e := h5.drop m
  have := h4.drop m
  rw [dt_drop, ← List.length_drop] at this e
  exact .ip h1 h2 rfl e this
theorem indexAddrD_sim (ht : TyOk P ty) {t : Nat} {x y d : D} {v u : Value} {l : Log} (h : indexAddrD ty t x y s = some (d, l)) (ho : l.ok) (hx : R im w bo φ x v) (hy : R im w bo φ y u) :
    ∃ r, (Instr.indexAt t v u).run P w = .ok r w ∧ R im w bo φ d r := by
  unfold indexAddrD at h
  obtain ⟨i, hi, l1, h1, ho1⟩ := at_bind ht h ho
  cases hk : i.kind with
  | slice e =>
    rw [hk] at h1
    have hu := hi.slice hk
    cases y <;> cases x <;> first
      | exact (M.fail_eq (s := s) h1).elim
      | skip
    · rename_i k m g cs len cap
      obtain ⟨j, hj, l2, h2, ho2⟩ := at_bind ht h1 ho1
      obtain ⟨⟨b0, b1⟩, l3, h3, ho3⟩ := need_bind h2 ho2
      have h := pure_ok (s := s) h3
      subst h
      cases hy
      have hb : (0 ≤ m ∧ m < (len : Int)) = True := eq_true ⟨b0, b1⟩
      cases hx with
      | sl0 => exact absurd b1 (by omega)
      | sl k1 k2 k3 k4 k6 k5 =>
        refine ⟨_, ?_, sliceAddr_sim (m.toNat * j.size) k1 k3 k4 k6 k5⟩
        simp [Instr.indexAt, asIntOf, run_underlying hu, b0, b1, hj.sizeOf, Addr.add_none]
    · rename_i k m b off len cap
      obtain ⟨j, hj, l2, h2, ho2⟩ := at_bind ht h1 ho1
      obtain ⟨⟨b0, b1⟩, l3, h3, ho3⟩ := need_bind h2 ho2
      have h := pure_ok (s := s) h3
      subst h
      cases hy
      cases hx with
      | ref0 => exact absurd b1 (by omega)
      | refz => exact absurd b1 (by omega)
      | ref k1 k2 k3 =>
        refine ⟨_, ?_, .ptr k1⟩
        simp [Instr.indexAt, asIntOf, run_underlying hu, b0, b1, hj.sizeOf, Addr.add_none, Nat.add_assoc]
  | array len e =>
    rw [hk] at h1
    have hu := hi.array hk
    cases y <;> cases x <;> first
      | exact (M.fail_eq (s := s) h1).elim
      | skip
    · rename_i k m b off
      obtain ⟨j, hj, l2, h2, ho2⟩ := at_bind ht h1 ho1
      obtain ⟨⟨b0, b1⟩, l3, h3, ho3⟩ := need_bind h2 ho2
      have h := pure_ok (s := s) h3
      subst h
      cases hy
      cases hx with
      | ptr k1 =>
        refine ⟨_, ?_, .ptr k1⟩
        simp [Instr.indexAt, asIntOf, run_underlying hu, b0, b1, hj.sizeOf, Addr.add_none, Nat.add_assoc, Instr.sureAddr]
    · rename_i k m g cs
      obtain ⟨j, hj, l2, h2, ho2⟩ := at_bind ht h1 ho1
      obtain ⟨⟨b0, b1⟩, l3, h3, ho3⟩ := need_bind h2 ho2
      have h := pure_ok (s := s) h3
      subst h
      cases hy
      cases hx with
      | ip k1 k2 k3 k5 k4 =>
        refine ⟨_, ?_, sliceAddr_sim (m.toNat * j.size) k1 k2 k3 k5 k4⟩
        simp [Instr.indexAt, asIntOf, run_underlying hu, b0, b1, hj.sizeOf, Addr.add_none, Instr.sureAddr]
  | _ => rw [hk] at h1; cases y <;> cases x <;> exact (M.fail_eq (s := s) h1).elim
theorem bt_get {b : ByteArray} {m : Int} (h0 : 0 ≤ m) (h1 : m < (b.size : Int)) : ∃ c : UInt8, b[m.toNat]? = some c ∧ bt b m = (c.toNat : Int) := by
  have hm : m.toNat < b.size := by omega
  refine ⟨b[m.toNat], by simp [hm], ?_⟩
  unfold bt
  have e : b.data.toList[m.toNat]? = some b[m.toNat] := by
    have hm' : m.toNat < b.data.size := hm
    rw [Array.getElem?_toList, Array.getElem?_eq_getElem hm']
    rfl
  rw [List.getD_eq_getElem?_getD, e]
  rfl
theorem indexD_sim (ht : TyOk P ty) {t : Nat} {x y d : D} {v u : Value} {l : Log} (h : indexD ty t x y s = some (d, l)) (ho : l.ok) (hx : R im w bo φ x v) (hy : R im w bo φ y u) :
    ∃ r, (Instr.index t v u).run P w = .ok r w ∧ R im w bo φ d r := by
  unfold indexD at h
  obtain ⟨i, hi, l1, h1, ho1⟩ := at_bind ht h ho
  cases hk : i.kind with
  | string =>
    rw [hk] at h1
    have hu := hi.string hk
    cases y <;> cases x <;> first
      | exact (M.fail_eq (s := s) h1).elim
      | skip
    rename_i k m b
    obtain ⟨⟨b0, b1⟩, l3, h3, ho3⟩ := need_bind h1 ho1
    have h := pure_ok (s := s) h3
    subst h
    cases hy; cases hx
    obtain ⟨c, hc, hb⟩ := bt_get b0 b1
    refine ⟨.int .u8 c.toNat, ?_, by rw [hb]; exact .int _ _⟩
    simp [Instr.index, asIntOf, run_underlying hu, b0, hc]
  | array len e =>
    rw [hk] at h1
    have hu := hi.array hk
    cases y <;> cases x <;> first
      | exact (M.fail_eq (s := s) h1).elim
      | skip
    rename_i k m cs
    obtain ⟨j, hj, l2, h2, ho2⟩ := at_bind ht h1 ho1
    obtain ⟨⟨b0, b1⟩, l3, h3, ho3⟩ := need_bind h2 ho2
    obtain ⟨vs, rfl, hvs, hon⟩ := Rs.toArr hx
    cases hy
    by_cases ha : j.kind.agg = true
    · simp only [ha, if_true] at h3
      have h := pure_ok (s := s) h3
      subst h
      refine ⟨.agg ((vs.drop (m.toNat * j.size)).take j.size).toArray, ?_, .agg ((hon.drop _).take _) ((hvs.drop _).take _)⟩
      simp only [Instr.index, asIntOf, Sem.run_bind, Sem.run_pure, Result.andThen_ok, run_underlying hu, b0, b1, and_self, if_true, hj.sizeOf, part, hj.agg, ha, Sem.run_ite]
      congr 2
      apply Array.ext'
      simp [List.extract_eq_take_drop]
    · simp only [ha, if_false, Bool.false_eq_true] at h3
      obtain ⟨b2, l4, h4, ho4⟩ := need_bind h3 ho3
      have h := pure_ok (s := s) h4
      subst h
      have hd : cs[m.toNat * j.size]? = some (cs.getD (m.toNat * j.size) .undef) := by rw [List.getD_eq_getElem?_getD, List.getElem?_eq_getElem b2]; rfl
      obtain ⟨r, hr, hR⟩ := hvs.get hd
      refine ⟨r, ?_, hR⟩
      have ha' : j.kind.agg = false := by simpa using ha
      simp [Instr.index, asIntOf, run_underlying hu, b0, b1, hj.sizeOf, part, hj.agg, ha', hr]
  | _ => rw [hk] at h1; cases y <;> cases x <;> exact (M.fail_eq (s := s) h1).elim

/-! ### cuts -/
/-- A bound of a cut. -/
def Bd (x : Option D) (v : Option Value) : Prop := match x, v with
  | none, none => True
  | some d, some v => ∀ (k : IntKind) (m : Int), d = .int k m → v = .int k m
  | _, _ => False
theorem bound_sim {x : Option D} {v : Option Value} {m : Nat} {b : Int} {l : Log} (h : bound x m s = some (b, l)) (hb : Bd x v) : (x = none ∧ v = none ∧ b = (m : Int)) ∨ (∃ d k, x = some d ∧ v = some (.int k b)) := by
  cases x with
  | none =>
    have h := pure_ok (s := s) h
    cases v with
    | none => exact .inl ⟨rfl, rfl, h.symm⟩
    | some v => exact hb.elim
  | some d =>
    cases v with
    | none => exact hb.elim
    | some v =>
      cases d <;> first
        | exact (M.fail_eq (s := s) h).elim
        | skip
      rename_i k q
      have h := pure_ok (s := s) h
      subst h
      exact .inr ⟨_, k, rfl, by rw [hb k q rfl]⟩

theorem run_sliceBound {k : IntKind} {b : Int} {y : Nat} {c : BoundsCode} (h0 : 0 ≤ b) (h1 : b ≤ (y : Int)) : (Instr.sliceBound (.int k b) y c).run P w = .ok b.toNat w := by
  simp [Instr.sliceBound, asIntOf, h0, h1]
theorem run_sliceBounds {lo hi : Option D} {vl vh : Option Value} {is : Bool} {len cap : Nat} {h l : Int} {l1 l2 : Log} (h1 : bound hi len s = some (h, l1)) (h2 : bound lo 0 s = some (l, l2)) (bh : Bd hi vh) (bl : Bd lo vl)
    (b0 : 0 ≤ h) (b1 : h ≤ (cap : Int)) (b2 : 0 ≤ l) (b3 : l ≤ h) : (Instr.sliceBounds is len cap vl vh none).run P w = .ok (l.toNat, h.toNat, cap) w := by
  have e : ((h.toNat : Nat) : Int) = h := by omega
  rcases bound_sim h1 bh with ⟨rfl, rfl, rfl⟩ | ⟨d, k, rfl, rfl⟩ <;> rcases bound_sim h2 bl with ⟨rfl, rfl, rfl⟩ | ⟨d', k', rfl, rfl⟩
  · simp [Instr.sliceBounds]
  · simp [Instr.sliceBounds, run_sliceBound b2 b3]
  · simp [Instr.sliceBounds, run_sliceBound b0 b1]
  · have b3' : l ≤ ((h.toNat : Nat) : Int) := by omega
    simp [Instr.sliceBounds, run_sliceBound b0 b1, run_sliceBound b2 b3']
theorem run_sliceBounds3 {lo hi : Option D} {vl vh : Option Value} {m : D} {vm : Value} {len cap : Nat} {l1 l2 l3 : Log} {h l mm : Int} (h1 : bound hi 0 s = some (h, l1)) (h2 : bound lo 0 s = some (l, l2)) (h3 : bound (some m) 0 s = some (mm, l3))
    (hs : hi.isSome = true) (bh : Bd hi vh) (bl : Bd lo vl) (bm : Bd (some m) (some vm)) (e0 : h = 0) (e1 : l = 0) (e2 : mm = 0) : (Instr.sliceBounds true len cap vl vh (some vm)).run P w = .ok (0, 0, 0) w := by
  subst e0; subst e1; subst e2
  rcases bound_sim h1 bh with ⟨rfl, _⟩ | ⟨d, k, rfl, rfl⟩
  · simp at hs
  rcases bound_sim h3 bm with ⟨hh, _⟩ | ⟨d2, k2, hh, hv⟩
  · simp at hh
  obtain rfl := Option.some.inj hv
  have z : (0 : Int) ≤ ((0 : Nat) : Int) := by omega
  have zc : (0 : Int) ≤ ((cap : Nat) : Int) := by omega
  rcases bound_sim h2 bl with ⟨rfl, rfl, _⟩ | ⟨d', k', rfl, rfl⟩
  · simp [Instr.sliceBounds, run_sliceBound (Int.le_refl 0) zc, run_sliceBound (Int.le_refl 0) z]
  · simp [Instr.sliceBounds, run_sliceBound (Int.le_refl 0) zc, run_sliceBound (Int.le_refl 0) z]
theorem bound_bind {x : Option D} {m : Nat} {β : Type} {f : Int → M β} {b : β} {k : Log} (h : (bound x m >>= f) s = some (b, k)) (ho : k.ok) : ∃ i l1, bound x m s = some (i, l1) ∧ ∃ l, f i s = some (b, l) ∧ l.ok := by
  obtain ⟨i, l, l', h1, h2, h3, h4⟩ := M.bindO h ho
  exact ⟨i, l, h1, l', h2, h4⟩
theorem sliceD_sim (ht : TyOk P ty) (hr : Rel n w0 S im0 bo φ0 im φ s a w) {t : Nat} {x d : D} {lo hi mx : Option D} {v : Value} {vl vh vm : Option Value} {l : Log} (h : sliceD ty t x lo hi mx s = some (d, l)) (ho : l.ok) (hx : R im w bo φ x v)
    (bl : Bd lo vl) (bh : Bd hi vh) (bm : Bd mx vm) : ∃ r, (Instr.sliceAt t v vl vh vm).run P w = .ok r w ∧ R im w bo φ d r := by
  unfold sliceD at h
  obtain ⟨i, hi', l1, h1, ho1⟩ := at_bind ht h ho
  cases hk : i.kind with
  | string =>
    rw [hk] at h1
    have hu := hi'.string hk
    cases x <;> cases mx <;> first
      | exact (M.fail_eq (s := s) h1).elim
      | skip
    obtain ⟨hb, q1, e1, l2, h2, ho2⟩ := bound_bind h1 ho1
    obtain ⟨lb, q2, e2, l3, h3, ho3⟩ := bound_bind h2 ho2
    obtain ⟨⟨b0, b1, b2, b3⟩, l4, h4, ho4⟩ := need_bind h3 ho3
    have h := pure_ok (s := s) h4
    subst h
    cases hx
    cases vm with
    | some _ => exact bm.elim
    | none =>
    refine ⟨_, ?_, .str _⟩
    simp [Instr.sliceAt, Instr.slice, run_underlying hu, run_sliceBounds e1 e2 bh bl b0 b1 b2 b3]
  | slice e =>
    rw [hk] at h1
    have hu := hi'.slice hk
    cases mx with
    | none =>
      cases vm with
      | some _ => exact bm.elim
      | none =>
      cases x <;> first
        | exact (M.fail_eq (s := s) h1).elim
        | skip
      · obtain ⟨j, hj, l9, h9, ho9⟩ := at_bind ht h1 ho1
        obtain ⟨_, l5, h5, ho5⟩ := test_bind h9 ho9
        obtain ⟨hb, q1, e1, l2, h2, ho2⟩ := bound_bind h5 ho5
        obtain ⟨lb, q2, e2, l3, h3, ho3⟩ := bound_bind h2 ho2
        obtain ⟨mb, q3, e3, l6, h6, ho6⟩ := bound_bind h3 ho3
        obtain ⟨⟨b0, b1, b2⟩, l4, h4, ho4⟩ := need_bind h6 ho6
        have h := pure_ok (s := s) h4
        subst h
        cases hx
        have hz := run_sliceBounds (P := P) (w := w) (is := true) (cap := 0) e1 e2 bh bl (by omega) (by omega) (by omega) (by omega)
        rw [b0, b1] at hz
        exact ⟨.slice none 0 0, by simp [Instr.sliceAt, Instr.slice, run_underlying hu, hz, hj.sizeOf], .nils⟩
      · rename_i g cs len cap
        obtain ⟨j, hj, l5, h5, ho5⟩ := at_bind ht h1 ho1
        obtain ⟨hb, q1, e1, l2, h2, ho2⟩ := bound_bind h5 ho5
        obtain ⟨lb, q2, e2, l3, h3, ho3⟩ := bound_bind h2 ho2
        obtain ⟨⟨b0, b1, b2, b3, b4, b5⟩, l4, h4, ho4⟩ := need_bind h3 ho3
        have h := pure_ok (s := s) h4
        subst h
        have sub : (hb - lb).toNat = hb.toNat - lb.toNat := by omega
        rw [sub]
        cases hx with
        | sl0 ad c hac =>
          have hz := run_sliceBounds (P := P) (w := w) (is := true) (cap := c) e1 e2 bh bl b0 (by omega) b2 b3
          have z1 : hb.toNat = 0 := by omega
          have z2 : lb.toNat = 0 := by omega
          rw [z1, z2] at hz ⊢
          refine ⟨.slice (if c = 0 then ad else ad.map (·.add (0 * j.size))) 0 c, ?_, .sl0 _ _ (fun e => by by_cases h0 : c = 0; exact h0; rw [if_neg h0] at e; cases ad with | none => exact hac rfl | some _ => simp at e)⟩
          simp [Instr.sliceAt, Instr.slice, run_underlying hu, hz, hj.sizeOf]
        | sl k1 k2 k3 k4 k6 k5 =>
          rename_i cap' B o c el fz vs
          have hz := run_sliceBounds (P := P) (w := w) (is := true) (cap := cap') e1 e2 bh bl b0 (by omega) b2 b3
          by_cases hc : cap' = lb.toNat
          · rw [hc] at hz
            have z1 : hb.toNat - lb.toNat = 0 := by omega
            have z2 : cap - lb.toNat = 0 := by omega
            have z3 : cs.drop (lb.toNat * j.size) = [] := by
              apply List.drop_eq_nil_of_le
              exact Nat.le_trans b5 (Nat.mul_le_mul_right _ (by omega))
            refine ⟨.slice (some ⟨B, o, none⟩) 0 (cap' - lb.toNat), ?_, ?_⟩
            · simp [Instr.sliceAt, Instr.slice, run_underlying hu, hz, hj.sizeOf, hc, z1]
            · rw [z1, z2, z3]
              exact .sl k1 (Nat.zero_le _) k3 rfl (by simpa using Ones.nil) (by simpa using .nil)
          · refine ⟨.slice (some ⟨B, o + lb.toNat * j.size, none⟩) (hb.toNat - lb.toNat) (cap' - lb.toNat), ?_, ?_⟩
            · simp [Instr.sliceAt, Instr.slice, run_underlying hu, hz, hj.sizeOf, hc, Addr.add_none]
            · subst k4
              have e := k6.drop (lb.toNat * j.size)
              have := k5.drop (lb.toNat * j.size)
              rw [dt_drop, ← List.length_drop] at this e
              exact .sl k1 (by omega) k3 rfl e this
      · rename_i b off len cap
        obtain ⟨j, hj, l7, h7, ho7⟩ := at_bind ht h1 ho1
        obtain ⟨l8, h8, ho8⟩ := getH_bind h7 ho7
        cases hs : s.slot b with
        | none => rw [hs] at h8; exact (M.fail_eq h8).elim
        | some y =>
        cases y with
        | none => rw [hs] at h8; exact (M.fail_eq h8).elim
        | some blk =>
        rw [hs] at h8
        obtain ⟨hsz, l5, h5, ho5⟩ := test_bind h8 ho8
        obtain ⟨hb, q1, e1, l2, h2, ho2⟩ := bound_bind h5 ho5
        obtain ⟨lb, q2, e2, l3, h3, ho3⟩ := bound_bind h2 ho2
        obtain ⟨⟨b0, b1, b2, b3, b4⟩, l4, h4, ho4⟩ := need_bind h3 ho3
        have h := pure_ok (s := s) h4
        subst h
        have sub : (hb - lb).toNat = hb.toNat - lb.toNat := by omega
        rw [sub]
        cases hx with
        | ref0 a k1 =>
          have hz := run_sliceBounds (P := P) (w := w) (is := true) (cap := 0) e1 e2 bh bl b0 b1 b2 b3
          have z1 : hb.toNat = 0 := by omega
          have z2 : lb.toNat = 0 := by omega
          rw [z1, z2] at hz ⊢
          refine ⟨.slice a 0 0, ?_, by rw [Nat.zero_mul]; exact .ref0 a k1⟩
          simp [Instr.sliceAt, Instr.slice, run_underlying hu, hz, hj.sizeOf]
        | refz a k1 =>
          have hz := run_sliceBounds (P := P) (w := w) (is := true) (cap := 0) e1 e2 bh bl b0 b1 b2 b3
          have z1 : hb.toNat = 0 := by omega
          have z2 : lb.toNat = 0 := by omega
          rw [z1, z2] at hz ⊢
          refine ⟨.slice a 0 0, ?_, .refz a k1⟩
          simp [Instr.sliceAt, Instr.slice, run_underlying hu, hz, hj.sizeOf]
        | ref k1 k2 k3 =>
          rename_i cap' B base sz lim
          have hz := run_sliceBounds (P := P) (w := w) (is := true) (cap := cap') e1 e2 bh bl b0 (by omega) b2 b3
          by_cases hc : cap' = lb.toNat
          · rw [hc] at hz
            have z1 : hb.toNat - lb.toNat = 0 := by omega
            have z2 : cap - lb.toNat = 0 := by omega
            have z4 : cap' - lb.toNat = 0 := by omega
            refine ⟨.slice (some ⟨B, base + off, none⟩) 0 0, ?_, ?_⟩
            · simp [Instr.sliceAt, Instr.slice, run_underlying hu, hz, hj.sizeOf, hc, z1, z4]
            · rw [z1, z2]
              exact .refz _ k1
          · obtain ⟨pl, hp, hB⟩ := hr.own.blk _ _ hs
            rw [k1] at hp
            obtain rfl := Option.some.inj hp
            obtain ⟨_, _, _, _, _, _, z5, _⟩ := hB
            have z6 : sz = j.size := z5.trans (by simpa using hsz)
            refine ⟨.slice (some ⟨B, base + off + lb.toNat * j.size, none⟩) (hb.toNat - lb.toNat) (cap' - lb.toNat), ?_, ?_⟩
            · simp [Instr.sliceAt, Instr.slice, run_underlying hu, hz, hj.sizeOf, hc, Addr.add_none]
            · rw [Nat.add_assoc]
              refine .ref k1 (by omega) ?_
              rw [← z6]
              have z7 : lb.toNat * sz + (cap' - lb.toNat) * sz = cap' * sz := by rw [← Nat.add_mul]; congr 1; omega
              omega
    | some m =>
      cases vm with
      | none => exact bm.elim
      | some vm =>
      cases x <;> first
        | exact (M.fail_eq (s := s) h1).elim
        | skip
      · obtain ⟨j, hj, l9, h9, ho9⟩ := at_bind ht h1 ho1
        obtain ⟨hsome, l5, h5, ho5⟩ := test_bind h9 ho9
        obtain ⟨hb, q1, e1, l2, h2, ho2⟩ := bound_bind h5 ho5
        obtain ⟨lb, q2, e2, l3, h3, ho3⟩ := bound_bind h2 ho2
        obtain ⟨mb, q3, e3, l6, h6, ho6⟩ := bound_bind h3 ho3
        obtain ⟨⟨b0, b1, b2⟩, l4, h4, ho4⟩ := need_bind h6 ho6
        have h := pure_ok (s := s) h4
        subst h
        cases hx
        have hz := run_sliceBounds3 (P := P) (w := w) (len := 0) (cap := 0) e1 e2 e3 (by simpa using hsome) bh bl bm b0 b1 b2
        exact ⟨.slice none 0 0, by simp [Instr.sliceAt, Instr.slice, run_underlying hu, hz, hj.sizeOf], .nils⟩
      · obtain ⟨j, hj, l9, h9, ho9⟩ := at_bind ht h1 ho1
        obtain ⟨hsome, l5, h5, ho5⟩ := test_bind h9 ho9
        obtain ⟨hb, q1, e1, l2, h2, ho2⟩ := bound_bind h5 ho5
        obtain ⟨lb, q2, e2, l3, h3, ho3⟩ := bound_bind h2 ho2
        obtain ⟨mb, q3, e3, l6, h6, ho6⟩ := bound_bind h3 ho3
        obtain ⟨⟨b0, b1, b2⟩, l4, h4, ho4⟩ := need_bind h6 ho6
        have h := pure_ok (s := s) h4
        subst h
        have hz := fun len cap => run_sliceBounds3 (P := P) (w := w) (len := len) (cap := cap) e1 e2 e3 hsome bh bl bm b0 b1 b2
        cases hx <;> exact ⟨_, by simp [Instr.sliceAt, Instr.slice, run_underlying hu, hz, hj.sizeOf]; rfl, .z0 _⟩
      · obtain ⟨j, hj, l9, h9, ho9⟩ := at_bind ht h1 ho1
        obtain ⟨hsome, l5, h5, ho5⟩ := test_bind h9 ho9
        obtain ⟨hb, q1, e1, l2, h2, ho2⟩ := bound_bind h5 ho5
        obtain ⟨lb, q2, e2, l3, h3, ho3⟩ := bound_bind h2 ho2
        obtain ⟨mb, q3, e3, l6, h6, ho6⟩ := bound_bind h3 ho3
        obtain ⟨⟨b0, b1, b2⟩, l4, h4, ho4⟩ := need_bind h6 ho6
        have h := pure_ok (s := s) h4
        subst h
        have hz := fun len cap => run_sliceBounds3 (P := P) (w := w) (len := len) (cap := cap) e1 e2 e3 hsome bh bl bm b0 b1 b2
        cases hx <;> exact ⟨_, by simp [Instr.sliceAt, Instr.slice, run_underlying hu, hz, hj.sizeOf]; rfl, .z0 _⟩
  | _ => rw [hk] at h1; cases x <;> cases mx <;> exact (M.fail_eq (s := s) h1).elim
end
end Go.Proofs.YtmhlgpdoedbedaaGreat.Sv
