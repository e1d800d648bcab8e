/- Reading memory; addresses; parts. -/
import Derived.Test.YtmhlgpdoedbedaaGreatSvE
import Derived.Laws.Cells
namespace Go.Proofs.YtmhlgpdoedbedaaGreat.Sv
set_option linter.unusedVariables false
set_option linter.unusedSimpArgs false
open Go Go.RowKit
section
variable {P : Program} {ty : Ty} {n : Nat} {w0 : World} {S im0 bo im : Nat → Prop} {φ0 φ : Env} {s : St} {a : Act} {w : World}

theorem TIOk.agg {t : Nat} {i : TI} (h : TIOk P t i) : (isAgg t).run P w = .ok i.kind.agg w := by
  obtain ⟨j, d, h1, h2, _, _, h3, _⟩ := h.info
  simp only [isAgg, Sem.run_bind, run_underlying h2, Result.andThen_ok]
  cases hi : i.kind <;> rw [hi] at h3 <;> cases d <;> simp [TK.desc] at h3 <;> simp [TK.agg]
theorem TIOk.sizeOf {t : Nat} {i : TI} (h : TIOk P t i) : (sizeOf t).run P w = .ok i.size w := by
  obtain ⟨j, d, h1, h2, h3, _, _, _⟩ := h.info
  simp [Go.sizeOf, typeInfo, h1, h3]
theorem TIOk.size {t : Nat} {i : TI} (h : TIOk P t i) : ∃ j, P.info? t = some j ∧ j.size = i.size ∧ j.bytes = i.bytes := by
  obtain ⟨j, d, h1, h2, h3, h4, _, _⟩ := h.info
  exact ⟨j, h1, h3, h4⟩
/-- What stands behind an address. -/
theorem cell_of {B o : Nat} {c : Array Value} {el : TypeId} {fz : Nat × Nat} (h : w.heap[B]? = some (.cells c el fz)) : w.cell? ⟨B, o, none⟩ = c[o]? := by
  simp [World.cell?, h]
theorem getElem?_dt {c : List Value} {o k j : Nat} {v : Value} (h : ((c.drop o).take k)[j]? = some v) : c[o + j]? = some v ∧ j < k := by
  rw [List.getElem?_take] at h
  split at h
  · rw [List.getElem?_drop] at h; exact ⟨h, by assumption⟩
  · simp at h
theorem Addr.add_none (B o j : Nat) : (⟨B, o, none⟩ : Addr).add j = ⟨B, o + j, none⟩ := by
  unfold Addr.add
  split
  · rename_i h; subst h; rfl
  · rfl
/-- The cells that an address begins, as they stand. -/
def Stands (w : World) (ad : Addr) (vs : List Value) : Prop := ∀ (j : Nat) (v : Value), vs[j]? = some v → w.cell? (ad.add j) = some v
theorem stands_blk {B base sz lim : Nat} {blk : Blk} (h : BlkAt im bo φ w blk (.at_ B base sz lim)) (off : Nat) : ∃ vs, Rs im w bo φ (blk.cs.drop off) vs ∧ Stands w ⟨B, base + off, none⟩ vs ∧ (blk.pure = true → Rs im w noB noEnv (blk.cs.drop off) vs) ∧ Ones vs := by
  obtain ⟨c, el, fz, h1, h2, h3, _, h4, h6, h5⟩ := h
  refine ⟨((c.toList.drop base).take blk.cs.length).drop off, ?_, ?_, ?_, h6.drop off⟩
  · cases hp : blk.pure with
    | false => rw [hp] at h5; exact h5.drop off
    | true => rw [hp] at h5; exact (h5.drop off).mono (fun _ h => h) (fun _ _ => rfl) (fun _ h => h.elim) (fun _ _ h => by simp [noEnv] at h)
  · intro j v hv
    rw [Addr.add_none, cell_of h1]
    rw [List.getElem?_drop] at hv
    have := (getElem?_dt hv).1
    rw [← Array.getElem?_toList, Nat.add_assoc]
    exact this
  · intro hp
    rw [hp] at h5
    exact h5.drop off
theorem Rs.unlent {g : Bool} {cs : List D} {vs : List Value} (h : Rs im w (if g then noB else bo) noEnv cs vs) : Rs im w bo φ cs vs :=
  h.mono (fun _ h => h) (fun _ _ => rfl) (fun _ h => by cases g <;> simp_all [noB]) (fun _ _ h => by simp [noEnv] at h)
theorem stands_im {B o : Nat} {c : Array Value} {el : TypeId} {fz : Nat × Nat} {k : Nat} {vs : List Value} (h1 : w.heap[B]? = some (.cells c el fz)) (h2 : (c.toList.drop o).take k = vs) : Stands w ⟨B, o, none⟩ vs := by
  subst h2
  intro j v hv
  rw [Addr.add_none, cell_of h1, ← Array.getElem?_toList]
  exact (getElem?_dt hv).1
theorem behind_sim (hr : Rel n w0 S im0 bo φ0 im φ s a w) {x : D} {v : Value} {cs : List D} {l : Log} (h : behind x s = some (cs, l)) (ho : l.ok) (hx : R im w bo φ x v) :
    ∃ ad vs, v = .pointer (some ad) ∧ Rs im w bo φ cs vs ∧ Stands w ad vs ∧ Ones vs := by
  unfold behind at h
  split at h
  · rename_i b off
    obtain ⟨l', h, ho⟩ := getH_bind h ho
    cases hb : s.slot b with
    | none => rw [hb] at h; exact (M.fail_eq h).elim
    | some y =>
    cases y with
    | none => rw [hb] at h; exact (M.fail_eq h).elim
    | some blk =>
      rw [hb] at h
      have h := pure_ok h
      subst h
      cases hx with
      | ptr hp =>
        obtain ⟨pl, hq, hb⟩ := hr.own.blk _ _ hb
        rw [hp] at hq
        obtain rfl := Option.some.inj hq
        obtain ⟨vs, h1, h2, _, h3⟩ := stands_blk hb off
        exact ⟨_, vs, rfl, h1, h2, h3⟩
  · rename_i g cs'
    have h := pure_ok h
    subst h
    cases hx with
    | ip h1 h2 h3 o h4 => exact ⟨_, _, rfl, h4.unlent, stands_im h2 h3, o⟩
  · exact (M.fail_eq h).elim
theorem run_loadCells_take {ad : Addr} {vs : List Value} (h : Stands w ad vs) {k : Nat} (hk : k ≤ vs.length) : (loadCells ad k).run P w = .ok (vs.take k).toArray w := by
  have := run_loadCells_list (P := P) w ad (vs.take k) (fun j v hv => h j v (by rw [List.getElem?_take] at hv; split at hv <;> simp_all))
  rwa [List.length_take, Nat.min_eq_left hk] at this
theorem loadD_sim (ht : TyOk P ty) (hr : Rel n w0 S im0 bo φ0 im φ s a w) {t : Nat} {x d : D} {v : Value} {l : Log} {sym : Bool} (h : loadD ty t x sym s = some (d, l)) (ho : l.ok) (hx : R im w bo φ x v) :
    ∃ r, (Instr.loadAt t v).run P w = .ok r w ∧ R im w bo φ d r := by
  unfold loadD at h
  obtain ⟨i, hi, l', h, ho⟩ := at_bind ht h ho
  obtain ⟨cs, l1, l2, h1, h, ho1, ho⟩ := M.bindO h ho
  obtain ⟨ad, vs, hv, hcs, hst, hon⟩ := behind_sim hr h1 ho1 hx
  clear hx
  subst hv
  split at h
  · rename_i hk
    obtain ⟨hn, l', h, ho⟩ := ask_bind h ho
    have h := pure_ok h
    subst h
    refine ⟨.agg (vs.take i.size).toArray, ?_, .agg (hon.take _) (hcs.take _)⟩
    simp only [Instr.loadAt, Instr.sureAddr, loadVar, Sem.run_bind, Sem.run_pure, Result.andThen_ok, hi.agg, hk, if_true, hi.sizeOf]
    rw [run_loadCells_take hst (by rw [← hcs.length]; exact hn)]
    rfl
  · rename_i hk
    split at h
    · obtain ⟨hn, l', h, ho⟩ := need_bind h ho
      have h := pure_ok h
      subst h
      cases hcs with
      | nil => exact absurd rfl hn
      | cons k1 k2 =>
        refine ⟨_, ?_, k1⟩
        have hc := hst 0 _ rfl
        have e : ad.add 0 = ad := by simp [Addr.add]
        rw [e] at hc
        have hk' : i.kind.agg = false := by simpa using hk
        simp [Instr.loadAt, Instr.sureAddr, loadVar, hi.agg, hk', hc]
    split at h
    · rename_i d' ds
      have h := pure_ok h
      subst h
      cases hcs with
      | cons h1 h2 =>
        refine ⟨_, ?_, h1⟩
        have hc := hst 0 _ rfl
        have e : ad.add 0 = ad := by simp [Addr.add]
        rw [e] at hc
        have hk' : i.kind.agg = false := by simpa using hk
        simp [Instr.loadAt, Instr.sureAddr, loadVar, hi.agg, hk', hc]
    · exact (M.fail_eq h).elim
theorem fieldsOf_bind (ht : TyOk P ty) {t : Nat} {β : Type} {f : List (Nat × Nat) → M β} {b : β} {k : Log} (h : (fieldsOf ty t >>= f) s = some (b, k)) (ho : k.ok) :
    ∃ i fs, TIOk P t i ∧ i.kind = .struct fs ∧ ∃ l, f fs s = some (b, l) ∧ l.ok := by
  obtain ⟨fs, l1, l2, h1, h2, ho1, ho2⟩ := M.bindO h ho
  unfold fieldsOf at h1
  obtain ⟨i, hi, l', h1, ho1⟩ := at_bind ht h1 ho1
  cases hk : i.kind with
  | struct gs =>
    rw [hk] at h1
    have h1 := pure_ok h1
    subst h1
    exact ⟨i, _, hi, hk, l2, h2, ho2⟩
  | _ => rw [hk] at h1; exact (M.fail_eq h1).elim
theorem TIOk.fields {t : Nat} {i : TI} (h : TIOk P t i) {fs : List (Nat × Nat)} (hk : i.kind = .struct fs) : ∃ gs, P.underlying t = some (.struct gs) ∧ fs = gs.toList.map fun f => (f.offset, f.type) := by
  obtain ⟨j, d, h1, h2, _, _, h3, _⟩ := h.info
  rw [hk] at h3
  cases d <;> simp [TK.desc] at h3
  exact ⟨_, h2, h3⟩
theorem fieldAddrD_sim (ht : TyOk P ty) {t k : Nat} {x d : D} {v : Value} {l : Log} (h : fieldAddrD ty t x k s = some (d, l)) (ho : l.ok) (hx : R im w bo φ x v) :
    ∃ r, (Instr.fieldAt t v k).run P w = .ok r w ∧ R im w bo φ d r := by
  unfold fieldAddrD at h
  obtain ⟨i, fs, hi, hk, l1, h1, ho1⟩ := fieldsOf_bind ht h ho
  obtain ⟨gs, hu, hfs⟩ := hi.fields hk
  subst hfs
  obtain ⟨p, hf, l2, h2, ho2⟩ := lift_bind h1 ho1
  rw [List.getElem?_map, Option.map_eq_some_iff] at hf
  obtain ⟨g, hg, he⟩ := hf
  subst he
  have hg' : gs[k]? = some g := by rwa [Array.getElem?_toList] at hg
  obtain ⟨j, hj, l3, h3, ho3⟩ := at_bind ht h2 ho2
  clear h h1 h2 ho ho1 ho2
  obtain ⟨hz, l4, h4, ho4⟩ := test_bind h3 ho3
  clear h3 ho3
  have hz' : ¬ j.size = 0 := by intro e; simp [e] at hz
  have hrun : ∀ ad, (Instr.fieldAt t (.pointer (some ad)) k).run P w = .ok (.pointer (some (ad.add g.offset))) w := by
    intro ad
    simp [Instr.fieldAt, run_underlying hu, hg', Instr.sureAddr, fieldPlace, hj.sizeOf, hz']
  cases x <;> first
    | exact (M.fail_eq (s := s) h4).elim
    | skip
  · have h := pure_ok (s := s) h4
    subst h
    cases hx with
    | ptr hp =>
      refine ⟨_, hrun _, ?_⟩
      rw [Addr.add_none, Nat.add_assoc]
      exact .ptr hp
  · have h := pure_ok (s := s) h4
    subst h
    cases hx with
    | ip k1 k2 k3 k5 k4 =>
      refine ⟨_, hrun _, ?_⟩
      rw [Addr.add_none]
      subst k3
      have e := k5.drop g.offset
      have := k4.drop g.offset
      rw [List.drop_take, List.drop_drop, ← List.length_drop] at this e
      exact .ip k1 k2 rfl e this
theorem fieldD_sim (ht : TyOk P ty) {t k : Nat} {x d : D} {v : Value} {l : Log} (h : fieldD ty t x k s = some (d, l)) (ho : l.ok) (hx : R im w bo φ x v) :
    ∃ r, (Instr.field t v k).run P w = .ok r w ∧ R im w bo φ d r := by
  unfold fieldD at h
  obtain ⟨i, fs, hi, hk, l1, h1, ho1⟩ := fieldsOf_bind ht h ho
  obtain ⟨gs, hu, hfs⟩ := hi.fields hk
  subst hfs
  obtain ⟨p, hf, l2, h2, ho2⟩ := lift_bind h1 ho1
  rw [List.getElem?_map, Option.map_eq_some_iff] at hf
  obtain ⟨g, hg, he⟩ := hf
  subst he
  have hg' : gs[k]? = some g := by rwa [Array.getElem?_toList] at hg
  obtain ⟨j, hj, l3, h3, ho3⟩ := at_bind ht h2 ho2
  clear h h1 h2 ho ho1 ho2
  cases x <;> first
    | exact (M.fail_eq (s := s) h3).elim
    | skip
  · rename_i cs
    obtain ⟨vs, rfl, hvs, hon⟩ := Rs.toArr hx
    dsimp only at h3
    split at h3
    · rename_i ha
      have h := pure_ok h3
      subst h
      refine ⟨.agg ((vs.drop g.offset).take j.size).toArray, ?_, .agg ((hon.drop _).take _) ((hvs.drop _).take _)⟩
      simp only [Instr.field, Sem.run_bind, run_underlying hu, Result.andThen_ok, hg', asAgg, part, hj.agg, ha, if_true, hj.sizeOf, Sem.run_pure, Sem.run_ite]
      congr 2
      apply Array.ext'
      simp [List.extract_eq_take_drop]
    · rename_i ha
      obtain ⟨hd, _⟩ := lift_eq h3
      obtain ⟨u, hu', hR⟩ := hvs.get hd
      refine ⟨u, ?_, hR⟩
      have ha' : j.kind.agg = false := by simpa using ha
      simp [Instr.field, run_underlying hu, hg', asAgg, part, hj.agg, ha', hu']
end
end Go.Proofs.YtmhlgpdoedbedaaGreat.Sv
