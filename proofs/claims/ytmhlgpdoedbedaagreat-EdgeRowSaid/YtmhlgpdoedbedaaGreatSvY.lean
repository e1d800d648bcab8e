/- Forgetting; the beginning and the end of a function. -/
import Derived.Test.YtmhlgpdoedbedaaGreatSvX
namespace Go.Proofs.YtmhlgpdoedbedaaGreat.Sv
set_option linter.unusedVariables false
set_option linter.unusedSimpArgs false
open Go Go.RowKit
theorem nodupB_mem2 {kh : List (Nat × Nat)} (h : nodupB (kh.map (·.2)) = true) {a b x : Nat} (ha : (a, x) ∈ kh) (hb : (b, x) ∈ kh) : a = b := by
  obtain ⟨i, hi⟩ := List.getElem?_of_mem ha
  obtain ⟨j, hj⟩ := List.getElem?_of_mem hb
  have := nodupB_get h (i := i) (j := j) (n := x) (by rw [List.getElem?_map, hi]; rfl) (by rw [List.getElem?_map, hj]; rfl)
  subst this
  rw [hi] at hj
  simpa using hj
theorem look_map1 {α : Type} (f : Nat → α) : ∀ (kt : List Nat) (t : Nat), look (kt.map fun t => (t, f t)) t = if t ∈ kt then some (f t) else none
  | [], t => by simp [look]
  | k :: kt, t => by
    rw [List.map_cons, look_cons, look_map1 f kt t]
    by_cases h : k = t
    · subst h; simp
    · rw [if_neg h]
      by_cases h' : t ∈ kt
      · rw [if_pos h', if_pos (List.mem_cons_of_mem _ h')]
      · rw [if_neg h', if_neg (by simp [h', Ne.symm h])]
theorem look_map2 {α : Type} (f : Nat → α) : ∀ {kh : List (Nat × Nat)}, nodupB (kh.map (·.2)) = true → ∀ b, look (kh.map fun p => (p.2, f p.1)) b = match kh.find? (fun p => Nat.beq p.2 b) with | some p => some (f p.1) | none => none
  | [], h, b => by simp [look]
  | (x, y) :: kh, h, b => by
    simp only [List.map_cons, nodupB, Bool.and_eq_true] at h
    rw [List.map_cons, look_cons, List.find?_cons, look_map2 f h.2 b]
    by_cases e : y = b
    · subst e; simp
    · have : Nat.beq y b = false := by
        cases hb : Nat.beq y b with
        | false => rfl
        | true => exact absurd (Nat.eq_of_beq_eq_true hb) e
      rw [if_neg e, this]
theorem mapL_len (ρ : Nat → Nat) : ∀ (ds : List D), (mapL ρ ds).length = ds.length
  | [] => rfl
  | d :: ds => by simp [mapL, mapL_len ρ ds]
theorem Blk.map_len (ρ : Nat → Nat) (b : Blk) : (b.map ρ).cs.length = b.cs.length := by
  unfold Blk.map
  cases hp : b.pure <;> simp [mapL_len]
theorem BlkAt.mapIn {im bo : Nat → Prop} {φ φ' : Env} {w : World} {blk : Blk} {pl : Pl} {ρ : Nat → Nat} {ks : List Nat} (hp : ∀ b, b ∈ ks → ∀ p, φ b = some p → φ' (ρ b) = some p) (h : BlkAt im bo φ w blk pl) (hk : (blk.pure || inns ks blk.cs) = true) : BlkAt im bo φ' w (blk.map ρ) pl := by
  cases pl with
  | nil =>
    have hc : blk.cs = [] := h
    show (blk.map ρ).cs = []
    exact List.eq_nil_of_length_eq_zero (by rw [Blk.map_len, hc]; rfl)
  | at_ B base sz lim =>
    obtain ⟨c, el, fz, k1, k2, k3, k4, k5, k7, k6⟩ := h
    refine ⟨c, el, fz, k1, k2, by rw [Blk.map_len]; exact k3, k4, k5, by rw [Blk.map_len]; exact k7, ?_⟩
    rw [Blk.map_len]
    cases hpu : blk.pure with
    | true =>
      simp only [hpu, if_true] at k6
      simpa [Blk.map, hpu] using k6
    | false =>
      simp only [hpu, Bool.false_eq_true, if_false] at k6
      have := k6.mapIn hp (by simpa [hpu] using hk)
      simpa [Blk.map, hpu] using this
section
variable {c : Cx}
theorem Cx.Goes.prune {kt : List Nat} {kh : List (Nat × Nat)} {K : List Item} {s s' : St} (h : Sv.prune kt kh s = some s') (hn : c.Goes K s') : c.Goes K s := by
  unfold Sv.prune at h
  simp only at h
  rw [Bool.cond_eq_ite] at h
  split at h <;> rename_i hc
  rotate_left
  · simp at h
  simp only [Option.some.injEq] at h
  subst h
  intro im φ a w hr b cs hf hk
  refine hn im (fun b' => match kh.find? (fun p => Nat.beq p.2 b') with | some p => φ p.1 | none => none) a w ?_ b cs hf hk
  simp only [Bool.and_eq_true] at hc
  obtain ⟨⟨⟨⟨c1, c2⟩, c3⟩, c4⟩, c5⟩ := hc
  have hlook : ∀ x y, (x, y) ∈ kh → look kh x = some y := by
    intro x y hm
    obtain ⟨z, hz⟩ := mem_look hm
    obtain ⟨i, hi⟩ := List.getElem?_of_mem hm
    obtain ⟨j, hj⟩ := List.getElem?_of_mem (look_mem hz)
    have := nodupB_get c1 (i := i) (j := j) (n := x) (by rw [List.getElem?_map, hi]; rfl) (by rw [List.getElem?_map, hj]; rfl)
    subst this
    rw [hi] at hj
    simp only [Option.some.injEq, Prod.mk.injEq, true_and] at hj
    rw [hz, hj]
  have hfind : ∀ x y, (x, y) ∈ kh → kh.find? (fun p => Nat.beq p.2 y) = some (x, y) := by
    intro x y hm
    cases hfd : kh.find? (fun p => Nat.beq p.2 y) with
    | none =>
      rw [List.find?_eq_none] at hfd
      exact absurd (Nat.beq_refl y) (hfd _ hm)
    | some p =>
      obtain ⟨x', y'⟩ := p
      have h1 := List.mem_of_find?_eq_some hfd
      have h2 := Nat.eq_of_beq_eq_true (List.find?_some (p := fun p : Nat × Nat => Nat.beq p.2 y) hfd)
      simp only at h2
      subst h2
      rw [nodupB_mem2 c2 h1 hm]
  have hmap : ∀ x, x ∈ kh.map (·.1) → ∀ p, φ x = some p → (match kh.find? (fun p => Nat.beq p.2 ((look kh x).getD x)) with | some p => φ p.1 | none => none) = some p := by
    intro x hx p hp
    obtain ⟨⟨x', y⟩, hm, rfl⟩ := List.mem_map.1 hx
    rw [hlook _ _ hm]
    simp only [Option.getD_some]
    rw [hfind _ _ hm]
    exact hp
  have hslot : ∀ y k, look (kh.map fun p => (p.2, slotMap (fun b => (look kh b).getD b) s p.1)) y = some (some k) → ∃ x blk, (x, y) ∈ kh ∧ s.slot x = some (some blk) ∧ k = blk.map (fun b => (look kh b).getD b) := by
    intro y k hy
    rw [look_map2 (slotMap (fun b => (look kh b).getD b) s) c2] at hy
    cases hfd : kh.find? (fun p => Nat.beq p.2 y) with
    | none => rw [hfd] at hy; simp at hy
    | some p =>
      obtain ⟨x, y'⟩ := p
      have h1 := List.mem_of_find?_eq_some hfd
      have h2 := Nat.eq_of_beq_eq_true (List.find?_some (p := fun p : Nat × Nat => Nat.beq p.2 y) hfd)
      simp only at h2
      subst h2
      rw [hfd] at hy
      simp only [Option.some.injEq] at hy
      unfold slotMap at hy
      cases hs : s.slot x with
      | none => rw [hs] at hy; simp at hy
      | some z =>
        cases z with
        | none => rw [hs] at hy; simp at hy
        | some blk =>
          rw [hs] at hy
          simp only [Option.some.injEq] at hy
          exact ⟨x, blk, h1, hs, hy.symm⟩
  have hin : ∀ x y blk, (x, y) ∈ kh → s.slot x = some (some blk) → (blk.pure || inns (kh.map (·.1)) blk.cs) = true := by
    intro x y blk hm hs
    have := List.all_eq_true.1 c4 x (List.mem_map.2 ⟨_, hm, rfl⟩)
    rw [hs] at this
    exact this
  refine { hr with tmp := ?_, own := ⟨?_, ?_, ?_⟩, owo := ?_, dom := ?_, arg := ?_ }
  · intro t
    show Sv.R im w c.bo _ ((look (kt.map fun t => (t, (s.tmp t).map fun b => (look kh b).getD b)) t).getD .undef) _
    rw [look_map1 (fun t => (s.tmp t).map fun b => (look kh b).getD b)]
    split
    · rename_i ht
      exact (hr.tmp t).mapIn hmap (List.all_eq_true.1 c3 t ht)
    · exact .undef _
  · intro y k hs
    obtain ⟨x, blk, hm, h1, rfl⟩ := hslot y k hs
    obtain ⟨pl, h2, h3⟩ := hr.own.blk x blk h1
    refine ⟨pl, ?_, h3.mapIn hmap (hin x y blk hm h1)⟩
    rw [hfind _ _ hm]
    exact h2
  · intro y k B base sz lim hs hp
    obtain ⟨x, blk, hm, h1, rfl⟩ := hslot y k hs
    rw [hfind _ _ hm] at hp
    exact hr.own.out x blk B base sz lim h1 hp
  · intro y y' k k' B b1 s1 l1 b2 s2 l2 hs hs' hp hp'
    obtain ⟨x, blk, hm, h1, rfl⟩ := hslot y k hs
    obtain ⟨x', blk', hm', h1', rfl⟩ := hslot y' k' hs'
    rw [hfind _ _ hm] at hp
    rw [hfind _ _ hm'] at hp'
    have := hr.own.inj _ _ _ _ _ _ _ _ _ _ _ h1 h1' hp hp'
    subst this
    have e1 := hlook _ _ hm
    rw [hlook _ _ hm'] at e1
    exact (Option.some.inj e1).symm
  · intro y k B base sz lim hs hp
    obtain ⟨x, blk, hm, h1, rfl⟩ := hslot y k hs
    rw [hfind _ _ hm] at hp
    exact hr.owo x blk B base sz lim h1 hp
  · intro y hs
    have h2 : look (kh.map fun p => (p.2, slotMap (fun b => (look kh b).getD b) s p.1)) y = none := hs
    rw [look_map2 (slotMap (fun b => (look kh b).getD b) s) c2] at h2
    cases hfd : kh.find? (fun p => Nat.beq p.2 y) with
    | none => rfl
    | some p => rw [hfd] at h2; simp at h2
  · intro b' p hb
    have hlt := c.a0 b' p hb
    have hφ := hr.arg b' p hb
    have hs : s.slot b' ≠ none := fun e => by rw [hr.dom b' e] at hφ; simp at hφ
    cases hsl : s.slot b' with
    | none => exact absurd hsl hs
    | some z =>
      have := List.all_eq_true.1 c5 (b', z) (look_mem hsl)
      simp only [Nat.ble_eq_true_of_le (show b' + 1 ≤ 100 by omega), Bool.not_true, Bool.false_or] at this
      have e := Nat.eq_of_beq_eq_true this
      cases hl : look kh b' with
      | none => rw [hl] at e; simp at e; omega
      | some y =>
        rw [hl] at e
        simp only [Option.getD_some] at e
        subst e
        rw [hfind _ _ (look_mem hl)]
        exact hφ
/-! ### the end -/
def resD (ty : Ty) : List ResultVar → M (List D)
  | [] => M.pure []
  | .tmp t :: r => do
    let d ← getT t
    let ds ← resD ty r
    M.pure (d :: ds)
  | .cell a t :: r => do
    let x ← getT a
    let d ← loadD ty t x false
    let ds ← resD ty r
    M.pure (d :: ds)
def oneD : List D → D
  | [d] => d
  | ds => .tup ds
def resOf (tmps : Array Value) : ResultVar → Sem Value
  | .tmp t => pure (tmps.getD t Go.undef)
  | .cell x t => do loadVar t (← asAddr (tmps.getD x Go.undef))
theorem results_eq (fn : Func) (tmps : Array Value) : results fn tmps = (fn.results.mapM (resOf tmps) >>= fun vs => pure (if h : vs.size = 1 then vs[0] else .tuple vs)) := rfl
theorem resD_sim {P : Program} {ty : Ty} {n : Nat} {w0 : World} {S im0 bo im : Nat → Prop} {φ0 φ : Env} {s : St} {a : Act} {w : World} (ht : TyOk P ty) (hr : Rel n w0 S im0 bo φ0 im φ s a w) : ∀ {rs : List ResultVar} {ds : List D} {l : Log}, resD ty rs s = some (ds, l) → l.ok →
    ∃ vs, (rs.mapM (m := Sem) (resOf a.tmps)).run P w = .ok vs w ∧ Rs im w bo φ ds vs
  | [], ds, l, h, ho => by
    have e := pure_ok (s := s) h
    subst e
    exact ⟨[], by simp, .nil⟩
  | .tmp t :: r, ds, l, h, ho => by
    obtain ⟨d, l1, l2, h1, h2, ho1, ho2⟩ := M.bindO h ho
    obtain ⟨es, l3, l4, h3, h4, ho3, ho4⟩ := M.bindO h2 ho2
    have e := pure_ok (s := s) h4
    subst e
    obtain ⟨vs, hv, hR⟩ := resD_sim ht hr h3 ho3
    refine ⟨a.tmps.getD t Go.undef :: vs, ?_, .cons (by rw [getT_eq h1]; exact hr.tmp t) hR⟩
    rw [List.mapM_cons]
    simp only [resOf, Sem.run_bind, Sem.run_pure, Result.andThen_ok]
    simp only [hv, Sem.run_pure, Result.andThen_ok]
  | .cell x t :: r, ds, l, h, ho => by
    obtain ⟨d0, l0, l00, h0, h00, _, ho00⟩ := M.bindO h ho
    obtain ⟨d, l1, l2, h1, h2, ho1, ho2⟩ := M.bindO h00 ho00
    obtain ⟨es, l3, l4, h3, h4, ho3, ho4⟩ := M.bindO h2 ho2
    have e := pure_ok (s := s) h4
    subst e
    obtain ⟨vs, hv, hR⟩ := resD_sim ht hr h3 ho3
    have hx := hr.tmp x
    rw [← getT_eq h0] at hx
    obtain ⟨v, hrun, hv2⟩ := loadD_sim ht hr h1 ho1 hx
    have hp : ∃ ad, a.tmps.getD x Go.undef = .pointer (some ad) := by
      have hh := h1
      unfold loadD at hh
      obtain ⟨i, _, q, hh, hoh⟩ := at_bind ht hh ho1
      obtain ⟨cs, q1, q2, hh1, hh2, hoh1, _⟩ := M.bindO hh hoh
      obtain ⟨ad, _, e, _⟩ := behind_sim hr hh1 hoh1 hx
      exact ⟨ad, e⟩
    obtain ⟨ad, hp⟩ := hp
    refine ⟨v :: vs, ?_, .cons hv2 hR⟩
    rw [hp] at hrun
    have hrun' : (loadVar t ad).run P w = .ok v w := by simpa [Instr.loadAt, Instr.sureAddr] using hrun
    rw [List.mapM_cons]
    have hp' : (asAddr (a.tmps.getD x Go.undef)).run P w = .ok ad w := by rw [hp]; rfl
    have e1 : (resOf a.tmps (.cell x t)).run P w = .ok v w := by
      show (asAddr (a.tmps.getD x Go.undef) >>= fun q => loadVar t q).run P w = _
      rw [Sem.run_bind, hp']
      exact hrun'
    simp only [Sem.run_bind, e1, Result.andThen_ok, hv, Sem.run_pure]
theorem results_sim {P : Program} {ty : Ty} {n : Nat} {w0 : World} {S im0 bo im : Nat → Prop} {φ0 φ : Env} {s : St} {a : Act} {w : World} (ht : TyOk P ty) (hr : Rel n w0 S im0 bo φ0 im φ s a w) {fn : Func} {ds : List D} {l : Log} (h : resD ty fn.results.toList s = some (ds, l)) (ho : l.ok) :
    ∃ v, (results fn a.tmps).run P w = .ok v w ∧ R im w bo φ (oneD ds) v := by
  obtain ⟨vs, hv, hR⟩ := resD_sim ht hr h ho
  have hm : (fn.results.mapM (resOf a.tmps)).run P w = .ok vs.toArray w := by
    rw [Array.mapM_eq_mapM_toList]
    rw [Sem.run_map, hv]
    rfl
  by_cases h1 : ∃ d, ds = [d]
  · obtain ⟨d, rfl⟩ := h1
    cases hR with
    | cons k1 k2 =>
      cases k2
      refine ⟨_, ?_, k1⟩
      rw [results_eq, Sem.run_bind, hm]
      rfl
  · have e : oneD ds = .tup ds := by
      match ds, h1 with
      | [], _ => rfl
      | [d], h1 => exact absurd ⟨d, rfl⟩ h1
      | _ :: _ :: _, _ => rfl
    refine ⟨.tuple vs.toArray, ?_, by rw [e]; exact .tup hR⟩
    rw [results_eq, Sem.run_bind, hm, Result.andThen_ok]
    rw [dif_neg]
    · rfl
    · intro hs
      apply h1
      have hl := hR.length
      have : vs.length = 1 := by simpa using hs
      rw [this] at hl
      exact List.length_eq_one_iff.1 hl
theorem Cx.Goes.ret0 {K : List Item} {s : St} {fn : Func} (hf : c.P.funcs[c.f]? = some fn) (hK : K = [] ∨ ∃ k, K = .code .ret :: k) {ds : List D} {l : Log} (h : resD c.ty fn.results.toList s = some (ds, l)) (ho : l.ok)
    (hR : ∀ im φ a w v, c.Rel im φ s a w → Sv.R im w c.bo φ (oneD ds) v → c.R (.returned v) w) : c.Goes K s := by
  intro im φ a w hr b cs hfn hk
  obtain ⟨v, hv, hR'⟩ := results_sim c.ok hr h ho
  rcases hK with rfl | ⟨k, rfl⟩
  · refine ⟨.returned v, w, { b.at a [] with mode := .returning }, hR im φ a w v hr hR', .one step_end, hfn, rfl, hr.defers, hk, fn, ?_, hv⟩
    show c.P.funcs[b.fn]? = some fn
    rw [hfn]; exact hf
  · refine ⟨.returned v, w, { b.at a (.code .ret :: k) with mode := .returning }, hR im φ a w v hr hR', .one step_ret, hfn, rfl, hr.defers, hk, fn, ?_, hv⟩
    show c.P.funcs[b.fn]? = some fn
    rw [hfn]; exact hf
end
end Go.Proofs.YtmhlgpdoedbedaaGreat.Sv
