/- A call. -/
import Derived.Test.YtmhlgpdoedbedaaGreatSvP
namespace Go.Proofs.YtmhlgpdoedbedaaGreat.Sv
set_option linter.unusedVariables false
set_option linter.unusedSimpArgs false
open Go Go.RowKit
section
variable {P : Program} {ty : Ty} {n : Nat} {w0 : World} {S im0 bo im : Nat → Prop} {φ0 φ : Env} {s : St} {a : Act} {w : World}
theorem hands_len {ρ av : List Nat} : ∀ (fuel : Nat) {ds r : List D} {t : Bool} {l : Log}, hands ρ av fuel ds s = some ((r, t), l) → r.length = ds.length
  | 0, ds, r, t, l, h => (M.fail_eq (s := s) h).elim
  | fuel + 1, [], r, t, l, h => by
    have e := pure_ok (s := s) h
    simp only [Prod.mk.injEq] at e
    obtain ⟨rfl, rfl⟩ := e
    rfl
  | fuel + 1, d :: ds, r, t, l, h => by
    obtain ⟨⟨r1, t1⟩, l1, l2, g1, g2, _⟩ := M.bind_eq (show (hand ρ av fuel d >>= fun x => hands ρ av fuel ds >>= fun y => M.pure (x.1 :: y.1, x.2 || y.2)) s = _ from h)
    obtain ⟨⟨rs, t2⟩, l3, l4, g3, g4, _⟩ := M.bind_eq g2
    have e := pure_ok (s := s) g4
    simp only [Prod.mk.injEq] at e
    obtain ⟨rfl, rfl⟩ := e
    simp [hands_len fuel g3]
/-- What is known of a block that is handed on. -/
structure HB (im bo : Nat → Prop) (φ : Env) (w : World) (s : St) (ρ : List Nat) (u : Bool) (nm : Nat) (blk' : Blk) : Prop where
  ex : ∃ blk, s.slot nm = some (some blk) ∧ blk'.pure = blk.pure ∧ blk'.sz = blk.sz ∧ blk'.cs.length = blk.cs.length ∧
    ∀ vs, Rs im w (if blk.pure then noB else bo) (if blk.pure then noEnv else φ) blk.cs vs → Rs im w (if blk.pure then noB else boL bo ρ φ s u) (if blk.pure then noEnv else envOf ρ φ) blk'.cs vs
theorem handBlks_sim (hr : Rel n w0 S im0 bo φ0 im φ s a w) {ρ : List Nat} (fuel : Nat) : ∀ {l0 : List Nat} {k : Nat} {bs : List (Nat × Blk)} {u : Bool} {l : Log}, handBlks ρ fuel l0 k s = some ((bs, u), l) → l.ok →
    (∀ j b, look bs j = some b → ∃ i nm, j = k + i ∧ l0[i]? = some nm ∧ HB im bo φ w s ρ u nm b)
  | [], k, bs, u, l, h, ho => by
    have e := pure_ok (s := s) h
    simp only [Prod.mk.injEq] at e
    obtain ⟨rfl, rfl⟩ := e
    intro j b hj
    simp [look] at hj
  | nm :: l0, k, bs, u, l, h, ho => by
    unfold handBlks at h
    obtain ⟨l1, h1, ho1⟩ := getH_bind h ho
    cases hs : s.slot nm with
    | none => rw [hs] at h1; exact (M.fail_eq (s := s) h1).elim
    | some y =>
    cases y with
    | none => rw [hs] at h1; exact (M.fail_eq (s := s) h1).elim
    | some blk =>
    rw [hs] at h1
    obtain ⟨⟨cs, t⟩, l2, l3, h2, h3, ho2, ho3⟩ := M.bindO h1 ho1
    obtain ⟨⟨bs', us⟩, l4, l5, h4, h5, ho4, ho5⟩ := M.bindO h3 ho3
    have e := pure_ok (s := s) h5
    simp only [Prod.mk.injEq] at e
    obtain ⟨rfl, rfl⟩ := e
    intro j b hj
    rw [look_cons] at hj
    split at hj
    · rename_i e
      simp only [Option.some.injEq] at hj
      subst hj
      refine ⟨0, nm, by omega, rfl, ⟨blk, hs, rfl, rfl, ?_, ?_⟩⟩
      · cases hp : blk.pure with
        | true =>
          simp only [hp] at h2
          have e := pure_ok (s := s) h2
          simp only [Prod.mk.injEq] at e
          rw [e.1]
        | false =>
          simp only [hp] at h2
          exact hands_len fuel h2
      · intro vs hvs
        cases hp : blk.pure with
        | true =>
          simp only [hp] at h2
          have e := pure_ok (s := s) h2
          simp only [Prod.mk.injEq] at e
          simp only [hp, if_true] at hvs ⊢
          rw [← e.1]
          exact hvs
        | false =>
          simp only [hp] at h2
          simp only [hp, Bool.false_eq_true, if_false] at hvs ⊢
          exact (hands_sim hr (fun _ h => h) fuel h2 ho2 hvs).lend boL_or1 (fun _ _ h => h)
    · rename_i e
      obtain ⟨i, nm', rfl, hi, ⟨blk', g1, g2, g3, g4, g5⟩⟩ := handBlks_sim hr fuel h4 ho4 j b hj
      refine ⟨i + 1, nm', by omega, by simpa using hi, ⟨blk', g1, g2, g3, g4, fun vs hvs => (g5 vs hvs).lend (fun B hB => ?_) (fun _ _ h => h)⟩⟩
      cases hp : blk'.pure with
      | true => simpa [hp] using hB
      | false => simp only [hp, Bool.false_eq_true, if_false] at hB ⊢; exact boL_or2 B hB
theorem handBlks_has {ρ : List Nat} (fuel : Nat) : ∀ {l0 : List Nat} {k : Nat} {bs : List (Nat × Blk)} {u : Bool} {l : Log}, handBlks ρ fuel l0 k s = some ((bs, u), l) → ∀ i nm, l0[i]? = some nm → (∃ b, (k + i, b) ∈ bs)
  | [], k, bs, u, l, h, i, nm, hi => by simp at hi
  | x :: l0, k, bs, u, l, h, i, nm, hi => by
    unfold handBlks at h
    obtain ⟨y, l1, l2, h1, h2, _⟩ := M.bind_eq h
    rw [getH_eq h1] at h2
    cases hs : s.slot x with
    | none => rw [hs] at h2; exact (M.fail_eq (s := s) h2).elim
    | some y =>
    cases y with
    | none => rw [hs] at h2; exact (M.fail_eq (s := s) h2).elim
    | some blk =>
    rw [hs] at h2
    obtain ⟨⟨cs, t⟩, l3, l4, h3, h4, _⟩ := M.bind_eq h2
    obtain ⟨⟨bs', us⟩, l5, l6, h5, h6, _⟩ := M.bind_eq h4
    have e := pure_ok (s := s) h6
    simp only [Prod.mk.injEq] at e
    obtain ⟨rfl, rfl⟩ := e
    cases i with
    | zero => exact ⟨_, List.mem_cons_self⟩
    | succ i =>
      obtain ⟨b, hb⟩ := handBlks_has fuel h5 i nm (by simpa using hi)
      exact ⟨b, by rw [show k + (i + 1) = k + 1 + i by omega]; exact List.mem_cons_of_mem _ hb⟩
theorem live_some {bs : List (Nat × Blk)} {b : Nat} {k : Blk} (h : live bs b = some (some k)) : look bs b = some k := by
  unfold live at h
  cases hl : look bs b with
  | none => rw [hl] at h; simp at h
  | some y => rw [hl] at h; simpa using h
/-- The callee's own blocks. -/
theorem hand_own (hr : Rel n w0 S im0 bo φ0 im φ s a w) {ρ : List Nat} {bs : List (Nat × Blk)} {u t : Bool} (hn : nodupB ρ = true) (h : ∀ j b, look bs j = some b → ∃ i nm, j = 0 + i ∧ ρ[i]? = some nm ∧ HB im bo φ w s ρ u nm b) :
    Own im (boL bo ρ φ s (t || u)) (envOf ρ φ) w (live bs) := by
  have key : ∀ b k, live bs b = some (some k) → ∃ nm, ρ[b]? = some nm ∧ envOf ρ φ b = φ nm ∧ HB im bo φ w s ρ u nm k := by
    intro b k hb
    obtain ⟨i, nm, e, h1, h2⟩ := h b k (live_some hb)
    rw [Nat.zero_add] at e
    subst e
    exact ⟨nm, h1, by simp [envOf, h1], h2⟩
  refine ⟨?_, ?_, ?_⟩
  · intro b k hb
    obtain ⟨nm, h1, h2, blk, g1, g2, g3, g4, g5⟩ := key b k hb
    obtain ⟨pl, h3, h4⟩ := hr.own.blk nm blk g1
    refine ⟨pl, h2.trans h3, ?_⟩
    cases pl with
    | nil =>
      have : blk.cs = [] := h4
      rw [this] at g4
      exact List.eq_nil_of_length_eq_zero g4
    | at_ B base sz lim =>
      obtain ⟨c, el, fz, k1, k2, k3, k4, k5, k7, k6⟩ := h4
      refine ⟨c, el, fz, k1, k2, by rw [g4]; exact k3, by rw [g3]; exact k4, k5, by rw [g4]; exact k7, ?_⟩
      have := g5 _ k6
      rw [g2, g4]
      refine this.lend (fun B hB => ?_) (fun _ _ h => h)
      cases hp : blk.pure with
      | true => simpa [hp] using hB
      | false => simp only [hp, Bool.false_eq_true, if_false] at hB ⊢; exact boL_or2 B hB
  · intro b k B base sz lim hb hp
    obtain ⟨nm, h1, h2, blk, g1, _⟩ := key b k hb
    rw [h2] at hp
    obtain ⟨o1, o2⟩ := hr.own.out nm blk B base sz lim g1 hp
    refine ⟨o1, fun hB => hB.elim o2 ?_⟩
    rintro ⟨_, c, kk, base', sz', lim', hc, hs, hq⟩
    have := hr.own.inj c nm kk blk B base' sz' lim' base sz lim hs g1 hq hp
    subst this
    exact hc (List.mem_of_getElem? h1)
  · intro b c k l B base sz lim base' sz' lim' hb hc hp hq
    obtain ⟨nm, h1, h2, blk, g1, _⟩ := key b k hb
    obtain ⟨nm', h1', h2', blk', g1', _⟩ := key c l hc
    rw [h2] at hp
    rw [h2'] at hq
    have := hr.own.inj nm nm' blk blk' B base sz lim base' sz' lim' g1 g1' hp hq
    subst this
    exact nodupB_get hn h1 h1'
theorem run_callFunc {f : FuncId} {args : Array Value} (h : Enters P f) : (callFunc f args).run P w = .ok (.enter f args) w := by
  obtain ⟨fn, h1, h2, h3⟩ := h
  simp only [callFunc, Sem.run_bind, run_program, Result.andThen_ok, h1, h2, h3, Bool.false_eq_true, if_false, Sem.run_ite, Sem.run_pure]
theorem run_call {o : Oper} {c : Call} {x : Operand} {f : FuncId} {caps : List Value} (hop : o.op = .call c) (hc : c.callee = .value x) (hx : a.eval x = .func (.func f) #[] caps.toArray) (h : Enters P f) :
    (execOp a.eval o).run P w = .ok (.enter f ((c.args.toList.map a.eval) ++ caps).toArray) w := by
  have e : ((#[] ++ c.args.map a.eval) ++ caps.toArray : Array Value) = ((c.args.toList.map a.eval) ++ caps).toArray := by
    apply Array.ext'
    simp
  simp only [execOp, hop, resolve, hc, hx, Deferred.ofValue, Sem.run_bind, Sem.run_pure, Result.andThen_ok, invoke]
  rw [e]
  exact run_callFunc h
end
end Go.Proofs.YtmhlgpdoedbedaaGreat.Sv
