/- What is handed to a callee, and what comes back. -/
import Derived.Test.YtmhlgpdoedbedaaGreatSvN
namespace Go.Proofs.YtmhlgpdoedbedaaGreat.Sv
set_option linter.unusedVariables false
set_option linter.unusedSimpArgs false
open Go Go.RowKit

theorem idx_some {l : List Nat} {n k i : Nat} (h : idx l k n = some i) : k ≤ i ∧ l[i - k]? = some n := by
  induction l generalizing k with
  | nil => simp [idx] at h
  | cons x l ih =>
    simp only [idx] at h
    cases hx : Nat.beq x n with
    | true =>
      rw [hx] at h
      simp only [cond_true, Option.some.injEq] at h
      subst h
      exact ⟨Nat.le_refl _, by simp [Nat.eq_of_beq_eq_true hx]⟩
    | false =>
      rw [hx] at h
      obtain ⟨h1, h2⟩ := ih (k := k + 1) (by simpa using h)
      refine ⟨by omega, ?_⟩
      rw [show i - k = (i - (k + 1)) + 1 by omega]
      simpa using h2
theorem idx_none {l : List Nat} {n k : Nat} (h : (idx l k n).isNone = true) : n ∉ l := by
  induction l generalizing k with
  | nil => simp
  | cons x l ih =>
    simp only [idx] at h
    cases hx : Nat.beq x n with
    | true => rw [hx] at h; simp at h
    | false =>
      rw [hx] at h
      have h1 := ih (k := k + 1) (by simpa using h)
      intro hm
      rcases List.mem_cons.1 hm with rfl | hm
      · rw [Nat.beq_refl] at hx; simp at hx
      · exact h1 hm
theorem nodupB_get {l : List Nat} (h : nodupB l = true) {i j n : Nat} (hi : l[i]? = some n) (hj : l[j]? = some n) : i = j := by
  induction l generalizing i j with
  | nil => simp at hi
  | cons x l ih =>
    simp only [nodupB, Bool.and_eq_true] at h
    have hx := idx_none h.1
    cases i with
    | zero =>
      cases j with
      | zero => rfl
      | succ j =>
        simp only [List.getElem?_cons_zero, Option.some.injEq, List.getElem?_cons_succ] at hi hj
        subst hi
        exact absurd (List.mem_of_getElem? hj) hx
    | succ i =>
      cases j with
      | zero =>
        simp only [List.getElem?_cons_zero, Option.some.injEq, List.getElem?_cons_succ] at hi hj
        subst hj
        exact absurd (List.mem_of_getElem? hi) hx
      | succ j => simp only [List.getElem?_cons_succ] at hi hj; rw [ih h.2 hi hj]
/-- The callee's names. -/
def envOf (ρ : List Nat) (φ : Env) : Env := fun k => match ρ[k]? with | some b => φ b | none => none
theorem envOf_nil (φ : Env) : envOf [] φ = noEnv := by funext k; simp [envOf, noEnv]
/-- Blocks of the caller's own, but those that are handed on. -/
def Lent (av : List Nat) (φ : Env) (s : St) (B : Nat) : Prop := ∃ b k base sz lim, b ∉ av ∧ s.slot b = some (some k) ∧ φ b = some (.at_ B base sz lim)
def boL (bo : Nat → Prop) (av : List Nat) (φ : Env) (s : St) (t : Bool) : Nat → Prop := fun B => bo B ∨ (t = true ∧ Lent av φ s B)
section
variable {P : Program} {ty : Ty} {n : Nat} {w0 : World} {S im0 bo im : Nat → Prop} {φ0 φ : Env} {s : St} {a : Act} {w : World}
theorem boL_or1 {av : List Nat} {t u : Bool} : ∀ B, boL bo av φ s t B → boL bo av φ s (t || u) B := fun B h => h.imp id fun ⟨a, b⟩ => ⟨by simp [a], b⟩
theorem boL_or2 {av : List Nat} {t u : Bool} : ∀ B, boL bo av φ s u B → boL bo av φ s (t || u) B := fun B h => h.imp id fun ⟨a, b⟩ => ⟨by simp [a], b⟩
theorem boL_top {av : List Nat} {t : Bool} : ∀ B, boL bo av φ s t B → boL bo av φ s true B := fun B h => h.imp id fun ⟨a, b⟩ => ⟨rfl, b⟩
theorem R.lend {d : D} {v : Value} {bo' : Nat → Prop} {φ' : Env} (h : R im w bo φ d v) (hb : ∀ B, bo B → bo' B) (hp : ∀ b p, φ b = some p → φ' b = some p) : R im w bo' φ' d v := h.mono (fun _ h => h) (fun _ _ => rfl) hb hp
theorem Rs.lend {ds : List D} {vs : List Value} {bo' : Nat → Prop} {φ' : Env} (h : Rs im w bo φ ds vs) (hb : ∀ B, bo B → bo' B) (hp : ∀ b p, φ b = some p → φ' b = some p) : Rs im w bo' φ' ds vs := h.mono (fun _ h => h) (fun _ _ => rfl) hb hp
/-- A live block, read whole. -/
theorem lend_ip {off B base sz lim : Nat} {blk : Blk} {cs : List D} {bo' : Nat → Prop} {φ' : Env} (hat : BlkAt im bo φ w blk (.at_ B base sz lim)) (hB : bo' B)
    (hc : ∀ vs, Rs im w (if blk.pure then noB else bo) (if blk.pure then noEnv else φ) blk.cs vs → Rs im w bo' noEnv cs vs) (hl : cs.length = blk.cs.length) : R im w bo' φ' (.ip false (cs.drop off)) (.pointer (some ⟨B, base + off, none⟩)) := by
  obtain ⟨c, el, fz, k1, k2, k3, k4, k5, k7, k6⟩ := hat
  have h1 := (hc _ k6).drop off
  have h2 := k7.drop off
  rw [dt_drop] at h1 h2
  have e : blk.cs.length - off = (cs.drop off).length := by rw [List.length_drop, hl]
  rw [e] at h1 h2
  exact .ip (.inr ⟨rfl, hB⟩) k1 rfl h2 (by simpa using h1)
mutual
theorem hand_sim (hr : Rel n w0 S im0 bo φ0 im φ s a w) {ρ av : List Nat} (hρ : ∀ b, b ∈ ρ → b ∈ av) : ∀ (fuel : Nat) {d d' : D} {t : Bool} {v : Value} {l : Log}, hand ρ av fuel d s = some ((d', t), l) → l.ok → R im w bo φ d v → R im w (boL bo av φ s t) (envOf ρ φ) d' v
  | 0, d, d', t, v, l, h, ho, hv => (M.fail_eq (s := s) h).elim
  | fuel + 1, d, d', t, v, l, h, ho, hv => by
    have keep : ∀ {d : D} {v : Value}, R im w bo φ d v → (∀ {bo' : Nat → Prop} {φ' : Env}, (∀ B, bo B → bo' B) → R im w bo' φ' d v) → M.pure (d, false) s = some ((d', t), l) → R im w (boL bo av φ s t) (envOf ρ φ) d' v := by
      intro d v _ hk h
      have e := pure_ok (s := s) h
      simp only [Prod.mk.injEq] at e
      obtain ⟨rfl, rfl⟩ := e
      exact hk (fun B hB => .inl hB)
    cases d with
    | undef => exact keep hv (fun _ => .undef _) h
    | bool x => cases hv; exact keep (.bool _) (fun _ => .bool _) h
    | int k x => cases hv; exact keep (.int _ _) (fun _ => .int _ _) h
    | str x => cases hv; exact keep (.str _) (fun _ => .str _) h
    | nilp => cases hv; exact keep .nilp (fun _ => .nilp) h
    | nils => cases hv; exact keep .nils (fun _ => .nils) h
    | z0 => cases hv; exact keep (.z0 _) (fun _ => .z0 _) h
    | e0 => cases hv; exact keep (.e0 _ _) (fun _ => .e0 _ _) h
    | nilf => cases hv; exact keep .nilf (fun _ => .nilf) h
    | ip g cs =>
      refine keep hv (fun hb => ?_) h
      cases hv with
      | ip k1 k2 k3 ko k4 => exact .ip (k1.imp id fun ⟨a, b⟩ => ⟨a, hb _ b⟩) k2 k3 ko (k4.lend (fun B hB => by cases g <;> simp_all [noB]) (fun _ _ h => h))
    | sl g cs len cap =>
      refine keep hv (fun hb => ?_) h
      cases hv with
      | sl0 a c hac => exact .sl0 a c hac
      | sl k1 k2 k3 k4 ko k5 => exact .sl (k1.imp id fun ⟨a, b⟩ => ⟨a, hb _ b⟩) k2 k3 k4 ko (k5.lend (fun B hB => by cases g <;> simp_all [noB]) (fun _ _ h => h))
    | tup cs => exact (M.fail_eq (s := s) h).elim
    | agg cs =>
      obtain ⟨vs, rfl, hvs, hon⟩ := Rs.toArr hv
      obtain ⟨⟨r, t'⟩, l1, l2, h1, h2, ho1, ho2⟩ := M.bindO (show (hands ρ av fuel cs >>= fun x => M.pure (D.agg x.1, x.2)) s = _ from h) ho
      have e := pure_ok (s := s) h2
      simp only [Prod.mk.injEq] at e
      obtain ⟨rfl, rfl⟩ := e
      exact .agg hon (hands_sim hr hρ fuel h1 ho1 hvs)
    | fn f cs =>
      cases hv with
      | fn hvs =>
        obtain ⟨⟨r, t'⟩, l1, l2, h1, h2, ho1, ho2⟩ := M.bindO (show (hands ρ av fuel cs >>= fun x => M.pure (D.fn f x.1, x.2)) s = _ from h) ho
        have e := pure_ok (s := s) h2
        simp only [Prod.mk.injEq] at e
        obtain ⟨rfl, rfl⟩ := e
        exact .fn (hands_sim hr hρ fuel h1 ho1 hvs)
    | ptr b off =>
      cases hv with
      | ptr hp =>
      rename_i B base sz lim
      change (match idx ρ 0 b with
        | some k => M.pure (D.ptr k off, false)
        | none => (do
          test (idx av 0 b).isNone
          match ← getH b with
          | some (some blk) => (match blk.pure with
            | true => M.pure (D.ip false (blk.cs.drop off), true)
            | false => do let (r, _) ← hands [] av fuel blk.cs; M.pure (D.ip false (r.drop off), true))
          | _ => M.fail : M (D × Bool))) s = _ at h
      cases hi : idx ρ 0 b with
      | some k =>
        rw [hi] at h
        have e := pure_ok (s := s) h
        simp only [Prod.mk.injEq] at e
        obtain ⟨rfl, rfl⟩ := e
        obtain ⟨_, hk⟩ := idx_some hi
        have he : envOf ρ φ k = φ b := by
          simp only [envOf]
          rw [show ρ[k]? = some b from hk]
        exact .ptr (he.trans hp)
      | none =>
        rw [hi] at h
        obtain ⟨hav, l1, h1, ho1⟩ := test_bind h ho
        obtain ⟨l2, h2, ho2⟩ := getH_bind h1 ho1
        cases hs : s.slot b with
        | none => rw [hs] at h2; exact (M.fail_eq (s := s) h2).elim
        | some y =>
        cases y with
        | none => rw [hs] at h2; exact (M.fail_eq (s := s) h2).elim
        | some blk =>
        rw [hs] at h2
        have hat := live_at hr hs hp
        have hlent : boL bo av φ s true B := .inr ⟨rfl, b, blk, base, sz, lim, idx_none hav, hs, hp⟩
        cases hpu : blk.pure with
        | true =>
          simp only [hpu] at h2
          have e := pure_ok (s := s) h2
          simp only [Prod.mk.injEq] at e
          obtain ⟨rfl, rfl⟩ := e
          refine lend_ip hat hlent (fun vs k => ?_) rfl
          simp only [hpu, if_true] at k
          exact k.lend (fun _ h => h.elim) (fun _ _ h => h)
        | false =>
          simp only [hpu] at h2
          obtain ⟨⟨r, t'⟩, l3, l4, h3, h4, ho3, ho4⟩ := M.bindO (show (hands [] av fuel blk.cs >>= fun x => M.pure (D.ip false (x.1.drop off), true)) s = _ from h2) ho2
          have e := pure_ok (s := s) h4
          simp only [Prod.mk.injEq] at e
          obtain ⟨rfl, rfl⟩ := e
          have hl : r.length = blk.cs.length := by
            obtain ⟨c, el, fz, k1, k2, k3, k4, k5, k7, k6⟩ := hat
            simp only [hpu, Bool.false_eq_true, if_false] at k6
            have := hands_sim hr (by simp) fuel h3 ho3 k6
            exact this.length.trans k6.length.symm
          refine lend_ip hat hlent (fun vs k => ?_) hl
          simp only [hpu, Bool.false_eq_true, if_false] at k
          have := hands_sim hr (by simp) fuel h3 ho3 k
          rw [envOf_nil] at this
          exact this.lend boL_top (fun _ _ h => h)
    | ref b off len cap =>
      change (match idx ρ 0 b with
        | some k => M.pure (D.ref k off len cap, false)
        | none => (do test (idx av 0 b).isNone; let cs ← rowFrom b off; M.pure (D.sl false cs len cap, true) : M (D × Bool))) s = _ at h
      cases hi : idx ρ 0 b with
      | some k =>
        rw [hi] at h
        have e := pure_ok (s := s) h
        simp only [Prod.mk.injEq] at e
        obtain ⟨rfl, rfl⟩ := e
        obtain ⟨_, hk⟩ := idx_some hi
        have he : envOf ρ φ k = φ b := by
          simp only [envOf]
          rw [show ρ[k]? = some b from hk]
        cases hv with
        | ref0 ad hp => exact .ref0 ad (he.trans hp)
        | refz ad hp => exact .refz ad (he.trans hp)
        | ref hp k2 k3 => exact .ref (he.trans hp) k2 k3
      | none =>
        rw [hi] at h
        obtain ⟨hav, l1, h1, ho1⟩ := test_bind h ho
        obtain ⟨blk, hs, hpu, l2, h2, ho2⟩ := rowFrom_bind h1 ho1
        have e := pure_ok (s := s) h2
        simp only [Prod.mk.injEq] at e
        obtain ⟨rfl, rfl⟩ := e
        cases hv with
        | ref0 ad hp => exact .sl0 _ _ (fun _ => rfl)
        | refz ad hp => exact .sl0 _ _ (fun _ => rfl)
        | ref hp k2 k3 =>
          rename_i cap' B base sz lim
          obtain ⟨c, el, fz, j1, j2, j3, j4, j5, j7, j6⟩ := live_at hr hs hp
          simp only [hpu, if_true] at j6
          have h1 := j6.drop off
          have h2 := j7.drop off
          rw [dt_drop, ← List.length_drop] at h1 h2
          exact .sl (.inr ⟨rfl, .inr ⟨rfl, b, blk, base, sz, lim, idx_none hav, hs, hp⟩⟩) k2 j1 rfl h2 (by simpa using h1.lend (fun _ h => h.elim) (fun _ _ h => h))
theorem hands_sim (hr : Rel n w0 S im0 bo φ0 im φ s a w) {ρ av : List Nat} (hρ : ∀ b, b ∈ ρ → b ∈ av) : ∀ (fuel : Nat) {ds ds' : List D} {t : Bool} {vs : List Value} {l : Log}, hands ρ av fuel ds s = some ((ds', t), l) → l.ok → Rs im w bo φ ds vs → Rs im w (boL bo av φ s t) (envOf ρ φ) ds' vs
  | 0, ds, ds', t, vs, l, h, ho, hv => (M.fail_eq (s := s) h).elim
  | fuel + 1, [], ds', t, vs, l, h, ho, hv => by
    have e := pure_ok (s := s) h
    simp only [Prod.mk.injEq] at e
    obtain ⟨rfl, rfl⟩ := e
    cases hv
    exact .nil
  | fuel + 1, d :: ds, ds', t, vs, l, h, ho, hv => by
    cases hv with
    | cons h1 h2 =>
    obtain ⟨⟨r, t1⟩, l1, l2, g1, g2, ho1, ho2⟩ := M.bindO (show (hand ρ av fuel d >>= fun x => hands ρ av fuel ds >>= fun y => M.pure (x.1 :: y.1, x.2 || y.2)) s = _ from h) ho
    obtain ⟨⟨rs, t2⟩, l3, l4, g3, g4, ho3, ho4⟩ := M.bindO g2 ho2
    have e := pure_ok (s := s) g4
    simp only [Prod.mk.injEq] at e
    obtain ⟨rfl, rfl⟩ := e
    exact .cons ((hand_sim hr hρ fuel g1 ho1 h1).lend boL_or1 (fun _ _ h => h)) ((hands_sim hr hρ fuel g3 ho3 h2).lend boL_or2 (fun _ _ h => h))
end
end
end Go.Proofs.YtmhlgpdoedbedaaGreat.Sv
