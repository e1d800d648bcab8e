/- A function's body, step by step. -/
import Derived.Test.YtmhlgpdoedbedaaGreatSvV
namespace Go.Proofs.YtmhlgpdoedbedaaGreat.Sv
set_option linter.unusedVariables false
set_option linter.unusedSimpArgs false
open Go Go.RowKit
/-- What stays while a function's body runs. -/
structure Cx where
  P : Program
  ty : Ty
  f : FuncId
  n : Nat
  w0 : World
  S : Nat → Prop
  im0 : Nat → Prop
  bo : Nat → Prop
  φ0 : Env
  R : Ending → World → Prop
  ok : TyOk P ty
  mix : P.follows .mixedOrders = true
  a0 : ∀ b p, φ0 b = some p → b < 100
abbrev Cx.Rel (c : Cx) (im : Nat → Prop) (φ : Env) (s : St) (a : Act) (w : World) : Prop := Sv.Rel c.n c.w0 c.S c.im0 c.bo c.φ0 im φ s a w
/-- From these items on, with this state, the function comes to what is asked. -/
def Cx.Goes (c : Cx) (K : List Item) (s : St) : Prop := ∀ im φ a w, c.Rel im φ s a w → ∀ (b : Frame) (cs : List Frame), b.fn = c.f → b.kind = .normal →
  ∃ e w' fr, c.R e w' ∧ Comes c.P (lone (b.at a K) cs w) (lone fr cs w') e ∧ fr.fn = c.f ∧ fr.leaving c.P w' e
def adv1 (P : Program) (ty : Ty) (n : Nat) (orc : List (Nat × List (Nat × Out))) (K : List Item) (s : St) : Option (List Item × St × List Prop) :=
  match K with
  | .code .skip :: k => some (k, s, [])
  | .code (.label _) :: k => some (k, s, [])
  | .inBlock _ :: k => some (k, s, [])
  | .code (.seq a b) :: k => some (.code a :: .code b :: k, s, [])
  | .code (.block id c) :: k => some (.code c :: .inBlock id :: k, s, [])
  | .code (.loop c) :: k => some (.code c :: .inLoop c :: k, s, [])
  | .inLoop c :: k => some (.code c :: .inLoop c :: k, s, [])
  | .code (.exit id) :: k => match exitTo id k with | some k' => some (k', s, []) | none => none
  | .code (.cond c x y) :: k => match ev c s with
    | some (.bool true, _) => some (.code x :: k, s, [])
    | some (.bool false, _) => some (.code y :: k, s, [])
    | _ => none
  | .code (.region id ops draw) :: k => match regionD P ty n ops draw ((look orc id).getD []) s with
    | some (s', os) => some (k, s', os)
    | none => none
  | _ => none
def adv (P : Program) (ty : Ty) (n : Nat) (orc : List (Nat × List (Nat × Out))) : Nat → List Item → St → Option (List Item × St × List Prop)
  | 0, K, s => some (K, s, [])
  | m + 1, K, s => match adv1 P ty n orc K s with
    | none => none
    | some (K', s', os) => match adv P ty n orc m K' s' with
      | none => none
      | some (K'', s'', os') => some (K'', s'', os ++ os')
theorem allP_append {a b : List Prop} (h : allP (a ++ b)) : allP a ∧ allP b := by
  have h' := fun p hp => allP_mem h p hp
  have mk : ∀ (l : List Prop), (∀ p, p ∈ l → p) → allP l := by
    intro l
    induction l with
    | nil => intro _; trivial
    | cons p l ih =>
      intro h
      cases l with
      | nil => exact h p List.mem_cons_self
      | cons q l => exact ⟨h p List.mem_cons_self, ih fun r hr => h r (List.mem_cons_of_mem _ hr)⟩
  exact ⟨mk a fun p hp => h' p (List.mem_append.2 (.inl hp)), mk b fun p hp => h' p (List.mem_append.2 (.inr hp))⟩
section
variable {c : Cx}
theorem Cx.Goes.steps {K K' : List Item} {s : St} (h : c.Goes K' s) (hs : ∀ (b : Frame) (a : Act) (cs : List Frame) (w : World), Steps c.P (lone (b.at a K) cs w) (lone (b.at a K') cs w)) : c.Goes K s := by
  intro im φ a w hr b cs hf hk
  obtain ⟨e, w', fr, h1, h2, h3, h4⟩ := h im φ a w hr b cs hf hk
  exact ⟨e, w', fr, h1, .of_steps (hs b a cs w) h2, h3, h4⟩
theorem ev_val {n : Nat} {w0 : World} {S im0 bo im : Nat → Prop} {φ0 φ : Env} {s : St} {a : Act} {w : World} (hr : Rel n w0 S im0 bo φ0 im φ s a w) {x : Operand} {b : Bool} {l : Log} (h : ev x s = some (.bool b, l)) : a.eval x = .bool b := (ev_sim hr h).boolV
theorem Cx.Goes.adv1 {orc : List (Nat × List (Nat × Out))} {K K' : List Item} {s s' : St} {os : List Prop} (h : adv1 c.P c.ty c.n orc K s = some (K', s', os)) (ho : allP os) (hn : c.Goes K' s') : c.Goes K s := by
  unfold Sv.adv1 at h
  split at h
  · simp only [Option.some.injEq, Prod.mk.injEq] at h; obtain ⟨rfl, rfl, _⟩ := h; exact hn.steps fun _ _ _ _ => .one step_skip
  · simp only [Option.some.injEq, Prod.mk.injEq] at h; obtain ⟨rfl, rfl, _⟩ := h; exact hn.steps fun _ _ _ _ => .one step_label
  · simp only [Option.some.injEq, Prod.mk.injEq] at h; obtain ⟨rfl, rfl, _⟩ := h; exact hn.steps fun _ _ _ _ => .one step_inBlock
  · simp only [Option.some.injEq, Prod.mk.injEq] at h; obtain ⟨rfl, rfl, _⟩ := h; exact hn.steps fun _ _ _ _ => .one step_seq
  · simp only [Option.some.injEq, Prod.mk.injEq] at h; obtain ⟨rfl, rfl, _⟩ := h; exact hn.steps fun _ _ _ _ => .one step_block
  · simp only [Option.some.injEq, Prod.mk.injEq] at h; obtain ⟨rfl, rfl, _⟩ := h; exact hn.steps fun _ _ _ _ => .one step_loop
  · simp only [Option.some.injEq, Prod.mk.injEq] at h; obtain ⟨rfl, rfl, _⟩ := h; exact hn.steps fun _ _ _ _ => .one step_inLoop
  · rename_i id k
    cases he : exitTo id k with
    | none => rw [he] at h; simp at h
    | some k' =>
      rw [he] at h
      simp only [Option.some.injEq, Prod.mk.injEq] at h; obtain ⟨rfl, rfl, _⟩ := h
      exact hn.steps fun _ _ _ _ => .one (step_exit he)
  · rename_i x cx cy k
    split at h
    · rename_i l he
      simp only [Option.some.injEq, Prod.mk.injEq] at h; obtain ⟨rfl, rfl, _⟩ := h
      intro im φ a w hr b cs hf hk
      obtain ⟨e, w', fr, h1, h2, h3, h4⟩ := hn im φ a w hr b cs hf hk
      exact ⟨e, w', fr, h1, .of_steps (.one (step_cond (t := true) (ev_val hr he))) h2, h3, h4⟩
    · rename_i l he
      simp only [Option.some.injEq, Prod.mk.injEq] at h; obtain ⟨rfl, rfl, _⟩ := h
      intro im φ a w hr b cs hf hk
      obtain ⟨e, w', fr, h1, h2, h3, h4⟩ := hn im φ a w hr b cs hf hk
      exact ⟨e, w', fr, h1, .of_steps (.one (step_cond (t := false) (ev_val hr he))) h2, h3, h4⟩
    · simp at h
  · rename_i id ops draw k
    cases hreg : regionD c.P c.ty c.n ops draw ((look orc id).getD []) s with
    | none => rw [hreg] at h; simp at h
    | some p =>
      obtain ⟨s1, os1⟩ := p
      rw [hreg] at h
      simp only [Option.some.injEq, Prod.mk.injEq] at h; obtain ⟨rfl, rfl, rfl⟩ := h
      intro im φ a w hr b cs hf hk
      have hwp := regionD_sim (id := id) (Q := fun e a' w' => e = .normal ∧ ∃ im' φ', c.Rel im' φ' s1 a' w') c.ok c.mix hreg ho hr (fun a' w' im' φ' hr' => ⟨rfl, im', φ', hr'⟩)
      obtain ⟨e, a', w', ⟨rfl, im', φ', hr'⟩, harr⟩ := hwp b k cs
      obtain ⟨e, w'', fr, h1, h2, h3, h4⟩ := hn im' φ' a' w' hr' b cs hf hk
      exact ⟨e, w'', fr, h1, .of_steps harr h2, h3, h4⟩
  · simp at h
theorem Cx.Goes.adv {orc : List (Nat × List (Nat × Out))} : ∀ {m : Nat} {K K' : List Item} {s s' : St} {os : List Prop}, adv c.P c.ty c.n orc m K s = some (K', s', os) → allP os → c.Goes K' s' → c.Goes K s
  | 0, K, K', s, s', os, h, ho, hn => by
    simp only [Sv.adv, Option.some.injEq, Prod.mk.injEq] at h; obtain ⟨rfl, rfl, _⟩ := h; exact hn
  | m + 1, K, K', s, s', os, h, ho, hn => by
    simp only [Sv.adv] at h
    cases h1 : Sv.adv1 c.P c.ty c.n orc K s with
    | none => rw [h1] at h; simp at h
    | some p =>
    obtain ⟨K1, s1, os1⟩ := p
    rw [h1] at h
    simp only at h
    cases h2 : Sv.adv c.P c.ty c.n orc m K1 s1 with
    | none => rw [h2] at h; simp at h
    | some q =>
    obtain ⟨K2, s2, os2⟩ := q
    rw [h2] at h
    simp only [Option.some.injEq, Prod.mk.injEq] at h; obtain ⟨rfl, rfl, rfl⟩ := h
    obtain ⟨o1, o2⟩ := allP_append ho
    exact Cx.Goes.adv1 h1 o1 (Cx.Goes.adv h2 o2 hn)
/-- A test that is not decided. -/
theorem Cx.Goes.cond {x : Operand} {cx cy : Code} {k : List Item} {s : St} {b : Bool} (h : (ev x s).map (·.1) = some (.bool b)) (ht : b = true → c.Goes (.code cx :: k) s) (hf : b = false → c.Goes (.code cy :: k) s) : c.Goes (.code (.cond x cx cy) :: k) s := by
  intro im φ a w hr fr cs hfn hk
  cases he : ev x s with
  | none => rw [he] at h; simp at h
  | some p =>
  obtain ⟨d, l⟩ := p
  rw [he] at h
  simp only [Option.map_some, Option.some.injEq] at h
  subst h
  cases hb : b with
  | true =>
    obtain ⟨e, w', fr', h1, h2, h3, h4⟩ := ht hb im φ a w hr fr cs hfn hk
    exact ⟨e, w', fr', h1, .of_steps (.one (step_cond (t := true) (by rw [ev_val hr he, hb]))) h2, h3, h4⟩
  | false =>
    obtain ⟨e, w', fr', h1, h2, h3, h4⟩ := hf hb im φ a w hr fr cs hfn hk
    exact ⟨e, w', fr', h1, .of_steps (.one (step_cond (t := false) (by rw [ev_val hr he, hb]))) h2, h3, h4⟩
end
/-! ### names -/
def mem (ks : List Nat) (b : Nat) : Bool := ks.any (Nat.beq b)
theorem mem_iff {ks : List Nat} {b : Nat} : mem ks b = true ↔ b ∈ ks := by
  unfold mem
  rw [List.any_eq_true]
  constructor
  · rintro ⟨x, h1, h2⟩; rw [Nat.eq_of_beq_eq_true h2]; exact h1
  · intro h; exact ⟨b, h, Nat.beq_refl b⟩
mutual
/-- It names none but these. -/
def D.inn (ks : List Nat) : D → Bool
  | .agg cs => inns ks cs
  | .tup cs => inns ks cs
  | .fn _ cs => inns ks cs
  | .ptr b _ => mem ks b
  | .ref b _ _ _ => mem ks b
  | .undef => true
  | .bool _ => true
  | .int _ _ => true
  | .str _ => true
  | .nilp => true
  | .ip _ _ => true
  | .nils => true
  | .z0 => true
  | .e0 => true
  | .sl _ _ _ _ => true
  | .nilf => true
def inns (ks : List Nat) : List D → Bool
  | [] => true
  | d :: ds => d.inn ks && inns ks ds
end
mutual
theorem R.mapIn {im bo : Nat → Prop} {w : World} {φ φ' : Env} {ρ : Nat → Nat} {ks : List Nat} (hp : ∀ b, b ∈ ks → ∀ p, φ b = some p → φ' (ρ b) = some p) : ∀ {d : D} {v : Value}, R im w bo φ d v → d.inn ks = true → R im w bo φ' (d.map ρ) v
  | _, _, .undef v, _ => .undef v
  | _, _, .bool b, _ => .bool b
  | _, _, .int k n, _ => .int k n
  | _, _, .str s, _ => .str s
  | _, _, .agg o h, k => .agg o (Rs.mapIn hp h k)
  | _, _, .tup h, k => .tup (Rs.mapIn hp h k)
  | _, _, .nilp, _ => .nilp
  | _, _, .ptr h, k => .ptr (hp _ (mem_iff.1 k) _ h)
  | _, _, .ip h1 h2 h3 o h4, _ => .ip h1 h2 h3 o h4
  | _, _, .nils, _ => .nils
  | _, _, .z0 a, _ => .z0 a
  | _, _, .e0 a c, _ => .e0 a c
  | _, _, .sl0 a c h, _ => .sl0 a c h
  | _, _, .sl h1 h2 h3 h4 o h5, _ => .sl h1 h2 h3 h4 o h5
  | _, _, .ref0 a h, k => .ref0 a (hp _ (mem_iff.1 k) _ h)
  | _, _, .refz a h, k => .refz a (hp _ (mem_iff.1 k) _ h)
  | _, _, .ref h1 h2 h3, k => .ref (hp _ (mem_iff.1 k) _ h1) h2 h3
  | _, _, .fn h, k => .fn (Rs.mapIn hp h k)
  | _, _, .nilf, _ => .nilf
theorem Rs.mapIn {im bo : Nat → Prop} {w : World} {φ φ' : Env} {ρ : Nat → Nat} {ks : List Nat} (hp : ∀ b, b ∈ ks → ∀ p, φ b = some p → φ' (ρ b) = some p) : ∀ {ds : List D} {vs : List Value}, Rs im w bo φ ds vs → inns ks ds = true → Rs im w bo φ' (mapL ρ ds) vs
  | _, _, .nil, _ => .nil
  | _, _, .cons h t, k => .cons (R.mapIn hp h ((Bool.and_eq_true _ _).mp k).1) (Rs.mapIn hp t ((Bool.and_eq_true _ _).mp k).2)
end
def slotMap (ρ : Nat → Nat) (s : St) (x : Nat) : Option Blk := match s.slot x with | some (some blk) => some (blk.map ρ) | _ => none
/-- Only these temporaries and blocks; blocks under other names. -/
def prune (kt : List Nat) (kh : List (Nat × Nat)) (s : St) : Option St :=
  let ks := kh.map (·.1)
  let ρ := fun b => (look kh b).getD b
  bif nodupB ks && nodupB (kh.map (·.2)) && kt.all (fun t => (s.tmp t).inn ks) &&
    ks.all (fun b => match s.slot b with | some (some blk) => blk.pure || inns ks blk.cs | some none => true | none => false) &&
    s.H.all (fun p => !(Nat.ble (p.1 + 1) 100) || Nat.beq ((look kh p.1).getD 100) p.1)
  then some { T := kt.map fun t => (t, (s.tmp t).map ρ), H := kh.map fun p => (p.2, slotMap ρ s p.1) } else none
end Go.Proofs.YtmhlgpdoedbedaaGreat.Sv
