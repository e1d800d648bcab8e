/- What the printed walks are made of. -/
import Derived.Test.YtmhlgpdoedbedaaGreatSvZ
namespace Go.Proofs.YtmhlgpdoedbedaaGreat.Sv
set_option linter.unusedVariables false
set_option linter.unusedSimpArgs false
open Go Go.RowKit
/-- A part of a body, by its path: the lowest bit is the first step, 1 is the end. -/
def sub : Code → Nat → Code
  | .seq a b, p => bif Nat.beq p 1 then .seq a b else bif Nat.beq (p % 2) 1 then sub b (p / 2) else sub a (p / 2)
  | .cond c a b, p => bif Nat.beq p 1 then .cond c a b else bif Nat.beq (p % 2) 1 then sub b (p / 2) else sub a (p / 2)
  | .block i a, p => bif Nat.beq p 1 then .block i a else sub a (p / 2)
  | .loop a, p => bif Nat.beq p 1 then .loop a else sub a (p / 2)
  | .scope a, p => bif Nat.beq p 1 then .scope a else sub a (p / 2)
  | c, _ => c
inductive Kt where
  | c (p : Nat)
  | b (id : Nat)
  | l (p : Nat)
def items (body : Code) : List Kt → List Item
  | [] => []
  | .c p :: r => .code (sub body p) :: items body r
  | .b id :: r => .inBlock id :: items body r
  | .l p :: r => .inLoop (sub body p) :: items body r
def bodyOf (f : Func) : Code := f.body.getD .skip
structure Is (c : Cx) (P : Program) (ty : Ty) (f n : Nat) : Prop where
  P : c.P = P
  ty : c.ty = ty
  f : c.f = f
  n : c.n = n
inductive Os : List Prop → Prop
  | nil : Os []
  | cons {p : Prop} {ps : List Prop} : p → Os ps → Os (p :: ps)
theorem Os.all {ps : List Prop} (h : Os ps) : allP ps := by
  induction h with
  | nil => trivial
  | cons h t ih =>
    rename_i p qs
    cases qs with
    | nil => exact h
    | cons q r => exact ⟨h, ih⟩
theorem Os.append {ps qs : List Prop} (h : Os (ps ++ qs)) : Os ps ∧ Os qs := by
  induction ps with
  | nil => exact ⟨.nil, h⟩
  | cons p ps ih =>
    cases h with
    | cons a b => exact ⟨.cons a (ih b).1, (ih b).2⟩
/-- Steps, and what is kept then. -/
def advP (P : Program) (ty : Ty) (n : Nat) (orc : List (Nat × List (Nat × Out))) (m : Nat) (kt : List Nat) (kh : List (Nat × Nat)) (K : List Item) (s : St) : Option (List Item × St × List Prop) :=
  match adv P ty n orc m K s with
  | none => none
  | some (K', s', os) => match prune kt kh s' with
    | none => none
    | some s'' => some (K', s'', os)
/-- Steps to the end; the result. -/
def advR (P : Program) (ty : Ty) (n : Nat) (rs : List ResultVar) (orc : List (Nat × List (Nat × Out))) (m : Nat) (K : List Item) (s : St) : Option (D × List Prop) :=
  match adv P ty n orc m K s with
  | some ([], s', os) => (match resD ty rs s' with
    | some (ds, l) => some (oneD ds, os ++ l.o)
    | none => none)
  | some (.code .ret :: _, s', os) => (match resD ty rs s' with
    | some (ds, l) => some (oneD ds, os ++ l.o)
    | none => none)
  | _ => none
/-- The same, with blocks. -/
def advB (P : Program) (ty : Ty) (n : Nat) (rs : List ResultVar) (orc : List (Nat × List (Nat × Out))) (m : Nat) (l : List (Nat × Nat)) (hs : List Nat) (K : List Item) (s : St) : Option (D × List (Option (Option Blk)) × List Prop) :=
  match adv P ty n orc m K s with
  | some ([], s', os) => (match resD ty rs s' with
    | some (ds, lg) => some (oneD ds, hs.map (fun h => s'.slot (ren l h)), os ++ lg.o)
    | none => none)
  | some (.code .ret :: _, s', os) => (match resD ty rs s' with
    | some (ds, lg) => some (oneD ds, hs.map (fun h => s'.slot (ren l h)), os ++ lg.o)
    | none => none)
  | _ => none
theorem Le.rfl {d : D} : Le d d := fun _ _ _ _ _ h => h
theorem Le.of {d d' : D} (h : d = d') : Le d d' := h ▸ Le.rfl
theorem Le.tt {b : Bool} (h : b = true) : Le (.bool b) (.bool true) := Le.of (by rw [h])
theorem Le.ff {b : Bool} (h : b = false) : Le (.bool b) (.bool false) := Le.of (by rw [h])
theorem Le.int {k : IntKind} {a b : Int} (h : a = b) : Le (.int k a) (.int k b) := Le.of (by rw [h])
theorem Le.boo {a b : Bool} (h : a = b) : Le (.bool a) (.bool b) := Le.of (by rw [h])
theorem Le.str {a b : ByteArray} (h : a = b) : Le (.str a) (.str b) := Le.of (by rw [h])
theorem Le.nils {g : Bool} : Le .nils (.sl g [] 0 0) := fun _ _ _ _ _ h => by cases h; exact .sl0 _ _ (fun _ => Eq.refl _)
theorem Le.z0 {g : Bool} : Le .z0 (.sl g [] 0 0) := fun _ _ _ _ _ h => by cases h; exact .sl0 _ _ (fun _ => Eq.refl _)
theorem Le.e0 {g : Bool} : Le .e0 (.sl g [] 0 0) := fun _ _ _ _ _ h => by cases h; exact .sl0 _ _ (fun e => by simp at e)
/-- A name for a value. -/
def via {α β : Type} (a : α) (f : α → Option β) : Option β := f a
theorem chk {p : Prop} [Decidable p] {β : Type} {a : Option β} {r : β} (h : (if p then a else none) = some r) : p ∧ a = some r := by
  split at h
  · exact ⟨by assumption, h⟩
  · simp at h
def eInt (k : IntKind) (x : Int) : List D := [.int k x]
def eBool (x : Bool) : List D := [.bool x]
def eStr (x : ByteArray) : List D := [.str x]
def eL {α : Type} (e : α → List D) : List α → List D
  | [] => []
  | x :: r => e x ++ eL e r
def bAnd (k : IntKind) (x y : Int) : Int := k.wrap (BitVec.ofInt k.bits x &&& BitVec.ofInt k.bits y).toNat
def bOr (k : IntKind) (x y : Int) : Int := k.wrap (BitVec.ofInt k.bits x ||| BitVec.ofInt k.bits y).toNat
def bXor (k : IntKind) (x y : Int) : Int := k.wrap (BitVec.ofInt k.bits x ^^^ BitVec.ofInt k.bits y).toNat
def bAndNot (k : IntKind) (x y : Int) : Int := k.wrap (BitVec.ofInt k.bits x &&& ~~~BitVec.ofInt k.bits y).toNat
section
variable {c : Cx} {P : Program} {ty : Ty} {f n : Nat}
theorem Is.go (hc : Is c P ty f n) {orc : List (Nat × List (Nat × Out))} {m : Nat} {K K' : List Item} {s s' : St} {os : List Prop} (h : adv P ty n orc m K s = some (K', s', os)) (ho : Os os) (hn : c.Goes K' s') : c.Goes K s := by
  obtain ⟨rfl, rfl, rfl, rfl⟩ := hc
  exact Cx.Goes.adv h ho.all hn
theorem Is.jump (hc : Is c P ty f n) {orc : List (Nat × List (Nat × Out))} {m : Nat} {kt : List Nat} {kh : List (Nat × Nat)} {K K' : List Item} {s s' : St} {os : List Prop} (h : advP P ty n orc m kt kh K s = some (K', s', os)) (ho : Os os) (hn : c.Goes K' s') : c.Goes K s := by
  unfold advP at h
  cases h1 : adv P ty n orc m K s with
  | none => rw [h1] at h; simp at h
  | some p =>
  obtain ⟨K1, s1, os1⟩ := p
  rw [h1] at h
  simp only at h
  cases h2 : prune kt kh s1 with
  | none => rw [h2] at h; simp at h
  | some s2 =>
  rw [h2] at h
  simp only [Option.some.injEq, Prod.mk.injEq] at h
  obtain ⟨rfl, rfl, rfl⟩ := h
  exact hc.go h1 ho (Cx.Goes.prune h2 hn)
theorem advR_ok {rs : List ResultVar} {orc : List (Nat × List (Nat × Out))} {m : Nat} {K : List Item} {s : St} {d : D} {os : List Prop} (h : advR P ty n rs orc m K s = some (d, os)) :
    ∃ K' s' os1 ds l, adv P ty n orc m K s = some (K', s', os1) ∧ (K' = [] ∨ ∃ k, K' = .code .ret :: k) ∧ resD ty rs s' = some (ds, l) ∧ oneD ds = d ∧ os = os1 ++ l.o := by
  unfold advR at h
  split at h
  · rename_i s' os1 he
    split at h
    · rename_i ds l hr
      simp only [Option.some.injEq, Prod.mk.injEq] at h
      exact ⟨_, s', os1, ds, l, he, .inl rfl, hr, h.1, h.2.symm⟩
    · simp at h
  · rename_i k s' os1 he
    split at h
    · rename_i ds l hr
      simp only [Option.some.injEq, Prod.mk.injEq] at h
      exact ⟨_, s', os1, ds, l, he, .inr ⟨k, rfl⟩, hr, h.1, h.2.symm⟩
    · simp at h
  · simp at h
theorem Cx.Fin.le {H : List (Nat × Blk)} {r : D} {H' : List (Nat × Option Blk)} (hfin : c.Fin H r H') {im : Nat → Prop} {φ : Env} {s : St} {a : Act} {w : World} (hr : c.Rel im φ s a w) {v : Value} {d : D} {l : List (Nat × Nat)} (hv : Sv.R im w c.bo φ d v) (h : Le d (r.map (ren l))) (fo : FinOk H r H' l s) : c.R (.returned v) w :=
  hfin im φ a w s v l hr (h _ _ _ _ _ hv) fo
mutual
theorem D.map_inn {ρ : Nat → Nat} : ∀ (d : D), d.inn [] = true → d.map ρ = d
  | .agg cs, h => by simp only [D.map, mapL_inn cs h]
  | .tup cs, h => by simp only [D.map, mapL_inn cs h]
  | .fn f cs, h => by simp only [D.map, mapL_inn cs h]
  | .ptr b _, h => by simp [D.inn, mem] at h
  | .ref b _ _ _, h => by simp [D.inn, mem] at h
  | .undef, _ => rfl
  | .bool _, _ => rfl
  | .int _ _, _ => rfl
  | .str _, _ => rfl
  | .nilp, _ => rfl
  | .ip _ _, _ => rfl
  | .nils, _ => rfl
  | .z0, _ => rfl
  | .e0, _ => rfl
  | .sl _ _ _ _, _ => rfl
  | .nilf, _ => rfl
theorem mapL_inn {ρ : Nat → Nat} : ∀ (ds : List D), inns [] ds = true → mapL ρ ds = ds
  | [], _ => rfl
  | d :: ds, h => by
    simp only [inns, Bool.and_eq_true] at h
    simp only [mapL, D.map_inn d h.1, mapL_inn ds h.2]
end
/-- The end of a function that hands out no block. -/
theorem Is.ret (hc : Is c P ty f n) {H : List (Nat × Blk)} {r : D} (hfin : c.Fin H r []) {fn : Func} (hf : P.funcs[f]? = some fn) {orc : List (Nat × List (Nat × Out))} {m : Nat} {K : List Item} {s : St} {d : D} {os : List Prop}
    (h : advR P ty n fn.results.toList orc m K s = some (d, os)) (ho : Os os) (hle : Le d r) (hi : r.inn [] = true) : c.Goes K s := by
  obtain ⟨K', s', os1, ds, l, h1, h2, h3, h4, rfl⟩ := advR_ok h
  obtain ⟨o1, o2⟩ := ho.append
  obtain ⟨rfl, rfl, rfl, rfl⟩ := hc
  refine Cx.Goes.adv h1 o1.all (Cx.Goes.ret0 hf h2 h3 (fun p hp => allP_mem o2.all p hp) fun im φ a w v hr hR => hfin im φ a w s' v [] hr ?_ ⟨rfl, rfl, rfl, rfl, ?_⟩)
  · rw [D.map_inn r hi]
    exact hle _ _ _ _ _ (h4 ▸ hR)
  · simp [hi]
theorem advB_ok {rs : List ResultVar} {orc : List (Nat × List (Nat × Out))} {m : Nat} {lr : List (Nat × Nat)} {hs : List Nat} {K : List Item} {s : St} {d : D} {bs : List (Option (Option Blk))} {os : List Prop} (h : advB P ty n rs orc m lr hs K s = some (d, bs, os)) :
    ∃ K' s' os1 ds l, adv P ty n orc m K s = some (K', s', os1) ∧ (K' = [] ∨ ∃ k, K' = .code .ret :: k) ∧ resD ty rs s' = some (ds, l) ∧ oneD ds = d ∧ hs.map (fun h => s'.slot (ren lr h)) = bs ∧ os = os1 ++ l.o := by
  unfold advB at h
  split at h
  · rename_i s' os1 he
    split at h
    · rename_i ds l hr
      simp only [Option.some.injEq, Prod.mk.injEq] at h
      exact ⟨_, s', os1, ds, l, he, .inl rfl, hr, h.1, h.2.1, h.2.2.symm⟩
    · simp at h
  · rename_i k s' os1 he
    split at h
    · rename_i ds l hr
      simp only [Option.some.injEq, Prod.mk.injEq] at h
      exact ⟨_, s', os1, ds, l, he, .inr ⟨k, rfl⟩, hr, h.1, h.2.1, h.2.2.symm⟩
    · simp at h
  · simp at h
/-- What the end asks, but the blocks themselves. -/
def finB (H : List (Nat × Blk)) (r : D) (H' : List (Nat × Option Blk)) (l : List (Nat × Nat)) : Bool :=
  (H'.all fun p => bif Nat.ble 1000 p.1 then true else (look H p.1).isSome) && (l.all fun p => Nat.ble 1000 p.1) && nodupB (H'.map fun p => ren l p.1) &&
  (r.inn (H'.map (·.1)) && H'.all fun p => match p.2 with | some b => b.pure || inns (H'.map (·.1)) b.cs | none => true)
/-- The end of a function that hands out blocks. -/
theorem Is.retB (hc : Is c P ty f n) {H : List (Nat × Blk)} {r : D} {H' : List (Nat × Option Blk)} (hfin : c.Fin H r H') (l : List (Nat × Nat)) {fn : Func} (hf : P.funcs[f]? = some fn) {orc : List (Nat × List (Nat × Out))} {m : Nat} {K : List Item} {s : St} {d : D} {os : List Prop}
    (h : advB P ty n fn.results.toList orc m l (H'.map (·.1)) K s = some (d, H'.map (fun p => some (p.2.map (Blk.map (ren l)))), os)) (ho : Os os) (hle : Le d (r.map (ren l))) (hi : finB H r H' l = true) : c.Goes K s := by
  obtain ⟨K', s', os1, ds, lg, h1, h2, h3, h4, h5, rfl⟩ := advB_ok h
  obtain ⟨o1, o2⟩ := ho.append
  obtain ⟨rfl, rfl, rfl, rfl⟩ := hc
  unfold finB at hi
  rw [Bool.and_eq_true, Bool.and_eq_true, Bool.and_eq_true] at hi
  refine Cx.Goes.adv h1 o1.all (Cx.Goes.ret0 hf h2 h3 (fun p hp => allP_mem o2.all p hp) fun im φ a w v hr hR => hfin im φ a w s' v l hr ?_ ⟨hi.1.1.1, hi.1.1.2, hi.1.2, ?_, hi.2⟩)
  · exact hle _ _ _ _ _ (h4 ▸ hR)
  · rw [List.map_map] at h5
    exact h5
end
end Go.Proofs.YtmhlgpdoedbedaaGreat.Sv
