/- Values without memory: what a Go value is, read whole; how it stands in a world. -/
import Derived.Orders
import Derived.Below
import Derived.Laws.Sem
namespace Go.Proofs.YtmhlgpdoedbedaaGreat.Sv
set_option linter.unusedVariables false
set_option linter.unusedSimpArgs false
open Go Go.RowKit

/-- A value: immutable memory is read whole (ip, sl); memory of one's own has a number (ptr, ref). -/
inductive D where
  | undef
  | bool (b : Bool)
  | int (k : IntKind) (n : Int)
  | str (s : ByteArray)
  | agg (cs : List D)
  | tup (cs : List D)
  | nilp
  | ptr (b off : Nat)
  | ip (g : Bool) (cs : List D)
  | nils
  | z0
  | e0
  | sl (g : Bool) (cs : List D) (len cap : Nat)
  | ref (b off len cap : Nat)
  | fn (f : Nat) (cs : List D)
  | nilf
  deriving Inhabited

/-- Where a block of one's own stands. -/
inductive Pl where
  | nil
  | at_ (B base sz lim : Nat)

abbrev Env := Nat → Option Pl
def noEnv : Env := fun _ => none
def noB : Nat → Prop := fun _ => False

def Ones (vs : List Value) : Prop := ∀ v ∈ vs, v.oneCell' = true

mutual
inductive R (im : Nat → Prop) (w : World) : (Nat → Prop) → Env → D → Value → Prop
  | undef {bo φ} (v) : R im w bo φ .undef v
  | bool {bo φ} (b) : R im w bo φ (.bool b) (.bool b)
  | int {bo φ} (k n) : R im w bo φ (.int k n) (.int k n)
  | str {bo φ} (s) : R im w bo φ (.str s) (.string s)
  | agg {bo φ cs vs} : Ones vs → Rs im w bo φ cs vs → R im w bo φ (.agg cs) (.agg vs.toArray)
  | tup {bo φ cs vs} : Rs im w bo φ cs vs → R im w bo φ (.tup cs) (.tuple vs.toArray)
  | nilp {bo φ} : R im w bo φ .nilp (.pointer none)
  | ptr {bo} {φ : Env} {b off B base sz lim} : φ b = some (.at_ B base sz lim) → R im w bo φ (.ptr b off) (.pointer (some ⟨B, base + off, none⟩))
  | ip {bo φ g cs B o c el fz vs} : (im B ∨ (g = false ∧ bo B)) → w.heap[B]? = some (.cells c el fz) → (c.toList.drop o).take cs.length = vs → Ones vs →
      Rs im w (if g then noB else bo) noEnv cs vs → R im w bo φ (.ip g cs) (.pointer (some ⟨B, o, none⟩))
  | nils {bo φ} : R im w bo φ .nils (.slice none 0 0)
  | z0 {bo φ} (a) : R im w bo φ .z0 (.slice a 0 0)
  | e0 {bo φ} (a c) : R im w bo φ .e0 (.slice (some a) 0 c)
  | sl0 {bo φ g cs} (a c) (h : a = none → c = 0) : R im w bo φ (.sl g cs 0 0) (.slice a 0 c)
  | sl {bo φ g cs len cap cap' B o c el fz vs} : (im B ∨ (g = false ∧ bo B)) → cap ≤ cap' → w.heap[B]? = some (.cells c el fz) → (c.toList.drop o).take cs.length = vs → Ones vs →
      Rs im w (if g then noB else bo) noEnv cs vs → R im w bo φ (.sl g cs len cap) (.slice (some ⟨B, o, none⟩) len cap')
  | ref0 {bo} {φ : Env} {b} (a) : φ b = some .nil → R im w bo φ (.ref b 0 0 0) (.slice a 0 0)
  | refz {bo} {φ : Env} {b off B base sz lim} (a) : φ b = some (.at_ B base sz lim) → R im w bo φ (.ref b off 0 0) (.slice a 0 0)
  | ref {bo} {φ : Env} {b off len cap cap' B base sz lim} : φ b = some (.at_ B base sz lim) → cap ≤ cap' → off + cap' * sz ≤ lim →
      R im w bo φ (.ref b off len cap) (.slice (some ⟨B, base + off, none⟩) len cap')
  | fn {bo φ f cs vs} : Rs im w bo φ cs vs → R im w bo φ (.fn f cs) (.func (.func f) #[] vs.toArray)
  | nilf {bo φ} : R im w bo φ .nilf .nilFunc
inductive Rs (im : Nat → Prop) (w : World) : (Nat → Prop) → Env → List D → List Value → Prop
  | nil {bo φ} : Rs im w bo φ [] []
  | cons {bo φ d v ds vs} : R im w bo φ d v → Rs im w bo φ ds vs → Rs im w bo φ (d :: ds) (v :: vs)
end

mutual
theorem R.mono {im im' : Nat → Prop} {w w' : World} (hi : ∀ b, im b → im' b) {bo : Nat → Prop} {φ : Env} {d : D} {v : Value} :
    R im w bo φ d v → ∀ {bo' : Nat → Prop} {φ' : Env}, (∀ b, im b ∨ bo b → w'.heap[b]? = w.heap[b]?) → (∀ b, bo b → bo' b) → (∀ b p, φ b = some p → φ' b = some p) → R im' w' bo' φ' d v
  | .undef _, _, _, _, _, _ => .undef _
  | .bool _, _, _, _, _, _ => .bool _
  | .int _ _, _, _, _, _, _ => .int _ _
  | .str _, _, _, _, _, _ => .str _
  | .agg o h, _, _, hw, hb, hp => .agg o (Rs.mono hi h hw hb hp)
  | .tup h, _, _, hw, hb, hp => .tup (Rs.mono hi h hw hb hp)
  | .nilp, _, _, _, _, _ => .nilp
  | .ptr h, _, _, _, _, hp => .ptr (hp _ _ h)
  | .ip (g := g) hB hc ht o h, _, _, hw, hb, hp => .ip (hB.imp (hi _) fun ⟨a, b⟩ => ⟨a, hb _ b⟩) ((hw _ (hB.imp id And.right)).trans hc) ht o
      (Rs.mono hi h (fun b hx => hw b (hx.imp id fun h => by cases g <;> simp_all [noB])) (fun b h => by cases g <;> simp_all [noB]) (fun _ _ h => h))
  | .nils, _, _, _, _, _ => .nils
  | .z0 _, _, _, _, _, _ => .z0 _
  | .e0 _ _, _, _, _, _, _ => .e0 _ _
  | .sl0 _ _ h, _, _, _, _, _ => .sl0 _ _ h
  | .sl (g := g) hB hl hc ht o h, _, _, hw, hb, hp => .sl (hB.imp (hi _) fun ⟨a, b⟩ => ⟨a, hb _ b⟩) hl ((hw _ (hB.imp id And.right)).trans hc) ht o
      (Rs.mono hi h (fun b hx => hw b (hx.imp id fun h => by cases g <;> simp_all [noB])) (fun b h => by cases g <;> simp_all [noB]) (fun _ _ h => h))
  | .ref0 a h, _, _, _, _, hp => .ref0 a (hp _ _ h)
  | .refz a h, _, _, _, _, hp => .refz a (hp _ _ h)
  | .ref h a b, _, _, _, _, hp => .ref (hp _ _ h) a b
  | .fn h, _, _, hw, hb, hp => .fn (Rs.mono hi h hw hb hp)
  | .nilf, _, _, _, _, _ => .nilf
theorem Rs.mono {im im' : Nat → Prop} {w w' : World} (hi : ∀ b, im b → im' b) {bo : Nat → Prop} {φ : Env} {ds : List D} {vs : List Value} :
    Rs im w bo φ ds vs → ∀ {bo' : Nat → Prop} {φ' : Env}, (∀ b, im b ∨ bo b → w'.heap[b]? = w.heap[b]?) → (∀ b, bo b → bo' b) → (∀ b p, φ b = some p → φ' b = some p) → Rs im' w' bo' φ' ds vs
  | .nil, _, _, _, _, _ => .nil
  | .cons h t, _, _, hw, hb, hp => .cons (R.mono hi h hw hb hp) (Rs.mono hi t hw hb hp)
end
theorem Rs.length {im : Nat → Prop} {w : World} {bo : Nat → Prop} {φ : Env} {ds : List D} {vs : List Value} (h : Rs im w bo φ ds vs) : ds.length = vs.length := by
  induction ds generalizing vs with
  | nil => cases h; rfl
  | cons d ds ih => cases h with | cons a b => simp [ih b]
theorem Rs.get {im : Nat → Prop} {w : World} {bo : Nat → Prop} {φ : Env} {ds : List D} {vs : List Value} (h : Rs im w bo φ ds vs) {i : Nat} {d : D} (hd : ds[i]? = some d) : ∃ v, vs[i]? = some v ∧ R im w bo φ d v := by
  induction ds generalizing vs i with
  | nil => simp at hd
  | cons x ds ih =>
    cases h with
    | cons a b =>
      cases i with
      | zero => simp at hd; subst hd; exact ⟨_, rfl, a⟩
      | succ i => simp at hd; simpa using ih b hd
theorem Ones.drop {vs : List Value} (h : Ones vs) (n : Nat) : Ones (vs.drop n) := fun v hv => h v (List.mem_of_mem_drop hv)
theorem Ones.take {vs : List Value} (h : Ones vs) (n : Nat) : Ones (vs.take n) := fun v hv => h v (List.mem_of_mem_take hv)
theorem Ones.append {vs us : List Value} (h : Ones vs) (k : Ones us) : Ones (vs ++ us) := fun v hv => (List.mem_append.1 hv).elim (h v) (k v)
theorem Ones.nil : Ones [] := fun v hv => by simp at hv
theorem Rs.append {im : Nat → Prop} {w : World} {bo : Nat → Prop} {φ : Env} {ds es : List D} {vs us : List Value} (h : Rs im w bo φ ds vs) (k : Rs im w bo φ es us) : Rs im w bo φ (ds ++ es) (vs ++ us) := by
  induction ds generalizing vs with
  | nil => cases h; simpa using k
  | cons x ds ih => cases h with | cons a b => exact .cons a (ih b)
theorem Rs.drop {im : Nat → Prop} {w : World} {bo : Nat → Prop} {φ : Env} {ds : List D} {vs : List Value} (h : Rs im w bo φ ds vs) (n : Nat) : Rs im w bo φ (ds.drop n) (vs.drop n) := by
  induction n generalizing ds vs with
  | zero => simpa using h
  | succ n ih =>
    cases h with
    | nil => exact .nil
    | cons a b => simpa using ih b
theorem Rs.take {im : Nat → Prop} {w : World} {bo : Nat → Prop} {φ : Env} {ds : List D} {vs : List Value} (h : Rs im w bo φ ds vs) (n : Nat) : Rs im w bo φ (ds.take n) (vs.take n) := by
  induction n generalizing ds vs with
  | zero => simpa using .nil
  | succ n ih =>
    cases h with
    | nil => exact .nil
    | cons a b => exact .cons a (ih b)
theorem Rs.set {im : Nat → Prop} {w : World} {bo : Nat → Prop} {φ : Env} {ds : List D} {vs : List Value} (h : Rs im w bo φ ds vs) (n : Nat) {d : D} {v : Value} (k : R im w bo φ d v) : Rs im w bo φ (ds.set n d) (vs.set n v) := by
  induction n generalizing ds vs with
  | zero => cases h with
    | nil => exact .nil
    | cons a b => exact .cons k b
  | succ n ih =>
    cases h with
    | nil => exact .nil
    | cons a b => exact .cons a (ih b)
theorem Rs.replicate {im : Nat → Prop} {w : World} {bo : Nat → Prop} {φ : Env} {d : D} {v : Value} (h : R im w bo φ d v) (n : Nat) : Rs im w bo φ (List.replicate n d) (List.replicate n v) := by
  induction n with
  | zero => exact .nil
  | succ n ih => exact .cons h ih
end Go.Proofs.YtmhlgpdoedbedaaGreat.Sv
