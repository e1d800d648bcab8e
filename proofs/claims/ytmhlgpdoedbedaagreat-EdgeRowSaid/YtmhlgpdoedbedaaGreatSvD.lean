/- How a state stands to the machine's; operations that only compute. -/
import Derived.Test.YtmhlgpdoedbedaaGreatSvC
import Derived.Laws.MakeOwn
namespace Go.Proofs.YtmhlgpdoedbedaaGreat.Sv
set_option linter.unusedVariables false
set_option linter.unusedSimpArgs false
open Go Go.RowKit

theorem M.bind_eq {α β : Type} {m : M α} {f : α → M β} {s : St} {b : β} {k : Log} (h : (m >>= f) s = some (b, k)) :
    ∃ a l l', m s = some (a, l) ∧ f a s = some (b, l') ∧ k = { t := l.t ++ l'.t, h := l.h ++ l'.h, o := l.o ++ l'.o } := by
  change M.bind m f s = _ at h
  unfold M.bind at h
  cases hm : m s with
  | none => rw [hm] at h; simp at h
  | some p =>
    obtain ⟨a, l⟩ := p
    rw [hm] at h
    simp only at h
    cases hf : f a s with
    | none => rw [hf] at h; simp at h
    | some q =>
      obtain ⟨b', l'⟩ := q
      rw [hf] at h
      simp only [Option.some.injEq, Prod.mk.injEq] at h
      obtain ⟨rfl, rfl⟩ := h
      exact ⟨a, l, l', rfl, hf, rfl⟩
theorem M.pure_eq {α : Type} {a b : α} {s : St} {k : Log} (h : M.pure a s = some (b, k)) : a = b ∧ k = {} := by
  simp only [M.pure, Option.some.injEq, Prod.mk.injEq] at h; exact ⟨h.1, h.2.symm⟩
theorem M.fail_eq {α : Type} {b : α} {s : St} {k : Log} (h : (M.fail : M α) s = some (b, k)) : False := by simp [M.fail] at h
theorem need_eq {p : Prop} {s : St} {u : Unit} {k : Log} (h : need p s = some (u, k)) : k = { o := [p] } := by
  simp only [need, Option.some.injEq, Prod.mk.injEq] at h; exact h.2.symm
theorem test_eq {b : Bool} {s : St} {u : Unit} {k : Log} (h : test b s = some (u, k)) : b = true ∧ k = {} := by
  cases b with
  | true => exact ⟨rfl, (M.pure_eq (s := s) h).2⟩
  | false => exact (M.fail_eq (s := s) h).elim
theorem lift_eq {α : Type} {x : Option α} {s : St} {a : α} {k : Log} (h : lift x s = some (a, k)) : x = some a ∧ k = {} := by
  cases x with
  | none => exact (M.fail_eq (s := s) h).elim
  | some b => obtain ⟨rfl, hk⟩ := M.pure_eq (s := s) h; exact ⟨rfl, hk⟩
theorem getT_eq {t : Nat} {s : St} {d : D} {k : Log} (h : getT t s = some (d, k)) : d = s.tmp t := by
  simp only [getT, Option.some.injEq, Prod.mk.injEq] at h; exact h.1.symm
theorem getH_eq {b : Nat} {s : St} {x : Option (Option Blk)} {k : Log} (h : getH b s = some (x, k)) : x = s.slot b := by
  simp only [getH, Option.some.injEq, Prod.mk.injEq] at h; exact h.1.symm

/-- All that is asked holds. -/
def Log.ok (l : Log) : Prop := ∀ p, p ∈ l.o → p
theorem M.bindO {α β : Type} {m : M α} {f : α → M β} {s : St} {b : β} {k : Log} (h : (m >>= f) s = some (b, k)) (ho : k.ok) :
    ∃ a l l', m s = some (a, l) ∧ f a s = some (b, l') ∧ l.ok ∧ l'.ok := by
  obtain ⟨a, l, l', h1, h2, rfl⟩ := M.bind_eq h
  exact ⟨a, l, l', h1, h2, fun p hp => ho p (List.mem_append.2 (.inl hp)), fun p hp => ho p (List.mem_append.2 (.inr hp))⟩
theorem need_bind {p : Prop} {β : Type} {f : Unit → M β} {s : St} {b : β} {k : Log} (h : (need p >>= f) s = some (b, k)) (ho : k.ok) : p ∧ ∃ l, f () s = some (b, l) ∧ l.ok := by
  obtain ⟨_, l, l', h1, h2, h3, h4⟩ := M.bindO h ho
  obtain rfl := need_eq h1
  exact ⟨h3 p (by simp), l', h2, h4⟩
theorem ask_bind {sym c : Bool} {p : Prop} {hp : c = true → p} {β : Type} {f : Unit → M β} {s : St} {b : β} {k : Log} (h : (ask sym c p hp >>= f) s = some (b, k)) (ho : k.ok) : p ∧ ∃ l, f () s = some (b, l) ∧ l.ok := by
  cases sym with
  | true => exact need_bind h ho
  | false =>
    obtain ⟨_, l, l', h1, h2, h3, h4⟩ := M.bindO h ho
    exact ⟨hp (test_eq h1).1, l', h2, h4⟩
theorem test_bind {c : Bool} {β : Type} {f : Unit → M β} {s : St} {b : β} {k : Log} (h : (test c >>= f) s = some (b, k)) (ho : k.ok) : c = true ∧ ∃ l, f () s = some (b, l) ∧ l.ok := by
  obtain ⟨_, l, l', h1, h2, h3, h4⟩ := M.bindO h ho
  exact ⟨(test_eq h1).1, l', h2, h4⟩
theorem lift_bind {α β : Type} {x : Option α} {f : α → M β} {s : St} {b : β} {k : Log} (h : (lift x >>= f) s = some (b, k)) (ho : k.ok) : ∃ a, x = some a ∧ ∃ l, f a s = some (b, l) ∧ l.ok := by
  obtain ⟨a, l, l', h1, h2, h3, h4⟩ := M.bindO h ho
  exact ⟨a, (lift_eq h1).1, l', h2, h4⟩
theorem getH_bind {n : Nat} {β : Type} {f : Option (Option Blk) → M β} {s : St} {b : β} {k : Log} (h : (getH n >>= f) s = some (b, k)) (ho : k.ok) : ∃ l, f (s.slot n) s = some (b, l) ∧ l.ok := by
  obtain ⟨a, l, l', h1, h2, h3, h4⟩ := M.bindO h ho
  rw [getH_eq h1] at h2
  exact ⟨l', h2, h4⟩
theorem pure_ok {α : Type} {a b : α} {s : St} {k : Log} (h : M.pure a s = some (b, k)) : a = b := (M.pure_eq h).1
theorem pure_bind {α β : Type} {a : α} {f : α → M β} {s : St} {b : β} {k : Log} (h : (M.pure a >>= f) s = some (b, k)) (ho : k.ok) : ∃ l, f a s = some (b, l) ∧ l.ok := by
  obtain ⟨c, l, l', h1, h2, h3, h4⟩ := M.bindO h ho
  obtain rfl := pure_ok h1
  exact ⟨l', h2, h4⟩

/-- What stays while a function runs. -/
structure Base (w0 : World) (S im0 bo : Nat → Prop) : Prop where
  lt : ∀ b, im0 b ∨ bo b → b < w0.heap.size
  no : ∀ b, im0 b ∨ bo b → ¬ S b
structure Rel (n : Nat) (w0 : World) (S im0 bo : Nat → Prop) (φ0 : Env) (im : Nat → Prop) (φ : Env) (s : St) (a : Act) (w : World) : Prop where
  base : Base w0 S im0 bo
  size : a.tmps.size = n
  defers : a.defers = []
  tmp : ∀ t, R im w bo φ (s.tmp t) (a.tmps.getD t Go.undef)
  own : Own im bo φ w s.slot
  kept : Kept S w0 w
  imlt : ∀ b, im b → b < w.heap.size
  imo : ∀ b, im0 b → im b
  imn : ∀ b, im b → im0 b ∨ S b ∨ w0.heap.size ≤ b
  owo : ∀ b k B base sz lim, s.slot b = some (some k) → φ b = some (.at_ B base sz lim) → S B ∨ w0.heap.size ≤ B
  dom : ∀ b, s.slot b = none → φ b = none
  arg : ∀ b p, φ0 b = some p → φ b = some p

structure TIOk (P : Program) (t : Nat) (i : TI) : Prop where
  info : ∃ j d, P.info? t = some j ∧ P.underlying t = some d ∧ j.size = i.size ∧ j.bytes = i.bytes ∧ i.kind.desc d = true ∧
    (i.zero.isEmpty = false → ∃ z, j.zero = some z ∧ ofVs z.cells.toList = some i.zero ∧ i.zero.length = i.size ∧ Ones z.cells.toList)
  eq : i.eq.isEmpty = false → ∀ (im bo : Nat → Prop) (φ : Env) (w w' : World) (as bs : List D) (xs ys : List Value) (r : Bool), Rs im w' bo φ as xs → Rs im w' bo φ bs ys → eqCells i.eq as bs = some r →
    (Op.equal t (.agg xs.toArray) (.agg ys.toArray)).run P w = .ok r w ∧ P.eqGuardType P.depth t = false
def TyOk (P : Program) (ty : Ty) : Prop := ∀ (t : Nat) (i : TI), ty[t]? = some i → TIOk P t i

mutual
theorem ofV_R {im bo : Nat → Prop} {w : World} {φ : Env} : ∀ (v : Value) (d : D), ofV v = some d → R im w bo φ d v
  | .bool b, d, h => by simp [ofV] at h; subst h; exact .bool _
  | .int k n, d, h => by simp [ofV] at h; subst h; exact .int _ _
  | .string s, d, h => by simp [ofV] at h; subst h; exact .str _
  | .pointer none, d, h => by simp [ofV] at h; subst h; exact .nilp
  | .pointer (some _), d, h => by simp [ofV] at h
  | .slice none 0 0, d, h => by simp [ofV] at h; subst h; exact .nils
  | .slice none 0 (_ + 1), d, h => by simp [ofV] at h
  | .slice none (_ + 1) _, d, h => by simp [ofV] at h
  | .slice (some _) _ _, d, h => by simp [ofV] at h
  | .nilFunc, d, h => by simp [ofV] at h; subst h; exact .nilf
  | .func (.func f) ⟨[]⟩ ⟨[]⟩, d, h => by simp [ofV] at h; subst h; exact .fn (vs := []) .nil
  | .func (.func f) ⟨[]⟩ ⟨_ :: _⟩, d, h => by simp [ofV] at h
  | .func (.func f) ⟨_ :: _⟩ _, d, h => by simp [ofV] at h
  | .func (.method _) _ _, d, h => by simp [ofV] at h
  | .func (.methodOf _ _) _ _, d, h => by simp [ofV] at h
  | .func (.via _ _ _ _) _ _, d, h => by simp [ofV] at h
  | .func (.yield _) _ _, d, h => by simp [ofV] at h
  | .agg ⟨cs⟩, d, h => by
    simp only [ofV] at h
    cases ho : cs.all Value.oneCell' with
    | false => rw [ho] at h; simp at h
    | true =>
      rw [ho] at h
      simp only [cond_true, Option.map_eq_some_iff] at h
      obtain ⟨ds, hd, rfl⟩ := h
      exact .agg (vs := cs) (fun v hv => List.all_eq_true.1 ho v hv) (ofVs_R cs ds hd)
  | .tuple _, d, h => by simp [ofV] at h
  | .float _ _, d, h => by simp [ofV] at h
  | .complex _ _ _, d, h => by simp [ofV] at h
  | .map _, d, h => by simp [ofV] at h
  | .chan _, d, h => by simp [ofV] at h
  | .iface _ _, d, h => by simp [ofV] at h
  | .nilIface, d, h => by simp [ofV] at h
theorem ofVs_R {im bo : Nat → Prop} {w : World} {φ : Env} : ∀ (vs : List Value) (ds : List D), ofVs vs = some ds → Rs im w bo φ ds vs
  | [], ds, h => by simp [ofVs] at h; subst h; exact .nil
  | v :: vs, ds, h => by
    simp only [ofVs] at h
    split at h
    · rename_i d es hd he
      simp at h; subst h
      exact .cons (ofV_R v d hd) (ofVs_R vs es he)
    · simp at h
end

section
variable {P : Program} {ty : Ty} {n : Nat} {w0 : World} {S im0 bo im : Nat → Prop} {φ0 φ : Env} {s : St} {a : Act} {w : World}
theorem ev_sim (hr : Rel n w0 S im0 bo φ0 im φ s a w) {x : Operand} {d : D} {l : Log} (h : ev x s = some (d, l)) : R im w bo φ d (a.eval x) := by
  cases x with
  | tmp t => rw [getT_eq h]; exact hr.tmp t
  | const v => exact ofV_R v d (lift_eq h).1
  | global g => exact (M.fail_eq (s := s) h).elim
  | func f => obtain ⟨rfl, _⟩ := M.pure_eq (s := s) h; exact .fn (vs := []) .nil
theorem evl_sim (hr : Rel n w0 S im0 bo φ0 im φ s a w) : ∀ {xs : List Operand} {ds : List D} {l : Log}, evl xs s = some (ds, l) → Rs im w bo φ ds (xs.map a.eval) := by
  intro xs
  induction xs with
  | nil => intro ds l h; obtain ⟨rfl, _⟩ := M.pure_eq h; exact .nil
  | cons x xs ih =>
    intro ds l h
    obtain ⟨d, l1, l2, h1, h2, _⟩ := M.bind_eq h
    obtain ⟨es, l3, l4, h3, h4, _⟩ := M.bind_eq h2
    obtain ⟨rfl, _⟩ := M.pure_eq h4
    exact .cons (ev_sim hr h1) (ih h3)
theorem at_bind (ht : TyOk P ty) {t : Nat} {β : Type} {f : TI → M β} {b : β} {k : Log} (h : (ty.at t >>= f) s = some (b, k)) (ho : k.ok) : ∃ i, TIOk P t i ∧ ∃ l, f i s = some (b, l) ∧ l.ok := by
  obtain ⟨a, l, l', h1, h2, h3, h4⟩ := M.bindO h ho
  exact ⟨a, ht t a (lift_eq h1).1, l', h2, h4⟩
theorem ev_bind (hr : Rel n w0 S im0 bo φ0 im φ s a w) {x : Operand} {β : Type} {f : D → M β} {b : β} {k : Log} (h : (ev x >>= f) s = some (b, k)) (ho : k.ok) : ∃ d, R im w bo φ d (a.eval x) ∧ ∃ l, f d s = some (b, l) ∧ l.ok := by
  obtain ⟨d, l, l', h1, h2, h3, h4⟩ := M.bindO h ho
  exact ⟨d, ev_sim hr h1, l', h2, h4⟩
theorem evl_bind (hr : Rel n w0 S im0 bo φ0 im φ s a w) {xs : List Operand} {β : Type} {f : List D → M β} {b : β} {k : Log} (h : (evl xs >>= f) s = some (b, k)) (ho : k.ok) : ∃ ds, Rs im w bo φ ds (xs.map a.eval) ∧ ∃ l, f ds s = some (b, l) ∧ l.ok := by
  obtain ⟨d, l, l', h1, h2, h3, h4⟩ := M.bindO h ho
  exact ⟨d, evl_sim hr h1, l', h2, h4⟩
end
theorem Rs.toArr {im bo : Nat → Prop} {w : World} {φ : Env} {ds : List D} {v : Value} (h : R im w bo φ (.agg ds) v) : ∃ vs, v = .agg vs.toArray ∧ Rs im w bo φ ds vs ∧ Ones vs := by
  cases h with | agg o k => exact ⟨_, rfl, k, o⟩

/-! ### sums, comparisons -/
section
variable {P : Program} {w : World}
theorem binOp_int {op : BinOp} {t : TypeId} {k : IntKind} {x y : Int} {s : St} {d : D} {l : Log} (hs : op ≠ .shl) (hs' : op ≠ .shr) (h : intOp op k x y s = some (d, l)) (ho : l.ok) :
    ∃ v, (binOp op t (.int k x) (.int k y)).run P w = .ok v w ∧ ∀ im bo φ, R im w bo φ d v := by
  cases op <;> simp only [intOp, ne_eq, not_true_eq_false] at h hs hs' <;> first
    | (obtain ⟨rfl, _⟩ := M.pure_eq h
       exact ⟨_, (by simp only [binOp, ne_eq, not_true_eq_false, if_false]; rfl), fun _ _ _ => by first | exact .int _ _ | exact .bool _⟩)
    | (obtain ⟨hy, l', h2, _⟩ := need_bind h ho
       obtain rfl := pure_ok h2
       exact ⟨_, (by simp only [binOp, ne_eq, not_true_eq_false, if_false, Op.intDiv, if_neg hy]; rfl), fun _ _ _ => .int _ _⟩)
    | exact (M.fail_eq h).elim
theorem binOp_sh {op : BinOp} {t : TypeId} {k k' : IntKind} {x y : Int} {s : St} {d : D} {l : Log} (h : shOp op k x y s = some (d, l)) (ho : l.ok) :
    ∃ v, (binOp op t (.int k x) (.int k' y)).run P w = .ok v w ∧ ∀ im bo φ, R im w bo φ d v := by
  cases op <;> simp only [shOp] at h <;> first
    | (obtain ⟨hy, l', h2, _⟩ := need_bind h ho
       obtain rfl := pure_ok h2
       exact ⟨_, (by simp only [binOp, Op.shift, if_neg (Int.not_lt.2 hy)]; rfl), fun _ _ _ => .int _ _⟩)
    | exact (M.fail_eq h).elim
theorem binOp_str {op : BinOp} {t : TypeId} {x y : ByteArray} {s : St} {d : D} {l : Log} (h : strOp op x y s = some (d, l)) (ho : l.ok) :
    ∃ v, (binOp op t (.string x) (.string y)).run P w = .ok v w ∧ ∀ im bo φ, R im w bo φ d v := by
  cases op <;> simp only [strOp] at h <;> first
    | (obtain ⟨hy, l', h2, _⟩ := need_bind h ho
       obtain rfl := pure_ok h2
       refine ⟨.string (x ++ y), ?_, fun _ _ _ => .str _⟩
       have e : (IntKind.i64.max : Int) = 9223372036854775807 := by decide
       simp only [binOp, Op.stringOp, e]
       rw [if_neg (by omega)]
       rfl)
    | (obtain ⟨rfl, _⟩ := M.pure_eq h
       exact ⟨_, rfl, fun _ _ _ => .bool _⟩)
    | exact (M.fail_eq h).elim
theorem neg_eq {op : BinOp} {b : Bool} {s : St} {d : D} {l : Log} (h : neg op b s = some (d, l)) : (op = .eql ∧ d = .bool b ∨ op = .neq ∧ d = .bool (!b)) ∧ l = {} := by
  cases op <;> simp only [neg] at h <;> first
    | (obtain ⟨rfl, hl⟩ := M.pure_eq h; exact ⟨by simp, hl⟩)
    | exact (M.fail_eq h).elim
end
end Go.Proofs.YtmhlgpdoedbedaaGreat.Sv
