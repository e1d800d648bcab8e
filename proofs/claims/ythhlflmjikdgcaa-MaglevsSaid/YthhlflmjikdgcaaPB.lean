import Derived.Laws.BitsLemmas
import Derived.Test.YthhlflmjikdgcaaSvWc
set_option linter.unusedVariables false
set_option linter.unusedSimpArgs false
namespace Go.Proofs.Ythhlflmjikdgcaa.Pu
open Go Go.RowKit Go.Proofs.Ythhlflmjikdgcaa.Sv
theorem i64w (n : Int) : IntKind.i64.wrap n = (n + 9223372036854775808) % 18446744073709551616 - 9223372036854775808 := by rw [IntKind.wrap_i64]
theorem w64 {n : Int} (h0 : -9223372036854775808 ≤ n) (h1 : n ≤ 9223372036854775807) : IntKind.i64.wrap n = n := by rw [i64w]; omega
theorem condd {α : Type} (p : Prop) [Decidable p] (a b : α) : (bif decide p then a else b) = if p then a else b := by
  by_cases h : p <;> simp [h]
theorem cond_not' {α : Type} (p : Bool) (a b : α) : (bif !p then a else b) = bif p then b else a := by cases p <;> rfl
theorem ceq {α : Type} (x y : Int) (a b : α) : (bif x == y then a else b) = if x = y then a else b := by
  by_cases h : x = y
  · rw [if_pos h, beq_iff_eq.2 h]; rfl
  · rw [if_neg h, beq_eq_false_iff_ne.2 h]; rfl
theorem cne {α : Type} (x y : Int) (a b : α) : (bif x != y then a else b) = if x = y then b else a := by
  unfold bne
  rw [cond_not', ceq]
theorem viaE {α β : Type} (a : α) (f : α → Option β) : via a f = f a := rfl
section
variable {α β : Type} {r : Option α}
theorem stVia {γ : Type} {a : γ} {f : γ → Option α} (k : f a = r) : via a f = r := k
theorem stIf {p : Prop} [Decidable p] {a b : Option α} (h : p) (k : a = r) : (if p then a else b) = r := by rw [if_pos h, k]
theorem stB {a : Option β} {x : β} {f : β → Option α} (h : a = some x) (k : f x = r) : a.bind f = r := by rw [h, Option.bind_some, k]
theorem stDT {p : Prop} [Decidable p] {a b : Option α} (h : p) (k : a = r) : (bif decide p then a else b) = r := by rw [condd, if_pos h, k]
theorem stDF {p : Prop} [Decidable p] {a b : Option α} (h : ¬p) (k : b = r) : (bif decide p then a else b) = r := by rw [condd, if_neg h, k]
theorem stEF {x y : Int} {a b : Option α} (h : ¬x = y) (k : b = r) : (bif x == y then a else b) = r := by rw [ceq, if_neg h, k]
theorem stNT {x y : Int} {a b : Option α} (h : x = y) (k : b = r) : (bif x != y then a else b) = r := by rw [cne, if_pos h, k]
theorem stNF {x y : Int} {a b : Option α} (h : ¬x = y) (k : a = r) : (bif x != y then a else b) = r := by rw [cne, if_neg h, k]
theorem stTT {a b : Option α} (k : a = r) : (bif true then a else b) = r := k
theorem stFF {a b : Option α} (k : b = r) : (bif false then a else b) = r := k
theorem stNTT {a b : Option α} (k : b = r) : (bif !true then a else b) = r := k
end
theorem fd (x : Int) {k : Int} (h : 0 ≤ k) : x.fdiv k = x / k := Int.fdiv_eq_ediv_of_nonneg x h
theorem bt_get (s : ByteArray) (i : Nat) : bt s i = (bytesL s).getD i 0 := by
  unfold bt bytesL
  rw [Int.toNat_natCast]
  rw [List.getD_eq_getElem?_getD, List.getD_eq_getElem?_getD, List.getElem?_map]
  cases s.data.toList[i]? <;> rfl
end Go.Proofs.Ythhlflmjikdgcaa.Pu
