/- One byte turned: what becomes of sums. -/
import Derived.Test.YtobhmonmeocfmaaTurn
namespace Go.Proofs.Ytobhmonmeocfmaa.Pure
set_option linter.unusedSimpArgs false
set_option linter.unusedVariables false
open Go Go.RowKit Go.Proofs.YtobhmonmeocfmaaW.PrintWords Go.Proofs.YtobhmonmeocfmaaW.PrintLast Go.Proofs.YtobhmonmeocfmaaW.PrintMore Go.Proofs.Ytobhmonmeocfmaa.Wh
theorem raw_set (y : Int) : ∀ (n : Nat) (L : List Int), L.length ≤ n → ∀ i, i < L.length → rawL (L.set i y) = rawL L + (y - L.getD i 0) * (if i % 2 = 0 then 256 else 1)
  | 0, L, hn, i, hi => by omega
  | n + 1, [], hn, i, hi => by simp at hi
  | n + 1, [a], hn, i, hi => by
    obtain rfl : i = 0 := by simp at hi; omega
    simp [rawL]; omega
  | n + 1, a :: b :: t, hn, 0, hi => by simp [rawL]; omega
  | n + 1, a :: b :: t, hn, 1, hi => by simp [rawL]; omega
  | n + 1, a :: b :: t, hn, i + 2, hi => by
    have ih := raw_set y n t (by simp at hn; omega) i (by simp at hi; omega)
    simp only [List.set_cons_succ, rawL, List.getD_cons_succ]
    rw [ih, show (i + 2) % 2 = i % 2 by omega]
    omega
theorem fold_move {R D : Int} (h : foldS R = 65535) (hD : D ≠ 0) (h1 : -65280 ≤ D) (h2 : D ≤ 65280) : foldS (R + D) ≠ 65535 := by
  unfold foldS at *
  by_cases a : R = 0
  · rw [if_pos a] at h; omega
  rw [if_neg a] at h
  by_cases b : R + D = 0
  · rw [if_pos b]; omega
  · rw [if_neg b]; omega
theorem byte_move (y z : Int) (i : Nat) (hy : 0 ≤ y ∧ y ≤ 255) (hz : 0 ≤ z ∧ z ≤ 255) (h : y ≠ z) : (y - z) * (if i % 2 = 0 then 256 else 1) ≠ 0 ∧ -65280 ≤ (y - z) * (if i % 2 = 0 then 256 else 1) ∧ (y - z) * (if i % 2 = 0 then 256 else 1) ≤ 65280 := by
  by_cases c : i % 2 = 0
  · rw [if_pos c]; omega
  · rw [if_neg c]; omega
theorem bt_turn_ne (s : ByteArray) (i j : Nat) (x : UInt8) (h : j ≠ i) : bt (turnS s i x) j = bt s j := by
  rw [bt_get, bt_get, turnS_list, List.getD_eq_getElem?_getD, List.getD_eq_getElem?_getD, List.getElem?_set_ne (fun e => h e.symm)]
theorem bt_turn_eq (s : ByteArray) (i : Nat) (x : UInt8) (h : i < s.size) : bt (turnS s i x) i = x.toNat := by
  rw [bt_get, turnS_list, List.getD_eq_getElem?_getD, List.getElem?_set_self (by rw [bytesOf_length]; exact h)]
  rfl
theorem byte_range (x : UInt8) : 0 ≤ (x.toNat : Int) ∧ (x.toNat : Int) ≤ 255 := by have := x.toNat_lt; omega
theorem row_turned (w : World) (e : TypeId) (s : ByteArray) (i j : Nat) (x : UInt8) (hi : i < s.size) (hj : j < s.size) :
    ((rowW w e s).setCell ⟨w.heap.size, i, none⟩ (.int .u8 (x.toNat : Int))).cell? ⟨w.heap.size, j, none⟩ = some (.int .u8 (bt (turnS s i x) j)) := by
  by_cases c : j = i
  · subst c
    rw [World.cell?_setCell_same _ _ _ (rowW_bt w e s j hj), bt_turn_eq s j x hj]
  · rw [World.cell?_setCell_other _ _ _ _ (fun q => c (by injection q with _ q2; exact q2.symm)), rowW_bt w e s j hj, bt_turn_ne s i j x c]
end Go.Proofs.Ytobhmonmeocfmaa.Pure
