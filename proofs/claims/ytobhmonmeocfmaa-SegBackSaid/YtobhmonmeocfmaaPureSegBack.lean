import Derived.Test.YtobhmonmeocfmaaTurnSum
import Derived.Test.YtobhmonmeocfmaaSegI
namespace Go.Proofs.Ytobhmonmeocfmaa.Pure
set_option linter.unusedSimpArgs false
set_option linter.unusedVariables false
open Go Go.RowKit Go.Proofs.Ytobhmonmeocfmaa.PA Go.Proofs.YtobhmonmeocfmaaW.PrintWords Go.Proofs.YtobhmonmeocfmaaW.PrintLast Go.Proofs.YtobhmonmeocfmaaW.PrintMore Go.Proofs.Ytobhmonmeocfmaa.Wh
theorem segback_pure {proto sport dport seq ack flags : Int} {body : ByteArray} (h : mayS proto sport dport seq ack flags body = true) (src dst : Int) (i : Nat) (hi : i < (putS proto sport dport seq ack flags body src dst).size) (x : UInt8) (hx : (x.toNat : Int) ≠ bt (putS proto sport dport seq ack flags body src dst) i) :
    getS proto (turnS (putS proto sport dport seq ack flags body src dst) i x) src dst = badS ∨
      (proto = 17 ∧ bt (turnS (putS proto sport dport seq ack flags body src dst) i x) 6 = 0 ∧ bt (turnS (putS proto sport dport seq ack flags body src dst) i x) 7 = 0 ∧ ∃ r1 r2 r3 r4 r5 r6 r7, getS proto (turnS (putS proto sport dport seq ack flags body src dst) i x) src dst = (r1, r2, r3, r4, r5, r6, r7, 0)) := by
  obtain ⟨c0, c1, _⟩ := chk_range proto sport dport seq ack flags body src dst (kind_of h)
  have hs : sumS src dst proto (putS proto sport dport seq ack flags body src dst) = 65535 := (sum_text proto sport dport seq ack flags _ body src dst c0 c1).trans (chk_sum _ _ _ _ _ _ _ _ _ (kind_of h))
  generalize putS proto sport dport seq ack flags body src dst = s at *
  have hne : sumS src dst proto (turnS s i x) ≠ 65535 := by
    rw [sumS_eq] at hs ⊢
    rw [turnS_size, turnS_list, raw_set _ _ _ (Nat.le_refl _) i (by rw [bytesOf_length]; exact hi), ← bt_get, ← Int.add_assoc]
    obtain ⟨q1, q2, q3⟩ := byte_move (x.toNat : Int) (bt s i) i (byte_range x) (bt_range s i) hx
    exact fold_move hs q1 q2 q3
  generalize turnS s i x = t at *
  unfold getS
  rcases kind_of h with rfl | rfl
  · refine .inl ?_
    rw [if_pos rfl]
    by_cases c : t.size < 20 ∨ bt t 12 ≠ 80
    · rw [if_pos c]
    rw [if_neg c]
    unfold okS
    rw [if_neg (fun hh => by rcases hh.2.2.2 with q | q; cases q; exact hne q)]
  · rw [if_neg (by decide), if_pos rfl]
    by_cases c : t.size < 8 ∨ N2 t 4 ≠ t.size
    · rw [if_pos c]; exact .inl rfl
    rw [if_neg c]
    by_cases z : N2 t 6 = 0
    · have b6 := bt_range t ((6 : Nat) : Int); have b7 := bt_range t ((6 + 1 : Nat) : Int)
      have z' : bt t ((6 : Nat) : Int) * 256 + bt t ((6 + 1 : Nat) : Int) = 0 := z
      unfold okS
      by_cases d : true = true ∧ mayS 17 (N2 t 0) (N2 t 2) 0 0 0 (t.extract 8 t.size) = true ∧ mayE src dst = true ∧ (decide (N2 t 6 = 0) = true ∨ sumS src dst 17 t = 65535)
      · rw [if_pos d]
        exact .inr ⟨rfl, show bt t ((6 : Nat) : Int) = 0 by omega, show bt t ((6 + 1 : Nat) : Int) = 0 by omega, _, _, _, _, _, _, _, rfl⟩
      · rw [if_neg d]; exact .inl rfl
    · refine .inl ?_
      unfold okS
      rw [if_neg (fun hh => by rcases hh.2.2.2 with q | q; exact z (by simpa using q); exact hne q)]
end Go.Proofs.Ytobhmonmeocfmaa.Pure
