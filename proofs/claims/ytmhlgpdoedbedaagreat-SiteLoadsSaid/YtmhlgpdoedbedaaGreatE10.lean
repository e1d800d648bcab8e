/- Plain laws: what the statements say, copies. -/
import Derived.Test.YtmhlgpdoedbedaaGreatE9
import Derived.Test.YtmhlgpdoedbedaaGreatES
namespace Go.Proofs.YtmhlgpdoedbedaaGreat.Pu
set_option linter.unusedSimpArgs false
set_option linter.unusedVariables false
open Go Go.RowKit Go.Proofs.YtmhlgpdoedbedaaGreat.Sv Go.Proofs.YtmhlgpdoedbedaaGreat.Lf
def flowI (i : Int) : GFlow := ⟨i % 65536, 167772161, 6, 7, 80⟩
def sayB (body : ByteArray) : ByteArray := body.extract 0 (min 60 body.size)
def sayS (i flags : Int) (body : ByteArray) : ByteArray := packF (flowI i) (flags % 64) (sayB body)
theorem sayB_size (body : ByteArray) : (sayB body).size ≤ 60 := by unfold sayB; rw [ByteArray.size_extract]; omega
theorem say_ok (i flags : Int) (body : ByteArray) : okP (flowI i) (flags % 64) (sayB body) := by
  have hb := sayB_size body
  refine ⟨?_, ?_⟩
  · unfold mayF flowI; dsimp only; exact decide_eq_true ⟨by omega, by omega, by omega, by omega, by omega⟩
  · unfold mayS kindS segOf flowI; dsimp only; exact decide_eq_true ⟨⟨by omega, by omega, by omega⟩, .inl ⟨rfl, by omega, by omega, by omega⟩⟩
theorem say_of (i flags : Int) (body : ByteArray) : ofF (sayS i flags body) = (flowI i, segOf (flowI i) (flags % 64) (sayB body), 0) := of_pack (say_ok i flags body) rfl
theorem say_size (i flags : Int) (body : ByteArray) : (sayS i flags body).size ≤ 100 := by
  have := pack_size (say_ok i flags body); have := sayB_size body
  unfold sayS; omega
theorem say_via (n : Nat) : (if decide (60 < (n : Int)) then (60 : Int) else (n : Int)) = ((min 60 n : Nat) : Int) := by
  by_cases c : 60 < n
  · rw [if_pos (decide_eq_true (by omega)), Nat.min_eq_left (by omega)]; rfl
  · rw [if_neg (by rw [decide_eq_true_eq]; omega), Nat.min_eq_right (by omega)]
end Go.Proofs.YtmhlgpdoedbedaaGreat.Pu
