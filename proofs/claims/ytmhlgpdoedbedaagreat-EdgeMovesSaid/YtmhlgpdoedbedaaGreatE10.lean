/- Plain laws: what the statements say, copies. -/
import Derived.Test.YtmhlgpdoedbedaaGreatE9
import Derived.Test.YtmhlgpdoedbedaaGreatES
namespace Go.Proofs.YtmhlgpdoedbedaaGreat.Pu
set_option linter.unusedSimpArgs false
set_option linter.unusedVariables false
open Go Go.RowKit Go.Proofs.YtmhlgpdoedbedaaGreat.Sv Go.Proofs.YtmhlgpdoedbedaaGreat.Lf
def flowI (i : Int) : GFlow := ⟨i % 65536, 167772161, 6, 7, 80⟩
def sayB (body : ByteArray) : ByteArray := body.extract 0 (min 60 body.size)
def sayS (i flags : Int) (body : ByteArray) : ByteArray := packF (flowI i) (flags % 64) (sayB body)
theorem sayB_size (body : ByteArray) : (sayB body).size ≤ 60 := by unfold sayB; rw [ByteArray.size_extract]; omega
theorem say_ok (i flags : Int) (body : ByteArray) : okP (flowI i) (flags % 64) (sayB body) := by
  have hb := sayB_size body
  refine ⟨?_, ?_⟩
  · unfold mayF flowI; dsimp only; exact decide_eq_true ⟨by omega, by omega, by omega, by omega, by omega⟩
  · unfold mayS kindS segOf flowI; dsimp only; exact decide_eq_true ⟨⟨by omega, by omega, by omega⟩, .inl ⟨rfl, by omega, by omega, by omega⟩⟩
theorem say_of (i flags : Int) (body : ByteArray) : ofF (sayS i flags body) = (flowI i, segOf (flowI i) (flags % 64) (sayB body), 0) := of_pack (say_ok i flags body) rfl
theorem say_size (i flags : Int) (body : ByteArray) : (sayS i flags body).size ≤ 100 := by
  have := pack_size (say_ok i flags body); have := sayB_size body
  unfold sayS; omega
theorem say_via (n : Nat) : (if decide (60 < (n : Int)) then (60 : Int) else (n : Int)) = ((min 60 n : Nat) : Int) := by
  by_cases c : 60 < n
  · rw [if_pos (decide_eq_true (by omega)), Nat.min_eq_left (by omega)]; rfl
  · rw [if_neg (by rw [decide_eq_true_eq]; omega), Nat.min_eq_right (by omega)]
theorem CopyC0_loop {N : Nat} (v : Int) (ss : List GSite) (hs : ss.length ≤ 100) (hb : ∀ y ∈ ss, y.Backs.length ≤ 100) (z : Int) : ∀ (d fuel i : Nat) (b : List GSite), ss.length = i + d → d < fuel → b.length = i →
    L_law0_CopyConfig_1 N fuel v ss z v b (i : Int) = some ⟨v, b ++ ss.drop i⟩ := by
  intro d
  induction d with
  | zero =>
    intro fuel i b hi hf hl
    obtain ⟨fuel, rfl⟩ : ∃ f, fuel = f + 1 := ⟨fuel - 1, by omega⟩
    rw [L_law0_CopyConfig_1, List.drop_of_length_le (by omega), List.append_nil]
    exact stDF (by omega) rfl
  | succ d ih =>
    intro fuel i b hi hf hl
    obtain ⟨fuel, rfl⟩ : ∃ f, fuel = f + 1 := ⟨fuel - 1, by omega⟩
    have hil : i < ss.length := by omega
    have hm := hb _ (getD_mem hil)
    rw [L_law0_CopyConfig_1, Int.toNat_natCast, w64 (n := (i : Int) + 1) (by omega) (by omega)]
    refine stDT (by omega) (stIf (by omega) (stIf (growOk_small (by omega) (by omega)) (stIf (growOk_small (by omega) (by omega)) ?_)))
    refine (ih fuel (i + 1) (b ++ [ss.getD i default]) (by omega) (by omega) (by rw [List.length_append, hl]; rfl)).trans ?_
    rw [List.append_assoc, drop_at hil]
    rfl
theorem CopyC0_eq {N : Nat} (hN : 1000 ≤ N) (c : GConfig) (hs : c.Sites.length ≤ 100) (hb : ∀ y ∈ c.Sites, y.Backs.length ≤ 100) : L_law0_CopyConfig N c = some c :=
  CopyC0_loop c.Version c.Sites hs hb 0 c.Sites.length N 0 [] (by omega) (by omega) rfl
end Go.Proofs.YtmhlgpdoedbedaaGreat.Pu
