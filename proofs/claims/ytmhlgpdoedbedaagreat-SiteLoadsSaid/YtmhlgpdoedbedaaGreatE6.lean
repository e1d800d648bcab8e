/- Plain laws: the same edge; what was put is found. -/
import Derived.Test.YtmhlgpdoedbedaaGreatE4
import Derived.Test.YtmhlgpdoedbedaaGreatBd
namespace Go.Proofs.YtmhlgpdoedbedaaGreat.Pu
set_option linter.unusedSimpArgs false
set_option linter.unusedVariables false
open Go Go.RowKit Go.Proofs.YtmhlgpdoedbedaaGreat.Sv Go.Proofs.YtmhlgpdoedbedaaGreat.Lf
theorem tlB (a : ByteArray) : (a.toList == a.toList) = true := by rw [beq_iff_eq]
theorem beqI (a : Int) : (a == a) = true := by rw [beq_iff_eq]
theorem beqB (a : Bool) : (a == a) = true := by cases a <;> rfl
theorem SameEntrys_loop (N : Nat) (T : List GEntry) (hT : T.length ≤ 100) : ∀ (d fuel i : Nat), T.length = i + d → d < fuel → L_law0_SameEntrys_1 N fuel T T (i : Int) = some true := by
  intro d
  induction d with
  | zero =>
    intro fuel i hi hf
    obtain ⟨fuel, rfl⟩ : ∃ f, fuel = f + 1 := ⟨fuel - 1, by omega⟩
    rw [L_law0_SameEntrys_1]
    exact stDF (by omega) rfl
  | succ d ih =>
    intro fuel i hi hf
    obtain ⟨fuel, rfl⟩ : ∃ f, fuel = f + 1 := ⟨fuel - 1, by omega⟩
    rw [L_law0_SameEntrys_1, w64 (n := (i : Int) + 1) (by omega) (by omega)]
    refine stDT (by omega) (stIf (by omega) (stIf (by omega) ?_))
    simp only [beqI, beqB, Bool.and_true, Bool.not_true, cond_false]
    exact ih fuel (i + 1) (by omega) (by omega)
theorem put_mem {es : List GEntry} {x y : GEntry} (h : y ∈ (putE es x).1) : y ∈ es ∨ y = x := by
  have hs : y ∈ rest es x.Flow ++ [x] := by
    unfold putE at h
    split at h
    · exact List.mem_of_mem_drop h
    · exact h
  rcases List.mem_append.1 hs with h | h
  · exact .inl (List.mem_filter.1 h).1
  · exact .inr (List.mem_singleton.1 h)
end Go.Proofs.YtmhlgpdoedbedaaGreat.Pu
