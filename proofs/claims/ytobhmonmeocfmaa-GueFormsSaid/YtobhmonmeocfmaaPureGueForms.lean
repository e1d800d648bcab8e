import Derived.Test.YtobhmonmeocfmaaGueI
import Derived.Test.YtobhmonmeocfmaaFAWharfagelaw6GueForms
namespace Go.Proofs.Ytobhmonmeocfmaa.Pure
set_option linter.unusedSimpArgs false
set_option linter.unusedVariables false
open Go Go.RowKit Go.Proofs.Ytobhmonmeocfmaa.PA Go.Proofs.YtobhmonmeocfmaaW.PrintWords Go.Proofs.YtobhmonmeocfmaaW.PrintLast Go.Proofs.YtobhmonmeocfmaaW.PrintMore Go.Proofs.Ytobhmonmeocfmaa.Wh
theorem awake6F : wharfagelaw6_awake.f 700 = some true := by decide +kernel
theorem gforms_j (a0 a1 a2 a3 a4 : Int) (a5 : ByteArray) (h0 : R64 a0) (h1 : R64 a1) (h : mayG a0 a1 a2 a3 a4 a5 = false) :
    wharfagelaw6_GueForms.j0 (699 + 1) 167837696 167903232 1 0 0 (⟨#[]⟩ : ByteArray) a0 a1 a2 a3 a4 a5 = some true := by
  have hz : (strOfNums (List.replicate 324 0)).size = 324 := by rw [strOfNums_size, List.length_replicate]
  have hx : (⟨#[120]⟩ : ByteArray).size = 1 := rfl
  rw [wharfagelaw6_GueForms.j0, Push_bad 699 h0 h1 h, Option.bind_some, if_pos (by decide), Option.bind_some]
  generalize strOfNums (List.replicate 324 0) = body at *
  have m1 : mayG 167837696 167903232 1 0 0 body = true := by
    unfold mayG
    rw [decide_eq_true_eq]
    exact ⟨by unfold Known; omega, by unfold Known; omega, by omega, by omega, by omega, by omega, by omega⟩
  have m2 : mayG 167837696 167903232 1 0 0 (body ++ (⟨#[120]⟩ : ByteArray)) = true := by
    unfold mayG
    rw [decide_eq_true_eq, ByteArray.size_append, hx]
    exact ⟨by unfold Known; omega, by unfold Known; omega, by omega, by omega, by omega, by omega, by omega⟩
  have hp := pushI_size 167837696 167903232 1 0 0 body
  rw [Push_ok 699 (by decide) (by constructor <;> decide) (by constructor <;> decide) m1 (by omega), Option.bind_some, if_pos (by omega), Push_big 699 (by constructor <;> decide) (by constructor <;> decide) m2 (by rw [ByteArray.size_append, hx]; omega), Option.bind_some, MayG_eq _ _ _ _ _ _ h0 h1, h, Option.bind_some, if_neg (by decide), empty_toList, if_pos rfl]
  dsimp only
  rw [num0, Option.bind_some, if_pos rfl, hp, if_pos (by omega)]
  rfl
theorem not_mayG {a0 a1 a2 a3 a4 : Int} {a5 : ByteArray} (h : ¬ (Known a0 ∧ Known a1 ∧ 1 ≤ a2 ∧ a2 ≤ 4 ∧ (0 ≤ a3 ∧ a3 < 256) ∧ (0 ≤ a4 ∧ a4 < 256) ∧ a5.size ≤ 512)) : mayG a0 a1 a2 a3 a4 a5 = false := decide_eq_false h
theorem GueForms : wharfagelaw6_GueForms.Pure := by
  intro a x _ _
  refine ⟨700, ?_⟩
  unfold wharfagelaw6_GueForms.f
  rw [awake6F, Option.bind_some, if_pos rfl]
  obtain ⟨d, hd, d0, d1⟩ : ∃ d, wrap64 (1 + Go.bits .and .i64 x 1023) = d ∧ 1 ≤ d ∧ d ≤ 1024 := by
    refine ⟨_, rfl, ?_⟩
    rw [and_1023, wrap64_id (by omega) (by omega)]; omega
  rw [hd, wrap64_id (n := 512 + d) (by omega) (by omega), wrap64_id (n := -d) (by omega) (by omega), wrap64_id (n := 1 - d) (by omega) (by omega), wrap64_id (n := 4 + d) (by omega) (by omega), wrap64_id (n := 255 + d) (by omega) (by omega)]
  have hs : (strOfNums (List.replicate (512 + d).toNat 0)).size = (512 + d).toNat := by rw [strOfNums_size, List.length_replicate]
  generalize strOfNums (List.replicate (512 + d).toNat 0) = body at *
  generalize Int.tmod (IntKind.u64.wrap a) 10 = j
  have r1 : R64 167837696 := by constructor <;> decide
  have r2 : R64 167903232 := by constructor <;> decide
  have r3 : R64 0 := by constructor <;> decide
  have r4 : R64 167772161 := by constructor <;> decide
  have r5 : R64 167837698 := by constructor <;> decide
  refine ite_to (fun _ => gforms_j _ _ _ _ _ _ r3 r2 (not_mayG (fun h => absurd h.1 (by unfold Known; omega)))) (fun _ => ?_)
  refine ite_to (fun _ => gforms_j _ _ _ _ _ _ r1 r4 (not_mayG (fun h => absurd h.2.1 (by unfold Known; omega)))) (fun _ => ?_)
  refine ite_to (fun _ => gforms_j _ _ _ _ _ _ r1 r2 (not_mayG (fun h => by have := h.2.2; omega))) (fun _ => ?_)
  refine ite_to (fun _ => gforms_j _ _ _ _ _ _ r1 r2 (not_mayG (fun h => by have := h.2.2; omega))) (fun _ => ?_)
  refine ite_to (fun _ => gforms_j _ _ _ _ _ _ r1 r2 (not_mayG (fun h => by have := h.2.2; omega))) (fun _ => ?_)
  refine ite_to (fun _ => gforms_j _ _ _ _ _ _ r1 r2 (not_mayG (fun h => by have := h.2.2; omega))) (fun _ => ?_)
  refine ite_to (fun _ => gforms_j _ _ _ _ _ _ r1 r2 (not_mayG (fun h => by have := h.2.2; omega))) (fun _ => ?_)
  refine ite_to (fun _ => gforms_j _ _ _ _ _ _ r1 r2 (not_mayG (fun h => by have := h.2.2; omega))) (fun _ => ?_)
  refine ite_to (fun _ => ?_) (fun _ => gforms_j _ _ _ _ _ _ r5 r2 (not_mayG (fun h => absurd h.1 (by unfold Known; omega))))
  rw [if_pos (by omega), if_pos (by omega)]
  exact gforms_j _ _ _ _ _ _ r1 r2 (not_mayG (fun h => by have := h.2.2; omega))
end Go.Proofs.Ytobhmonmeocfmaa.Pure
