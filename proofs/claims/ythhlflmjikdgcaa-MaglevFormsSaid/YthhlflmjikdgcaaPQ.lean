/- Plain laws: MaglevForms. -/
import Derived.Test.YthhlflmjikdgcaaPN
namespace Go.Proofs.Ythhlflmjikdgcaa.Pu
set_option linter.unusedSimpArgs false
set_option linter.unusedVariables false
open Go Go.RowKit Go.Proofs.Ythhlflmjikdgcaa.Sv Go.Proofs.Ythhlflmjikdgcaa.Lf
set_option maxRecDepth 100000 in
theorem awake9 : L_law9_awake 281474976710656 = some true := by decide +kernel
theorem Pick_bad {cs : List GCandidate} (h : L_maglev_Build 281474976710656 cs = some ([], 900)) (x : Int) : L_maglev_Pick 281474976710656 cs x = some (0, false, 900) := by
  unfold L_maglev_Pick L_maglev_Pick_1
  exact stB h (stNF (by decide) rfl)
theorem Pick_neg {cs : List GCandidate} {T : List Int} (h : L_maglev_Build 281474976710656 cs = some (T, 0)) (x : Int) (hx : x < 0) : L_maglev_Pick 281474976710656 cs x = some (0, false, 900) := by
  unfold L_maglev_Pick L_maglev_Pick_1
  refine stB h (stNT rfl ?_)
  rw [decide_eq_true hx]
  rfl
def MM (n : Nat) : List GCandidate := (List.range n).map fun (i : Nat) => (⟨(i : Int), 1⟩ : GCandidate)
theorem MM_len (n : Nat) : (MM n).length = n := by simp [MM]
theorem MM_succ (n : Nat) : MM (n + 1) = MM n ++ [⟨(n : Int), 1⟩] := by simp [MM, List.range_succ]
theorem forms_loop (N : Nat) (t0 d : Int) {r : Option Bool} (hr : ∀ fuel, L_law9_MaglevForms_1 N (fuel + 1) t0 d (MM 17) 17 = r) : ∀ (k fuel i : Nat), 17 = i + k → k < fuel → L_law9_MaglevForms_1 N fuel t0 d (MM i) (i : Int) = r := by
  intro k
  induction k with
  | zero =>
    intro fuel i hi hf
    obtain ⟨fuel, rfl⟩ : ∃ f, fuel = f + 1 := ⟨fuel - 1, by omega⟩
    obtain rfl : i = 17 := by omega
    exact hr fuel
  | succ k ih =>
    intro fuel i hi hf
    obtain ⟨fuel, rfl⟩ : ∃ f, fuel = f + 1 := ⟨fuel - 1, by omega⟩
    have hn := ih fuel (i + 1) (by omega) (by omega)
    have hl := MM_len i
    rw [MM_succ] at hn
    rw [L_law9_MaglevForms_1]
    refine stDT (by omega) (stIf ⟨by omega, by omega⟩ ?_)
    rw [w64 (by omega) (by omega)]
    exact hn
theorem first3 : (((MM 17).drop (Int.toNat (0 : Int))).take (Int.toNat ((3 : Int) - (0 : Int)))) = [⟨0, 1⟩, ⟨1, 1⟩, ⟨2, 1⟩] := by kernel_rfl
theorem pick3 (d : Int) (h : 1 ≤ d ∧ d ≤ 1024) : L_maglev_Pick 281474976710656 (((MM 17).drop (Int.toNat (0 : Int))).take (Int.toNat ((3 : Int) - (0 : Int)))) (IntKind.i64.wrap (0 - d)) = some (0, false, 900) := by
  obtain ⟨T, t1, _⟩ := Build_eq (cs := [⟨0, 1⟩, ⟨1, 1⟩, ⟨2, 1⟩]) (by decide) (by decide)
  rw [first3]
  exact Pick_neg t1 _ (by rw [w64 (by omega) (by omega)]; omega)
theorem bad1 {a w : Int} (h : ¬ (0 ≤ a ∧ a < 256) ∨ ¬ (1 ≤ w ∧ w ≤ 16)) : mayC [⟨a, w⟩] = false := by
  unfold mayC badAt
  simp [List.range']
  omega
theorem tmod8 (x : Int) : 0 ≤ IntKind.i64.wrap ((IntKind.u64.wrap x).tmod 8) ∧ IntKind.i64.wrap ((IntKind.u64.wrap x).tmod 8) < 8 := by
  rw [wu64]
  have h1 : 0 ≤ x % 18446744073709551616 := Int.emod_nonneg _ (by decide)
  rw [Int.tmod_eq_emod_of_nonneg h1, w64 (by omega) (by omega)]
  omega
theorem forms_end (t0 d : Int) (h : 1 ≤ d ∧ d ≤ 1024) (fuel : Nat) : L_law9_MaglevForms_1 281474976710656 (fuel + 1) t0 d (MM 17) 17 = some true := by
  have p3 := pick3 d h
  have hl := MM_len 17
  rw [L_law9_MaglevForms_1]
  unfold L_law9_MaglevForms_2
  obtain ⟨q0, q1⟩ := tmod8 t0
  refine stDF (by decide) (stIf (by rw [hl]; decide) (stIf (by rw [hl]; decide) (stIf (by rw [hl]; decide) (stIf (by rw [hl]; decide) (stVia ?_)))))
  generalize IntKind.i64.wrap ((IntKind.u64.wrap t0).tmod 8) = q at *
  have fin : ∀ b : List GCandidate, mayC b = false → b.length ≤ 17 → L_maglev_Build 281474976710656 b = some ([], 900) ∧ L_maglev_Pick 281474976710656 b 0 = some (0, false, 900) ∧ L_maglev_May 281474976710656 b = some false := fun b hb hz => by
    have hB := Build_bad (by omega) hb
    exact ⟨hB, Pick_bad hB 0, (MayC_eq _ b (by omega) (by omega)).trans (by rw [hb])⟩
  by_cases c0 : q = 0
  · obtain ⟨f1, f2, f3⟩ := fin [⟨IntKind.i64.wrap (0 - d), 1⟩] (bad1 (.inl (by rw [w64 (by omega) (by omega)]; omega))) (by simp)
    exact stET c0 (stB f1 (stB f2 (stIf (by rw [hl]; decide) (stB p3 (stB f3 rfl)))))
  refine stEF c0 ?_
  by_cases c1 : q = 1
  · obtain ⟨f1, f2, f3⟩ := fin [⟨IntKind.i64.wrap (255 + d), 1⟩] (bad1 (.inl (by rw [w64 (by omega) (by omega)]; omega))) (by simp)
    exact stET c1 (stB f1 (stB f2 (stIf (by rw [hl]; decide) (stB p3 (stB f3 rfl)))))
  refine stEF c1 ?_
  by_cases c2 : q = 2
  · obtain ⟨f1, f2, f3⟩ := fin [⟨0, 0⟩] (bad1 (.inr (by decide))) (by decide)
    exact stET c2 (stB f1 (stB f2 (stIf (by rw [hl]; decide) (stB p3 (stB f3 rfl)))))
  refine stEF c2 ?_
  by_cases c3 : q = 3
  · obtain ⟨f1, f2, f3⟩ := fin [⟨0, IntKind.i64.wrap (16 + d)⟩] (bad1 (.inr (by rw [w64 (by omega) (by omega)]; omega))) (by simp)
    exact stET c3 (stB f1 (stB f2 (stIf (by rw [hl]; decide) (stB p3 (stB f3 rfl)))))
  refine stEF c3 ?_
  by_cases c4 : q = 4
  · obtain ⟨f1, f2, f3⟩ := fin [⟨0, IntKind.i64.wrap (0 - d)⟩] (bad1 (.inr (by rw [w64 (by omega) (by omega)]; omega))) (by simp)
    exact stET c4 (stB f1 (stB f2 (stIf (by rw [hl]; decide) (stB p3 (stB f3 rfl)))))
  refine stEF c4 ?_
  by_cases c5 : q = 5
  · obtain ⟨f1, f2, f3⟩ := fin [(MM 17).getD (Int.toNat 1) default, (MM 17).getD (Int.toNat 0) default] (by decide +kernel) (by simp)
    exact stET c5 (stB f1 (stB f2 (stIf (by rw [hl]; decide) (stB p3 (stB f3 rfl)))))
  refine stEF c5 ?_
  by_cases c6 : q = 6
  · obtain ⟨f1, f2, f3⟩ := fin [(MM 17).getD (Int.toNat 0) default, (MM 17).getD (Int.toNat 0) default] (by decide +kernel) (by simp)
    exact stET c6 (stB f1 (stB f2 (stIf (by rw [hl]; decide) (stB p3 (stB f3 rfl)))))
  refine stEF c6 (stIf (by omega) ?_)
  obtain ⟨f1, f2, f3⟩ := fin (MM 17) (by decide +kernel) (by rw [hl]; decide)
  exact stB f1 (stB f2 (stIf (by rw [hl]; decide) (stB p3 (stB f3 rfl))))
theorem MaglevForms (which x : Int) : L_law9_MaglevForms 281474976710656 which x = some true := by
  unfold L_law9_MaglevForms
  rw [awake9, and_1023, w64 (by omega) (by omega)]
  exact stB rfl (stNTT (stVia (forms_loop _ which _ (fun fuel => forms_end which _ (by omega) fuel) 17 _ 0 rfl (by decide))))
end Go.Proofs.Ythhlflmjikdgcaa.Pu
