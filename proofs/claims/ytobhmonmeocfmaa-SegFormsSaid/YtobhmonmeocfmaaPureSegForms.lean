import Derived.Test.YtobhmonmeocfmaaSegI
import Derived.Test.YtobhmonmeocfmaaFAWharfagelaw3SegForms
namespace Go.Proofs.Ytobhmonmeocfmaa.Pure
set_option linter.unusedSimpArgs false
set_option linter.unusedVariables false
open Go Go.RowKit Go.Proofs.Ytobhmonmeocfmaa.PA Go.Proofs.YtobhmonmeocfmaaW.PrintWords Go.Proofs.YtobhmonmeocfmaaW.PrintLast Go.Proofs.YtobhmonmeocfmaaW.PrintMore Go.Proofs.Ytobhmonmeocfmaa.Wh
theorem awake3F : wharfagelaw3_awake.f 700 = some true := by decide +kernel
theorem r15 (a b c d e f g h i j k l m n o : S44) (q : Int) (h0 : 0 ≤ q) (h1 : q < 15) : rd_T44 [a, b, c, d, e, f, g, h, i, j, k, l, m, n, o] q = (if q = 0 then a else if q = 1 then b else if q = 2 then c else if q = 3 then d else if q = 4 then e else if q = 5 then f else if q = 6 then g else if q = 7 then h else if q = 8 then i else if q = 9 then j else if q = 10 then k else if q = 11 then l else if q = 12 then m else if q = 13 then n else o) := by
  obtain rfl | rfl | rfl | rfl | rfl | rfl | rfl | rfl | rfl | rfl | rfl | rfl | rfl | rfl | rfl : q = 0 ∨ q = 1 ∨ q = 2 ∨ q = 3 ∨ q = 4 ∨ q = 5 ∨ q = 6 ∨ q = 7 ∨ q = 8 ∨ q = 9 ∨ q = 10 ∨ q = 11 ∨ q = 12 ∨ q = 13 ∨ q = 14 := by omega
  all_goals rfl
theorem not_mayS (s : S44) (h : ¬ (((0 ≤ s.f1 ∧ s.f1 < 65536) ∧ (0 ≤ s.f2 ∧ s.f2 < 65536) ∧ (s.f6.size : Int) ≤ 256) ∧ kindS s.f0 s.f3 s.f4 s.f5)) : mayS s.f0 s.f1 s.f2 s.f3 s.f4 s.f5 s.f6 = false := decide_eq_false h
theorem get_noE (proto : Int) (s : ByteArray) (src dst : Int) (h : mayE src dst = false) : getS proto s src dst = badS := by
  have hn : ∀ is un p sp dp sq ak fl body q, okS q s src dst is un p sp dp sq ak fl body = badS := by
    intro is un p sp dp sq ak fl body q
    unfold okS; rw [if_neg (fun hh => by rw [h] at hh; cases hh.2.2.1)]
  unfold getS
  rw [hn, hn]
  by_cases a : proto = 6
  · rw [if_pos a]; exact ite_self _
  · rw [if_neg a]
    by_cases b : proto = 17
    · rw [if_pos b]; exact ite_self _
    · rw [if_neg b]
theorem txt4 (j : Int) (h0 : 0 ≤ j) (h1 : j < 4) : getS 17 (rdOf ByteArray.empty [(⟨#[]⟩ : ByteArray), (⟨#[0, 1, 0, 2, 0, 8, 0]⟩ : ByteArray), (⟨#[0, 1, 0, 2, 0, 9, 0, 0]⟩ : ByteArray), (⟨#[0, 1, 0, 2, 0, 8, 0, 1]⟩ : ByteArray)] j) 0 0 = badS := by
  obtain rfl | rfl | rfl | rfl : j = 0 ∨ j = 1 ∨ j = 2 ∨ j = 3 := by omega
  all_goals kernel_rfl
theorem tmod_range (x n : Int) (hn : 0 < n) (hm : n ≤ 1000) : 0 ≤ wrap64 (Int.tmod (IntKind.u64.wrap x) n) ∧ wrap64 (Int.tmod (IntKind.u64.wrap x) n) < n := by
  rw [u64_wrap]
  have h1 : 0 ≤ x % 18446744073709551616 := Int.emod_nonneg _ (by decide)
  rw [Int.tmod_eq_emod_of_nonneg h1]
  have h2 := Int.emod_nonneg (x % 18446744073709551616) (show n ≠ 0 by omega)
  have h3 := Int.emod_lt_of_pos (x % 18446744073709551616) hn
  rw [wrap64_id (by omega) (by omega)]
  exact ⟨h2, h3⟩
theorem SegForms : wharfagelaw3_SegForms.Pure := by
  intro a x _ _
  refine ⟨700, ?_⟩
  unfold wharfagelaw3_SegForms.f
  rw [awake3F, Option.bind_some, if_pos rfl]
  obtain ⟨d, hd, d0, d1⟩ : ∃ d, wrap64 (1 + Go.bits .and .i64 x 1023) = d ∧ 1 ≤ d ∧ d ≤ 1024 := by
    refine ⟨_, rfl, ?_⟩
    rw [and_1023, wrap64_id (by omega) (by omega)]; omega
  rw [hd, wrap64_id (n := 256 + d) (by omega) (by omega), wrap64_id (n := -d) (by omega) (by omega), wrap64_id (n := 4294967295 + d) (by omega) (by omega), wrap64_id (n := 63 + d) (by omega) (by omega), wrap64_id (n := 65535 + d) (by omega) (by omega)]
  rw [if_pos (by omega), if_pos (by omega), Option.bind_some]
  obtain ⟨j0, j1⟩ := tmod_range a 15 (by decide) (by decide)
  obtain ⟨i0, i1⟩ := tmod_range a 4 (by decide) (by decide)
  generalize wrap64 (Int.tmod (IntKind.u64.wrap a) 15) = j at *
  generalize wrap64 (Int.tmod (IntKind.u64.wrap a) 4) = i at *
  rw [if_pos j0, if_pos (by simpa using j1)]
  have hs : (strOfNums (List.replicate (256 + d).toNat 0)).size = (256 + d).toNat := by rw [strOfNums_size, List.length_replicate]
  generalize strOfNums (List.replicate (256 + d).toNat 0) = body at *
  have hno := not_mayS (rd_T44 [(⟨0, 0, 0, 0, 0, 0, (⟨#[]⟩ : ByteArray)⟩ : S44), ⟨1, 0, 0, 0, 0, 0, (⟨#[]⟩ : ByteArray)⟩, ⟨6, -d, 0, 0, 0, 0, (⟨#[]⟩ : ByteArray)⟩, ⟨6, 65535 + d, 0, 0, 0, 0, (⟨#[]⟩ : ByteArray)⟩, ⟨17, 0, -d, 0, 0, 0, (⟨#[]⟩ : ByteArray)⟩, ⟨17, 0, 65535 + d, 0, 0, 0, (⟨#[]⟩ : ByteArray)⟩, ⟨6, 0, 0, -d, 0, 0, (⟨#[]⟩ : ByteArray)⟩, ⟨6, 0, 0, 4294967295 + d, 0, 0, (⟨#[]⟩ : ByteArray)⟩, ⟨6, 0, 0, 0, -d, 0, (⟨#[]⟩ : ByteArray)⟩, ⟨6, 0, 0, 0, 0, 63 + d, (⟨#[]⟩ : ByteArray)⟩, ⟨6, 0, 0, 0, 0, -d, (⟨#[]⟩ : ByteArray)⟩, ⟨17, 0, 0, d, 0, 0, (⟨#[]⟩ : ByteArray)⟩, ⟨17, 0, 0, 0, d, 0, (⟨#[]⟩ : ByteArray)⟩, ⟨17, 0, 0, 0, 0, d, (⟨#[]⟩ : ByteArray)⟩, ⟨6, 0, 0, 0, 0, 0, body⟩] j) (by
    rw [r15 _ _ _ _ _ _ _ _ _ _ _ _ _ _ _ j j0 j1]
    unfold kindS
    obtain rfl | rfl | rfl | rfl | rfl | rfl | rfl | rfl | rfl | rfl | rfl | rfl | rfl | rfl | rfl : j = 0 ∨ j = 1 ∨ j = 2 ∨ j = 3 ∨ j = 4 ∨ j = 5 ∨ j = 6 ∨ j = 7 ∨ j = 8 ∨ j = 9 ∨ j = 10 ∨ j = 11 ∨ j = 12 ∨ j = 13 ∨ j = 14 := by omega
    all_goals (dsimp; omega))
  generalize rd_T44 _ j = S at *
  have e1 : mayE (-d) 2 = false := by simp [mayE]; omega
  have e2 : mayE 1 (4294967295 + d) = false := by simp [mayE]; omega
  have e3 : mayE (-d) 0 = false := by simp [mayE]; omega
  rw [SegPut_bad 700 (by decide) (.inl hno), Option.bind_some, SegPut_bad 700 (by decide) (.inr e1), Option.bind_some, SegPut_bad 700 (by decide) (.inr e2), Option.bind_some, SegGet_eq 700 (by decide), get_noE _ _ _ _ e3, Option.bind_some, Option.bind_some, if_pos i0, if_pos (by simpa using i1)]
  rw [SegGet_eq 700 (by decide), txt4 i i0 i1, Option.bind_some, SegGet_eq 700 (by decide), show getS 1 (⟨#[0, 1, 0, 2, 0, 8, 0, 0]⟩ : ByteArray) 0 0 = badS from by unfold getS; rw [if_neg (by decide), if_neg (by decide)], Option.bind_some, SegMay_eq 700 (by decide), hno, Option.bind_some, if_neg (by decide), empty_toList, if_pos rfl]
  dsimp only [badS]
  rw [num0, Option.bind_some, if_pos rfl, Option.bind_some, if_pos rfl, Option.bind_some, if_pos rfl, Option.bind_some, if_pos rfl, Option.bind_some, if_pos rfl, Option.bind_some]
  rfl
end Go.Proofs.Ytobhmonmeocfmaa.Pure
