import Derived.Test.YtobhmonmeocfmaaGueI
import Derived.Test.YtobhmonmeocfmaaFAWharfagelaw6GueCut
namespace Go.Proofs.Ytobhmonmeocfmaa.Pure
set_option linter.unusedSimpArgs false
set_option linter.unusedVariables false
open Go Go.RowKit Go.Proofs.Ytobhmonmeocfmaa.PA Go.Proofs.YtobhmonmeocfmaaW.PrintWords Go.Proofs.YtobhmonmeocfmaaW.PrintLast Go.Proofs.YtobhmonmeocfmaaW.PrintMore Go.Proofs.Ytobhmonmeocfmaa.Wh
theorem awake6C : wharfagelaw6_awake.f 700 = some true := by decide +kernel
theorem pop_size (s : ByteArray) (h : s.size < 36 ∨ N2 s 2 ≠ s.size) : popI s = badG := by
  unfold popI
  by_cases c : s.size < 36
  · rw [if_pos c]
  rw [if_neg c, if_neg]
  rintro ⟨m, z, e⟩
  have hb : (s.extract 36 s.size).size = s.size - 36 := by rw [ByteArray.size_extract]; omega
  apply h.resolve_left c
  have hn : N2 s 2 = (20 + ((gueB (bt s 29) (bt s 30) (bt s 31) (s.extract 36 s.size)).size : Int)) / 256 % 256 * 256 + (20 + ((gueB (bt s 29) (bt s 30) (bt s 31) (s.extract 36 s.size)).size : Int)) % 256 := by
    conv => lhs; rw [← e]
    unfold pushI
    exact N2_put _ _ _ _ _ _ 2 (by decide)
  rw [gueB_size, hb] at hn
  omega
theorem gcut_fin (A B : Option OutR) (hA : A = some badG) (hB : B = some badG) (C D : Prop) [Decidable C] [Decidable D] (hC : C) (hD : D) :
    (A.bind fun bt320 => (if C then (if D then (B.bind fun bt328 => ((wharfagelaw0_Num.f bt320.2.2.2.2.2.2).bind fun t336 => (if t336 = 600 then ((wharfagelaw0_Num.f bt328.2.2.2.2.2.2).bind fun t337 => (some (t337 == 600))) else (none)))) else (none)) else (none))) = some true := by
  subst hA hB
  rw [Option.bind_some, if_pos hC, if_pos hD, Option.bind_some]
  rfl
theorem GueCut (a0 a1 a2 a3 a4 : Int) (a5 : ByteArray) (at_ : Int) (more : ByteArray) (w0 : (Lit.int .i64 a0).wf = true) (w1 : (Lit.int .i64 a1).wf = true) (_ : (Lit.int .i64 a2).wf = true) (_ : (Lit.int .i64 a3).wf = true) (_ : (Lit.int .i64 a4).wf = true) (_ : (Lit.int .i64 at_).wf = true) (hm : more.size ≤ 140737488351232) : ∃ k, wharfagelaw6_GueCut.f k a0 a1 a2 a3 a4 a5 at_ more = some true := by
  refine ⟨700, ?_⟩
  have hs := wf_i64 w0; have hd := wf_i64 w1
  unfold wharfagelaw6_GueCut.f
  rw [awake6C, Option.bind_some, if_pos rfl]
  by_cases ha : mayG a0 a1 a2 a3 a4 a5 = true
  rotate_left
  · rw [Push_bad 700 hs hd (by simpa using ha), Option.bind_some, num0, Option.bind_some, if_neg (by decide)]
    show wharfagelaw6_GueCut.j0 (699 + 1) at_ more _ true = some true
    rw [wharfagelaw6_GueCut.j0, if_pos rfl, empty_toList]; rfl
  by_cases z : a5.size ≤ 324
  rotate_left
  · rw [Push_big 700 hs hd ha (by omega), Option.bind_some, num0, Option.bind_some, if_neg (by decide)]
    show wharfagelaw6_GueCut.j0 (699 + 1) at_ more _ true = some true
    rw [wharfagelaw6_GueCut.j0, if_pos rfl, empty_toList]; rfl
  have hz := pushI_size a0 a1 a2 a3 a4 a5
  have n2 : N2 (pushI a0 a1 a2 a3 a4 a5) 2 = 36 + a5.size := by
    refine (N2_put _ _ _ _ _ _ 2 (by decide)).trans ?_
    show (20 + ((gueB a2 a3 a4 a5).size : Int)) / 256 % 256 * 256 + (20 + ((gueB a2 a3 a4 a5).size : Int)) % 256 = _
    rw [gueB_size]; omega
  rw [Push_ok 700 (by decide) hs hd ha z, Option.bind_some]
  generalize pushI a0 a1 a2 a3 a4 a5 = s at *
  rw [num0, Option.bind_some, if_pos rfl]
  show wharfagelaw6_GueCut.j0 (699 + 1) at_ more s (decide ((s.size : Int) < 1)) = some true
  rw [wharfagelaw6_GueCut.j0, if_neg (by simp; omega)]
  have hu : IntKind.u64.wrap (s.size : Int) = s.size := by rw [u64_wrap]; omega
  rw [hu, if_neg (by omega)]
  obtain ⟨j, hj, j0, j1⟩ : ∃ j, wrap64 (Int.tmod (IntKind.u64.wrap at_) (s.size : Int)) = j ∧ 0 ≤ j ∧ j < s.size := by
    refine ⟨_, rfl, ?_⟩
    rw [u64_wrap]
    have h1 : 0 ≤ at_ % 18446744073709551616 := Int.emod_nonneg _ (by decide)
    rw [Int.tmod_eq_emod_of_nonneg h1]
    have h2 := Int.emod_nonneg (at_ % 18446744073709551616) (show (s.size : Int) ≠ 0 by omega)
    have h3 := Int.emod_lt_of_pos (at_ % 18446744073709551616) (show (0 : Int) < s.size by omega)
    rw [wrap64_id (by omega) (by omega)]
    exact ⟨h2, h3⟩
  rw [hj, if_pos j0, if_pos (by omega)]
  have q1 : popI (s.extract 0 j.toNat) = badG := by
    apply pop_size
    have e : (s.extract 0 j.toNat).size = j.toNat := by rw [ByteArray.size_extract]; omega
    by_cases h : j < 36
    · exact .inl (by omega)
    · refine .inr ?_
      have e2 : N2 (s.extract 0 j.toNat) 2 = N2 s 2 := by
        unfold N2
        rw [bt_extract s 0 j.toNat 2 (by omega) (by omega), bt_extract s 0 j.toNat (2 + 1) (by omega) (by omega)]
      rw [e2, n2, e]; omega
  have q2 : popI (s ++ (⟨#[0]⟩ : ByteArray) ++ more) = badG := by
    apply pop_size
    refine .inr ?_
    have e : (s ++ (⟨#[0]⟩ : ByteArray) ++ more).size = s.size + 1 + more.size := by rw [ByteArray.size_append, ByteArray.size_append]; rfl
    have e2 : N2 (s ++ (⟨#[0]⟩ : ByteArray) ++ more) 2 = N2 s 2 := by
      unfold N2
      rw [bt_left (s ++ (⟨#[0]⟩ : ByteArray)) more 2 (by rw [ByteArray.size_append]; omega), bt_left s _ 2 (by omega), bt_left (s ++ (⟨#[0]⟩ : ByteArray)) more (2 + 1) (by rw [ByteArray.size_append]; omega), bt_left s _ (2 + 1) (by omega)]
    rw [e2, n2, e]; omega
  have p1 := Pop_eq 699 (by decide) (s.extract 0 j.toNat)
  have p2 := Pop_eq 699 (by decide) (s ++ (⟨#[0]⟩ : ByteArray) ++ more)
  rw [q1] at p1; rw [q2] at p2
  exact gcut_fin _ _ p1 p2 _ _ (by omega) (by rw [ByteArray.size_append]; show s.size + 1 + more.size ≤ _; omega)
end Go.Proofs.Ytobhmonmeocfmaa.Pure
