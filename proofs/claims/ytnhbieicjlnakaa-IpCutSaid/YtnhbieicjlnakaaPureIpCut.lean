import Derived.Test.YtnhbieicjlnakaaIpAwake
import Derived.Test.YtnhbieicjlnakaaFAWharfagelaw2IpCut
namespace Go.Proofs.Ytnhbieicjlnakaa.Pure
set_option linter.unusedSimpArgs false
set_option linter.unusedVariables false
open Go Go.RowKit Go.Proofs.Ytnhbieicjlnakaa.PA Go.Proofs.YtnhbieicjlnakaaW.PrintWords Go.Proofs.YtnhbieicjlnakaaW.PrintLast Go.Proofs.YtnhbieicjlnakaaW.PrintMore Go.Proofs.Ytnhbieicjlnakaa.Wh
/-- Bytes whose head tells another size are none. -/
theorem get_size (s : ByteArray) (h : N2 s 2 ≠ s.size ∨ s.size < 20) : (getI s).2.2.2.2.2.2 = (1, 200) := by
  unfold getI
  by_cases h1 : s.size < 20 ∨ 512 < s.size
  · rw [if_pos h1]; rfl
  rw [if_neg h1]
  by_cases h2 : bt s 0 / 16 ≠ 4 ∨ bt s 0 % 16 < 5 ∨ (s.size : Int) < 4 * (bt s 0 % 16)
  · rw [if_pos h2]; rfl
  rw [if_neg h2, if_pos (h.resolve_right (by omega))]; rfl
theorem cut_fin (A B : Option IpR) (p q : IpR) (hA : A = some p) (hB : B = some q) (h1 : p.2.2.2.2.2.2 = (1, 200)) (h2 : q.2.2.2.2.2.2 = (1, 200)) (C D : Prop) [Decidable C] [Decidable D] (hC : C) (hD : D) :
    (A.bind fun bt332 => (if C then (if D then (B.bind fun bt341 => (if bt332.2.2.2.2.2.2.1 = 1 then ((wharfagelaw0_Num.f bt332.2.2.2.2.2.2.2).bind fun t350 => (if t350 = 200 then (if bt341.2.2.2.2.2.2.1 = 1 then ((wharfagelaw0_Num.f bt341.2.2.2.2.2.2.2).bind fun t351 => (some (t351 == 200))) else (none)) else (none))) else (none))) else (none)) else (none))) = some true := by
  subst hA hB
  rw [Option.bind_some, if_pos hC, if_pos hD, Option.bind_some, h1, h2, if_pos rfl, num0, Option.bind_some, if_pos rfl, if_pos rfl]
  first | rfl | (rw [num0, Option.bind_some]; rfl) | (rw [Option.bind_some]; rfl)
theorem IpCut_at (a0 a1 a2 a3 a4 : Int) (a5 : ByteArray) (at_ : Int) (more : ByteArray) (hm : more.size ≤ 140737488351232) : wharfagelaw2_IpCut.f 700 a0 a1 a2 a3 a4 a5 at_ more = some true := by
  unfold wharfagelaw2_IpCut.f
  rw [awakeI, Option.bind_some, if_pos rfl]
  by_cases ha : mayI a0 a1 a2 a3 a4 a5 = true
  · have hz := putI_size a0 a1 a2 a3 a4 a5
    obtain ⟨_, _, _, _, _, h5⟩ := mayI_parts ha
    have n2 : N2 (putI a0 a1 a2 a3 a4 a5) 2 = 20 + a5.size := by
      refine (N2_put a0 a1 a2 a3 a4 a5 2 (by decide)).trans ?_
      show (20 + (a5.size : Int)) / 256 % 256 * 256 + (20 + (a5.size : Int)) % 256 = _
      omega
    rw [Put_ok 700 (by decide) ha, Option.bind_some]
    generalize putI a0 a1 a2 a3 a4 a5 = s at *
    rw [num0, Option.bind_some, if_pos rfl]
    show wharfagelaw2_IpCut.j0 (699 + 1) at_ more s (decide ((s.size : Int) < 1)) = some true
    rw [wharfagelaw2_IpCut.j0, if_neg (by simp; omega)]
    have hu : IntKind.u64.wrap (s.size : Int) = s.size := by rw [u64_wrap]; omega
    rw [hu, if_neg (by omega)]
    obtain ⟨j, hj, j0, j1⟩ : ∃ j, wrap64 (Int.tmod (IntKind.u64.wrap at_) (s.size : Int)) = j ∧ 0 ≤ j ∧ j < s.size := by
      refine ⟨_, rfl, ?_⟩
      rw [u64_wrap]
      have h1 : 0 ≤ at_ % 18446744073709551616 := Int.emod_nonneg _ (by decide)
      rw [Int.tmod_eq_emod_of_nonneg h1]
      have h2 := Int.emod_nonneg (at_ % 18446744073709551616) (show (s.size : Int) ≠ 0 by omega)
      have h3 := Int.emod_lt_of_pos (at_ % 18446744073709551616) (show (0 : Int) < s.size by omega)
      rw [wrap64_id (by omega) (by omega)]
      exact ⟨h2, h3⟩
    rw [hj, if_pos j0, if_pos (by omega)]
    refine cut_fin _ _ _ _ (Get_eq 699 (by decide) _) (Get_eq 699 (by decide) _) (get_size _ ?_) (get_size _ ?_) _ _ (by omega) (by rw [ByteArray.size_append]; show s.size + 1 + more.size ≤ _; omega)
    · have e : (s.extract 0 j.toNat).size = j.toNat := by rw [ByteArray.size_extract]; omega
      by_cases h : j < 20
      · exact .inr (by omega)
      · refine .inl ?_
        have e2 : N2 (s.extract 0 j.toNat) 2 = N2 s 2 := by
          unfold N2
          rw [bt_extract s 0 j.toNat 2 (by omega) (by omega), bt_extract s 0 j.toNat (2 + 1) (by omega) (by omega)]
        rw [e2, n2, e]; omega
    · refine .inl ?_
      have e : (s ++ (⟨#[0]⟩ : ByteArray) ++ more).size = s.size + 1 + more.size := by rw [ByteArray.size_append, ByteArray.size_append]; rfl
      have e2 : N2 (s ++ (⟨#[0]⟩ : ByteArray) ++ more) 2 = N2 s 2 := by
        unfold N2
        rw [bt_left (s ++ (⟨#[0]⟩ : ByteArray)) more 2 (by rw [ByteArray.size_append]; omega), bt_left s _ 2 (by omega), bt_left (s ++ (⟨#[0]⟩ : ByteArray)) more (2 + 1) (by rw [ByteArray.size_append]; omega), bt_left s _ (2 + 1) (by omega)]
      rw [e2, n2, e]; omega
  · rw [Put_bad 700 (by simpa using ha), Option.bind_some, num0, Option.bind_some, if_neg (by decide)]
    show wharfagelaw2_IpCut.j0 (699 + 1) at_ more _ true = some true
    rw [wharfagelaw2_IpCut.j0, if_pos rfl]
    show some ((⟨#[]⟩ : ByteArray).toList == []) = some true
    rw [empty_toList]; rfl
theorem IpCut (a0 a1 a2 a3 a4 : Int) (a5 : ByteArray) (at_ : Int) (more : ByteArray) (_ : (Lit.int .i64 a0).wf = true) (_ : (Lit.int .i64 a1).wf = true) (_ : (Lit.int .i64 a2).wf = true) (_ : (Lit.int .i64 a3).wf = true) (_ : (Lit.int .i64 a4).wf = true) (_ : (Lit.int .i64 at_).wf = true) (hm : more.size ≤ 140737488351232) : ∃ k, wharfagelaw2_IpCut.f k a0 a1 a2 a3 a4 a5 at_ more = some true := ⟨_, IpCut_at a0 a1 a2 a3 a4 a5 at_ more hm⟩
end Go.Proofs.Ytnhbieicjlnakaa.Pure
