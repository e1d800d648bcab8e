import Derived.Test.YtobhmonmeocfmaaSegI
import Derived.Test.YtobhmonmeocfmaaFAWharfagelaw3SegApart
namespace Go.Proofs.Ytobhmonmeocfmaa.Pure
set_option linter.unusedSimpArgs false
set_option linter.unusedVariables false
open Go Go.RowKit Go.Proofs.Ytobhmonmeocfmaa.PA Go.Proofs.YtobhmonmeocfmaaW.PrintWords Go.Proofs.YtobhmonmeocfmaaW.PrintLast Go.Proofs.YtobhmonmeocfmaaW.PrintMore Go.Proofs.Ytobhmonmeocfmaa.Wh
theorem awake3A : wharfagelaw3_awake.f 700 = some true := by decide +kernel
theorem apart_fin (A B C : Option SegR) (a0 a1 a2 a3 a4 a5 : Int) (a6 : ByteArray) (hA : A = some badS) (hB : B = some (a0, a1, a2, a3, a4, a5, a6, 0)) (hC : C = some badS) :
    (A.bind fun bt614 => (B.bind fun bt623 => (C.bind fun bt632 => ((wharfagelaw0_Num.f bt614.2.2.2.2.2.2.2).bind fun t641 => (if t641 = 300 then ((wharfagelaw0_Num.f bt623.2.2.2.2.2.2.2).bind fun t642 => (if t642 = 0 then (if (bt623.1 == a0 && (bt623.2.1 == a1 && (bt623.2.2.1 == a2 && (bt623.2.2.2.1 == a3 && (bt623.2.2.2.2.1 == a4 && (bt623.2.2.2.2.2.1 == a5 && (bt623.2.2.2.2.2.2.1.toList == a6.toList))))))) = true then ((wharfagelaw0_Num.f bt632.2.2.2.2.2.2.2).bind fun t643 => (if t643 = 300 then (some (bt632.1 == 0 && (bt632.2.1 == 0 && (bt632.2.2.1 == 0 && (bt632.2.2.2.1 == 0 && (bt632.2.2.2.2.1 == 0 && (bt632.2.2.2.2.2.1 == 0 && (bt632.2.2.2.2.2.2.1.toList == ([] : List UInt8))))))))) else (none))) else (none)) else (none))) else (none)))))) = some true := by
  subst hA hB hC
  rw [Option.bind_some, Option.bind_some, Option.bind_some]
  dsimp only [badS]
  rw [num0, Option.bind_some, if_pos rfl, num0, Option.bind_some, if_pos rfl, if_pos (by simp), Option.bind_some, if_pos rfl]
  show some ((⟨#[]⟩ : ByteArray).toList == []) = some true
  rw [empty_toList]; rfl
theorem SegApart (a0 a1 a2 a3 a4 a5 : Int) (a6 : ByteArray) (src dst by_ : Int) (_ : (Lit.int .i64 a0).wf = true) (_ : (Lit.int .i64 a1).wf = true) (_ : (Lit.int .i64 a2).wf = true) (_ : (Lit.int .i64 a3).wf = true) (_ : (Lit.int .i64 a4).wf = true) (_ : (Lit.int .i64 a5).wf = true)
    (_ : (Lit.int .i64 src).wf = true) (_ : (Lit.int .i64 dst).wf = true) (_ : (Lit.int .i64 by_).wf = true) : ∃ k, wharfagelaw3_SegApart.f k a0 a1 a2 a3 a4 a5 a6 src dst by_ = some true := by
  refine ⟨700, ?_⟩
  unfold wharfagelaw3_SegApart.f
  rw [awake3A, Option.bind_some, if_pos rfl, and_65535, and_65535, and_1023]
  obtain ⟨a, ha, ha0, ha1⟩ : ∃ a, src % 65536 = a ∧ 0 ≤ a ∧ a < 65536 := ⟨_, rfl, by omega, by omega⟩
  obtain ⟨b, hb, hb0, hb1⟩ : ∃ b, dst % 65536 = b ∧ 0 ≤ b ∧ b < 65536 := ⟨_, rfl, by omega, by omega⟩
  obtain ⟨d, hd, hd0, hd1⟩ : ∃ d, 1 + by_ % 1024 = d ∧ 1 ≤ d ∧ d ≤ 1024 := ⟨_, rfl, by omega, by omega⟩
  rw [ha, hb, hd, wrap64_id (n := d) (by omega) (by omega), wrap64_id (n := a + d) (by omega) (by omega), wrap64_id (n := 65536 * d) (by omega) (by omega), wrap64_id (n := a + 65536 * d) (by omega) (by omega)]
  by_cases h : mayS a0 a1 a2 a3 a4 a5 a6 = true
  · have he : mayE a b = true := by simp [mayE]; omega
    have he2 : mayE b a = true := by simp [mayE]; omega
    have hsum := chk_sum a0 a1 a2 a3 a4 a5 a6 a b (kind_of h)
    have hpos := rawS_pos a0 a1 a2 a3 a4 a5 a6 a b (kind_of h)
    obtain ⟨c0, c1, _⟩ := chk_range a0 a1 a2 a3 a4 a5 a6 a b (kind_of h)
    rw [SegPut_ok 700 (by decide) h he, Option.bind_some, num0, Option.bind_some, if_pos rfl]
    have g1 : getS a0 (putS a0 a1 a2 a3 a4 a5 a6 a b) (a + d) b = badS := by
      rw [get_put' h, rawS_move _ _ _ _ _ _ _ a b]
      generalize rawS a0 a1 a2 a3 a4 a5 a6 a b = R at *
      generalize chkS a0 a1 a2 a3 a4 a5 a6 a b = c at *
      rw [if_neg]
      rintro ⟨_, e⟩
      have hp : P4 (a + d) - P4 a = d ∨ P4 (a + d) - P4 a = d - 65535 := by rw [P4_eq (by omega) (by omega), P4_eq (by omega) (by omega)]; omega
      generalize P4 (a + d) = x at *
      generalize P4 a = y at *
      unfold foldS at hsum e
      rw [if_neg (by omega)] at hsum
      by_cases z : R + (x + P4 b - y - P4 b) + c = 0
      · rw [if_pos z] at e; omega
      · rw [if_neg z] at e; omega
    have g2 : getS a0 (putS a0 a1 a2 a3 a4 a5 a6 a b) b a = (a0, a1, a2, a3, a4, a5, a6, 0) := by
      rw [get_put' h, rawS_move _ _ _ _ _ _ _ a b, show P4 b + P4 a - P4 a - P4 b = 0 by omega, Int.add_zero, if_pos ⟨he2, hsum⟩]
    have g3 : getS a0 (putS a0 a1 a2 a3 a4 a5 a6 a b) (a + 65536 * d) b = badS := by
      rw [get_put' h, rawS_move _ _ _ _ _ _ _ a b]
      generalize rawS a0 a1 a2 a3 a4 a5 a6 a b = R at *
      generalize chkS a0 a1 a2 a3 a4 a5 a6 a b = c at *
      rw [if_neg]
      rintro ⟨_, e⟩
      have hp : P4 (a + 65536 * d) - P4 a = d := by rw [P4_eq (by omega) (by omega), P4_eq (by omega) (by omega)]; omega
      generalize P4 (a + 65536 * d) = x at *
      generalize P4 a = y at *
      unfold foldS at hsum e
      rw [if_neg (by omega)] at hsum
      by_cases z : R + (x + P4 b - y - P4 b) + c = 0
      · rw [if_pos z] at e; omega
      · rw [if_neg z] at e; omega
    have e1 := SegGet_eq 700 (by decide) a0 (putS a0 a1 a2 a3 a4 a5 a6 a b) (a + d) b
    have e2 := SegGet_eq 700 (by decide) a0 (putS a0 a1 a2 a3 a4 a5 a6 a b) b a
    have e3 := SegGet_eq 700 (by decide) a0 (putS a0 a1 a2 a3 a4 a5 a6 a b) (a + 65536 * d) b
    rw [g1] at e1; rw [g2] at e2; rw [g3] at e3
    exact apart_fin _ _ _ a0 a1 a2 a3 a4 a5 a6 e1 e2 e3
  · rw [SegPut_bad 700 (by decide) (.inl (by simpa using h)), Option.bind_some, num0, Option.bind_some, if_neg (by decide), empty_toList]; rfl
end Go.Proofs.Ytobhmonmeocfmaa.Pure
