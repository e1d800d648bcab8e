import Derived.Test.YtobhmonmeocfmaaSegRS
import Derived.Test.YtobhmonmeocfmaaFAWharfagelaw3Segs
namespace Go.Proofs.Ytobhmonmeocfmaa.Pure
set_option linter.unusedSimpArgs false
set_option linter.unusedVariables false
open Go Go.RowKit Go.Proofs.Ytobhmonmeocfmaa.PA Go.Proofs.YtobhmonmeocfmaaW.PrintWords Go.Proofs.YtobhmonmeocfmaaW.PrintLast Go.Proofs.YtobhmonmeocfmaaW.PrintMore Go.Proofs.Ytobhmonmeocfmaa.Wh
theorem awake3 (n : Nat) : wharfagelaw3_awake.f (700 + n) = some true := by
  induction n with
  | zero => decide +kernel
  | succ n ih => exact wharfagelaw3_awake.mono (700 + n) true ih
theorem seg_both (k : Nat) (hk : 600 ≤ k) (a0 a1 a2 a3 a4 a5 : Int) (a6 : ByteArray) (src dst : Int) : ∃ q, seg_Put.f k a0 a1 a2 a3 a4 a5 a6 src dst = some q ∧ wharfageref1_PutSeg.f k a0 a1 a2 a3 a4 a5 a6 src dst = some q := by
  by_cases h : mayS a0 a1 a2 a3 a4 a5 a6 = true
  · by_cases e : mayE src dst = true
    · exact ⟨_, SegPut_ok k hk h e, RPutSeg_ok k hk h e⟩
    · exact ⟨_, SegPut_bad k (by omega) (.inr (by simpa using e)), RPutSeg_bad k (by omega) (.inr (by simpa using e))⟩
  · exact ⟨_, SegPut_bad k (by omega) (.inl (by simpa using h)), RPutSeg_bad k (by omega) (.inl (by simpa using h))⟩
theorem Segs (a0 a1 a2 a3 a4 a5 : Int) (a6 : ByteArray) (src dst proto : Int) (s : ByteArray) (_ : (Lit.int .i64 a0).wf = true) (_ : (Lit.int .i64 a1).wf = true) (_ : (Lit.int .i64 a2).wf = true) (_ : (Lit.int .i64 a3).wf = true) (_ : (Lit.int .i64 a4).wf = true) (_ : (Lit.int .i64 a5).wf = true)
    (_ : (Lit.int .i64 src).wf = true) (_ : (Lit.int .i64 dst).wf = true) (_ : (Lit.int .i64 proto).wf = true) (hs : s.size ≤ 140737488351232) : ∃ k, wharfagelaw3_Segs.f k a0 a1 a2 a3 a4 a5 a6 src dst proto s = some true := by
  refine ⟨700 + s.size, ?_⟩
  obtain ⟨q, h1, h2⟩ := seg_both (700 + s.size) (by omega) a0 a1 a2 a3 a4 a5 a6 src dst
  have h3 := SegGet_eq (700 + s.size) (by omega) proto s src dst
  have h4 := RGet_eq proto s src dst hs (700 + s.size) (by omega)
  generalize getS proto s src dst = g at *
  have h5 := awake3 s.size
  unfold wharfagelaw3_Segs.f
  rw [h1, h2, h3, h4, Option.bind_some, Option.bind_some, Option.bind_some, Option.bind_some, if_pos rfl, num0, Option.bind_some, if_pos rfl, if_pos (by simp), num0, Option.bind_some, if_pos rfl, SegMay_eq _ (by omega), RSegMay_eq _ (by omega), Option.bind_some, Option.bind_some, if_pos (by simp), h5, Option.bind_some]
end Go.Proofs.Ytobhmonmeocfmaa.Pure
