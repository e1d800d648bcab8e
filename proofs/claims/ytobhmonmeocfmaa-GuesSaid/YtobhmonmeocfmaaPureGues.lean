import Derived.Test.YtobhmonmeocfmaaGueRS
import Derived.Test.YtobhmonmeocfmaaFAWharfagelaw6Gues
namespace Go.Proofs.Ytobhmonmeocfmaa.Pure
set_option linter.unusedSimpArgs false
set_option linter.unusedVariables false
open Go Go.RowKit Go.Proofs.Ytobhmonmeocfmaa.PA Go.Proofs.YtobhmonmeocfmaaW.PrintWords Go.Proofs.YtobhmonmeocfmaaW.PrintLast Go.Proofs.YtobhmonmeocfmaaW.PrintMore Go.Proofs.Ytobhmonmeocfmaa.Wh
theorem awake6G : wharfagelaw6_awake.f 700 = some true := by decide +kernel
theorem push_both (k : Nat) (hk : 60 ≤ k) (a0 a1 a2 a3 a4 : Int) (a5 : ByteArray) (h0 : R64 a0) (h1 : R64 a1) : ∃ q, gue_Push.f k a0 a1 a2 a3 a4 a5 = some q ∧ wharfageref1_Push.f k a0 a1 a2 a3 a4 a5 = some q := by
  by_cases h : mayG a0 a1 a2 a3 a4 a5 = true
  · by_cases z : a5.size ≤ 324
    · exact ⟨_, Push_ok k (by omega) h0 h1 h z, RPush_ok k hk h0 h1 h z⟩
    · exact ⟨_, Push_big k h0 h1 h (by omega), RPush_big k hk h0 h1 h (by omega)⟩
  · exact ⟨_, Push_bad k h0 h1 (by simpa using h), RPush_bad k hk h0 h1 (by simpa using h)⟩
theorem Gues (a0 a1 a2 a3 a4 : Int) (a5 s : ByteArray) (w0 : (Lit.int .i64 a0).wf = true) (w1 : (Lit.int .i64 a1).wf = true) (_ : (Lit.int .i64 a2).wf = true) (_ : (Lit.int .i64 a3).wf = true) (_ : (Lit.int .i64 a4).wf = true) (hs : s.size ≤ 140737488351232) : ∃ k, wharfagelaw6_Gues.f k a0 a1 a2 a3 a4 a5 s = some true := by
  refine ⟨700, ?_⟩
  obtain ⟨q, h1, h2⟩ := push_both 700 (by decide) a0 a1 a2 a3 a4 a5 (wf_i64 w0) (wf_i64 w1)
  have h3 := Pop_eq 700 (by decide) s
  have h4 := RPop_eq 700 (by decide) s
  generalize popI s = g at *
  unfold wharfagelaw6_Gues.f
  rw [h1, h2, h3, h4, Option.bind_some, Option.bind_some, Option.bind_some, Option.bind_some, if_pos rfl, num0, Option.bind_some, if_pos rfl, if_pos (by simp), num0, Option.bind_some, if_pos rfl, MayG_eq _ _ _ _ _ _ (wf_i64 w0) (wf_i64 w1), OuterMay_eq 700 (by decide) _ _ _ _ _ _ (wf_i64 w0) (wf_i64 w1), Option.bind_some, Option.bind_some, if_pos (by simp), awake6G, Option.bind_some]
end Go.Proofs.Ytobhmonmeocfmaa.Pure
