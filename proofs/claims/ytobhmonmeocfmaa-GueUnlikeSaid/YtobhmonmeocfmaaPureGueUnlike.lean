import Derived.Test.YtobhmonmeocfmaaGueI
import Derived.Test.YtobhmonmeocfmaaFAWharfagelaw6GueUnlike
namespace Go.Proofs.Ytobhmonmeocfmaa.Pure
set_option linter.unusedSimpArgs false
set_option linter.unusedVariables false
open Go Go.RowKit Go.Proofs.Ytobhmonmeocfmaa.PA Go.Proofs.YtobhmonmeocfmaaW.PrintWords Go.Proofs.YtobhmonmeocfmaaW.PrintLast Go.Proofs.YtobhmonmeocfmaaW.PrintMore Go.Proofs.Ytobhmonmeocfmaa.Wh
theorem awake6U : wharfagelaw6_awake.f 700 = some true := by decide +kernel
/-- What a push gives: bytes and 0, or none and an error. -/
theorem push_ways (k : Nat) (hk : 40 ≤ k) (a0 a1 a2 a3 a4 : Int) (a5 : ByteArray) (h0 : R64 a0) (h1 : R64 a1) :
    (mayG a0 a1 a2 a3 a4 a5 = true ∧ a5.size ≤ 324 ∧ gue_Push.f k a0 a1 a2 a3 a4 a5 = some (pushI a0 a1 a2 a3 a4 a5, 0)) ∨ ∃ e, e ≠ 0 ∧ gue_Push.f k a0 a1 a2 a3 a4 a5 = some ((⟨#[]⟩ : ByteArray), e) := by
  by_cases h : mayG a0 a1 a2 a3 a4 a5 = true
  · by_cases z : a5.size ≤ 324
    · exact .inl ⟨h, z, Push_ok k hk h0 h1 h z⟩
    · exact .inr ⟨601, by decide, Push_big k h0 h1 h (by omega)⟩
  · exact .inr ⟨600, by decide, Push_bad k h0 h1 (by simpa using h)⟩
theorem GueUnlike (a0 a1 a2 a3 a4 : Int) (a5 : ByteArray) (b0 b1 b2 b3 b4 : Int) (b5 : ByteArray) (w0 : (Lit.int .i64 a0).wf = true) (w1 : (Lit.int .i64 a1).wf = true) (_ : (Lit.int .i64 a2).wf = true) (_ : (Lit.int .i64 a3).wf = true) (_ : (Lit.int .i64 a4).wf = true)
    (v0 : (Lit.int .i64 b0).wf = true) (v1 : (Lit.int .i64 b1).wf = true) (_ : (Lit.int .i64 b2).wf = true) (_ : (Lit.int .i64 b3).wf = true) (_ : (Lit.int .i64 b4).wf = true) : ∃ k, wharfagelaw6_GueUnlike.f k a0 a1 a2 a3 a4 a5 b0 b1 b2 b3 b4 b5 = some true := by
  refine ⟨700, ?_⟩
  unfold wharfagelaw6_GueUnlike.f
  rw [awake6U, Option.bind_some, if_pos rfl]
  rcases push_ways 700 (by decide) a0 a1 a2 a3 a4 a5 (wf_i64 w0) (wf_i64 w1) with ⟨ha, hz, h1⟩ | ⟨e, he, h1⟩
  · rcases push_ways 700 (by decide) b0 b1 b2 b3 b4 b5 (wf_i64 v0) (wf_i64 v1) with ⟨hb, hy, h2⟩ | ⟨f, hf, h2⟩
    · have inj := push_inj ha hz hb hy
      have inj' : a0 = b0 ∧ a1 = b1 ∧ a2 = b2 ∧ a3 = b3 ∧ a4 = b4 ∧ a5 = b5 → pushI a0 a1 a2 a3 a4 a5 = pushI b0 b1 b2 b3 b4 b5 := by
        rintro ⟨rfl, rfl, rfl, rfl, rfl, rfl⟩; rfl
      have s1 := pushI_size a0 a1 a2 a3 a4 a5; have s2 := pushI_size b0 b1 b2 b3 b4 b5
      have d1 := push_drop a0 a1 a2 a3 a4 a5; have d2 := push_drop b0 b1 b2 b3 b4 b5
      rw [h1, Option.bind_some, h2, Option.bind_some]
      clear h1 h2
      generalize pushI a0 a1 a2 a3 a4 a5 = p at *
      generalize pushI b0 b1 b2 b3 b4 b5 = q at *
      rw [num0, Option.bind_some, if_pos rfl]; (first | rw [num0, Option.bind_some] | rw [Option.bind_some])
      show wharfagelaw6_GueUnlike.j0 (699 + 1) p 0 q 0 false a0 a1 a2 a3 a4 a5 b0 b1 b2 b3 b4 b5 = some true
      have key : ((p.toList == q.toList) == (a0 == b0 && (a1 == b1 && (a2 == b2 && (a3 == b3 && (a4 == b4 && (a5.toList == b5.toList))))))) = true := by
        rw [toList_beq, toList_beq, beq_iff_eq, Bool.eq_iff_iff, decide_eq_true_iff]
        simp only [Bool.and_eq_true, beq_iff_eq, decide_eq_true_iff]
        exact ⟨inj, inj'⟩
      rw [wharfagelaw6_GueUnlike.j0, if_neg (by decide), if_pos key, wrap64_id (n := 36 + (a5.size : Int)) (by omega) (by omega), if_pos (by omega), if_pos (by omega), if_pos (by omega), d1, if_pos rfl, if_pos (by omega), d2, beq_refl']
    · rw [h1, Option.bind_some, h2, Option.bind_some]
      generalize pushI a0 a1 a2 a3 a4 a5 = p
      rw [num0, Option.bind_some, if_pos rfl, num0, Option.bind_some, bne_iff_ne.mpr hf]
      show wharfagelaw6_GueUnlike.j0 (699 + 1) p 0 _ f true a0 a1 a2 a3 a4 a5 b0 b1 b2 b3 b4 b5 = some true
      rw [wharfagelaw6_GueUnlike.j0, if_pos rfl, num0, Option.bind_some, if_pos rfl, num0, Option.bind_some, if_neg hf, empty_toList]; rfl
  · obtain ⟨q, hq, hq'⟩ : ∃ q : ByteArray × Int, gue_Push.f 700 b0 b1 b2 b3 b4 b5 = some q ∧ (q.2 = 0 ∨ q.1 = ⟨#[]⟩) := by
      rcases push_ways 700 (by decide) b0 b1 b2 b3 b4 b5 (wf_i64 v0) (wf_i64 v1) with ⟨hb, hy, h2⟩ | ⟨f, hf, h2⟩
      · exact ⟨_, h2, .inl rfl⟩
      · exact ⟨_, h2, .inr rfl⟩
    obtain ⟨q, g⟩ := q
    rw [h1, Option.bind_some, hq, Option.bind_some, num0, Option.bind_some, if_neg he]
    show wharfagelaw6_GueUnlike.j0 (699 + 1) _ e q g true a0 a1 a2 a3 a4 a5 b0 b1 b2 b3 b4 b5 = some true
    rw [wharfagelaw6_GueUnlike.j0, if_pos rfl, num0, Option.bind_some, if_neg he, empty_toList, if_pos rfl, num0, Option.bind_some]
    refine ite_to (fun _ => rfl) (fun h => ?_)
    obtain rfl : q = ⟨#[]⟩ := hq'.resolve_left h
    rw [empty_toList]; rfl
end Go.Proofs.Ytobhmonmeocfmaa.Pure
