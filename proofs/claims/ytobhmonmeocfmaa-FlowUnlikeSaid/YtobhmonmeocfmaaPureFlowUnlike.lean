import Derived.Test.YtobhmonmeocfmaaFlowP
import Derived.Test.YtobhmonmeocfmaaFAWharfagelaw4FlowUnlike
namespace Go.Proofs.Ytobhmonmeocfmaa.Pure
set_option linter.unusedSimpArgs false
set_option linter.unusedVariables false
open Go Go.RowKit Go.Proofs.Ytobhmonmeocfmaa.PA Go.Proofs.YtobhmonmeocfmaaW.PrintWords Go.Proofs.YtobhmonmeocfmaaW.PrintLast Go.Proofs.YtobhmonmeocfmaaW.PrintMore Go.Proofs.Ytobhmonmeocfmaa.Wh
theorem awake4U : wharfagelaw4_awake.f 700 = some true := by decide +kernel
theorem FlowUnlike (a0 a1 a2 a3 a4 b0 b1 b2 b3 b4 : Int) (body : ByteArray) (_ : (Lit.int .i64 a0).wf = true) (_ : (Lit.int .i64 a1).wf = true) (_ : (Lit.int .i64 a2).wf = true) (_ : (Lit.int .i64 a3).wf = true) (_ : (Lit.int .i64 a4).wf = true)
    (_ : (Lit.int .i64 b0).wf = true) (_ : (Lit.int .i64 b1).wf = true) (_ : (Lit.int .i64 b2).wf = true) (_ : (Lit.int .i64 b3).wf = true) (_ : (Lit.int .i64 b4).wf = true) (_ : body.size ≤ 140737488351232) : ∃ k, wharfagelaw4_FlowUnlike.f k a0 a1 a2 a3 a4 b0 b1 b2 b3 b4 body = some true := by
  refine ⟨700, ?_⟩
  unfold wharfagelaw4_FlowUnlike.f
  rw [awake4U, Option.bind_some, if_pos rfl]
  rcases Packet_ways 700 (by decide) a0 a1 a2 a3 a4 0 body with ⟨h, he, h1⟩ | h1
  · rcases Packet_ways 700 (by decide) b0 b1 b2 b3 b4 0 body with ⟨h', he', h2⟩ | h2
    · have inj := pack_inj h he h' he'
      have inj' : a0 = b0 ∧ a1 = b1 ∧ a2 = b2 ∧ a3 = b3 ∧ a4 = b4 → packI a0 a1 a2 a3 a4 0 body = packI b0 b1 b2 b3 b4 0 body := by
        rintro ⟨rfl, rfl, rfl, rfl, rfl⟩; rfl
      rw [h1, Option.bind_some, h2, Option.bind_some]
      clear h1 h2
      generalize packI a0 a1 a2 a3 a4 0 body = p at *
      generalize packI b0 b1 b2 b3 b4 0 body = q at *
      rw [num0, Option.bind_some, if_pos rfl]; (first | rw [num0, Option.bind_some] | rw [Option.bind_some])
      show wharfagelaw4_FlowUnlike.j0 (699 + 1) p 0 q 0 false a0 a1 a2 a3 a4 b0 b1 b2 b3 b4 = some true
      rw [wharfagelaw4_FlowUnlike.j0, if_neg (by decide), toList_beq]
      congr 1
      rw [beq_iff_eq, Bool.eq_iff_iff, decide_eq_true_iff]
      simp only [Bool.and_eq_true, beq_iff_eq]
      exact ⟨inj, inj'⟩
    · rw [h1, Option.bind_some, h2, Option.bind_some]
      generalize packI a0 a1 a2 a3 a4 0 body = p
      rw [num0, Option.bind_some, if_pos rfl, num0, Option.bind_some]
      show wharfagelaw4_FlowUnlike.j0 (699 + 1) p 0 _ 400 true a0 a1 a2 a3 a4 b0 b1 b2 b3 b4 = some true
      rw [wharfagelaw4_FlowUnlike.j0, if_pos rfl, num0, Option.bind_some, if_pos rfl, num0, Option.bind_some, if_neg (by decide), empty_toList]; rfl
  · obtain ⟨q, hq, hq'⟩ : ∃ q : ByteArray × Int, flow_Packet.f 700 b0 b1 b2 b3 b4 0 body = some q ∧ (q.2 = 0 ∨ q.1 = ⟨#[]⟩) := by
      rcases Packet_ways 700 (by decide) b0 b1 b2 b3 b4 0 body with ⟨h', he', h2⟩ | h2
      · exact ⟨_, h2, .inl rfl⟩
      · exact ⟨_, h2, .inr rfl⟩
    obtain ⟨q, g⟩ := q
    rw [h1, Option.bind_some, hq, Option.bind_some, num0, Option.bind_some, if_neg (by decide)]
    show wharfagelaw4_FlowUnlike.j0 (699 + 1) _ 400 q g true a0 a1 a2 a3 a4 b0 b1 b2 b3 b4 = some true
    rw [wharfagelaw4_FlowUnlike.j0, if_pos rfl, num0, Option.bind_some, if_neg (by decide), empty_toList, if_pos rfl, num0, Option.bind_some]
    refine ite_to (fun _ => rfl) (fun h => ?_)
    obtain rfl : q = ⟨#[]⟩ := hq'.resolve_left h
    rw [empty_toList]; rfl
end Go.Proofs.Ytobhmonmeocfmaa.Pure
