import Derived.Test.YtnhbieicjlnakaaIpAwake
import Derived.Test.YtnhbieicjlnakaaFAWharfagelaw2IpUnlike
namespace Go.Proofs.Ytnhbieicjlnakaa.Pure
set_option linter.unusedSimpArgs false
set_option linter.unusedVariables false
open Go Go.RowKit Go.Proofs.Ytnhbieicjlnakaa.PA Go.Proofs.YtnhbieicjlnakaaW.PrintWords Go.Proofs.YtnhbieicjlnakaaW.PrintLast Go.Proofs.YtnhbieicjlnakaaW.PrintMore Go.Proofs.Ytnhbieicjlnakaa.Wh
theorem IpUnlike_at (a0 a1 a2 a3 a4 : Int) (a5 : ByteArray) (b0 b1 b2 b3 b4 : Int) (b5 : ByteArray) : wharfagelaw2_IpUnlike.f 700 a0 a1 a2 a3 a4 a5 b0 b1 b2 b3 b4 b5 = some true := by
  unfold wharfagelaw2_IpUnlike.f
  rw [awakeI, Option.bind_some, if_pos rfl]
  by_cases ha : mayI a0 a1 a2 a3 a4 a5 = true
  · rw [Put_ok 700 (by decide) ha, Option.bind_some]
    by_cases hb : mayI b0 b1 b2 b3 b4 b5 = true
    · have inj := put_inj ha hb
      have inj' : a0 = b0 ∧ a1 = b1 ∧ a2 = b2 ∧ a3 = b3 ∧ a4 = b4 ∧ a5 = b5 → putI a0 a1 a2 a3 a4 a5 = putI b0 b1 b2 b3 b4 b5 := by
        rintro ⟨rfl, rfl, rfl, rfl, rfl, rfl⟩; rfl
      rw [Put_ok 700 (by decide) hb, Option.bind_some]
      generalize putI a0 a1 a2 a3 a4 a5 = p at *
      generalize putI b0 b1 b2 b3 b4 b5 = q at *
      rw [num0, Option.bind_some, if_pos rfl]; (first | rw [num0, Option.bind_some] | rw [Option.bind_some])
      show wharfagelaw2_IpUnlike.j0 (699 + 1) p 0 q 0 false a0 a1 a2 a3 a4 a5 b0 b1 b2 b3 b4 b5 = some true
      rw [wharfagelaw2_IpUnlike.j0, if_neg (by decide), toList_beq, toList_beq]
      congr 1
      rw [beq_iff_eq, Bool.eq_iff_iff, decide_eq_true_iff]
      simp only [Bool.and_eq_true, beq_iff_eq, decide_eq_true_iff]
      exact ⟨inj, inj'⟩
    · rw [Put_bad 700 (by simpa using hb), Option.bind_some]
      generalize putI a0 a1 a2 a3 a4 a5 = p
      rw [num0, Option.bind_some, if_pos rfl]; (first | rw [num0, Option.bind_some] | rw [Option.bind_some])
      show wharfagelaw2_IpUnlike.j0 (699 + 1) p 0 _ 200 true a0 a1 a2 a3 a4 a5 b0 b1 b2 b3 b4 b5 = some true
      rw [wharfagelaw2_IpUnlike.j0, if_pos rfl, num0, Option.bind_some, if_pos rfl, num0, Option.bind_some, if_neg (by decide), empty_toList]; rfl
  · rw [Put_bad 700 (by simpa using ha), Option.bind_some]
    obtain ⟨q, hq, hq'⟩ : ∃ q : ByteArray × Int, ip_Put.f 700 b0 b1 b2 b3 b4 b5 = some q ∧ (q.2 = 0 ∨ q.1 = ⟨#[]⟩) := by
      by_cases hb : mayI b0 b1 b2 b3 b4 b5 = true
      · exact ⟨_, Put_ok 700 (by decide) hb, .inl rfl⟩
      · exact ⟨_, Put_bad 700 (by simpa using hb), .inr rfl⟩
    obtain ⟨q, e⟩ := q
    rw [hq, Option.bind_some, num0, Option.bind_some, if_neg (by decide)]
    show wharfagelaw2_IpUnlike.j0 (699 + 1) _ 200 q e true a0 a1 a2 a3 a4 a5 b0 b1 b2 b3 b4 b5 = some true
    rw [wharfagelaw2_IpUnlike.j0, if_pos rfl, num0, Option.bind_some, if_neg (by decide), empty_toList, if_pos rfl, num0, Option.bind_some]
    refine ite_to (fun _ => rfl) (fun h => ?_)
    obtain rfl : q = ⟨#[]⟩ := hq'.resolve_left h
    rw [empty_toList]; rfl
theorem IpUnlike (a0 a1 a2 a3 a4 : Int) (a5 : ByteArray) (b0 b1 b2 b3 b4 : Int) (b5 : ByteArray) (_ : (Lit.int .i64 a0).wf = true) (_ : (Lit.int .i64 a1).wf = true) (_ : (Lit.int .i64 a2).wf = true) (_ : (Lit.int .i64 a3).wf = true) (_ : (Lit.int .i64 a4).wf = true) (_ : (Lit.int .i64 b0).wf = true) (_ : (Lit.int .i64 b1).wf = true) (_ : (Lit.int .i64 b2).wf = true) (_ : (Lit.int .i64 b3).wf = true) (_ : (Lit.int .i64 b4).wf = true) : ∃ k, wharfagelaw2_IpUnlike.f k a0 a1 a2 a3 a4 a5 b0 b1 b2 b3 b4 b5 = some true := ⟨_, IpUnlike_at a0 a1 a2 a3 a4 a5 b0 b1 b2 b3 b4 b5⟩
end Go.Proofs.Ytnhbieicjlnakaa.Pure
