import Derived.Test.YtobhmonmeocfmaaFlowP
import Derived.Test.YtobhmonmeocfmaaNetGet
import Derived.Test.YtobhmonmeocfmaaFAWharfagelaw4FlowBack
namespace Go.Proofs.Ytobhmonmeocfmaa.Pure
set_option linter.unusedSimpArgs false
set_option linter.unusedVariables false
open Go Go.RowKit Go.Proofs.Ytobhmonmeocfmaa.PA Go.Proofs.YtobhmonmeocfmaaW.PrintWords Go.Proofs.YtobhmonmeocfmaaW.PrintLast Go.Proofs.YtobhmonmeocfmaaW.PrintMore Go.Proofs.Ytobhmonmeocfmaa.Wh
theorem awake4B : wharfagelaw4_awake.f 700 = some true := by decide +kernel
theorem Of_pack {src dst proto sport dport flags : Int} {body : ByteArray} (h : mayS proto sport dport 0 0 flags body = true) (he : mayE src dst = true) :
    flow_Of.f 700 (packI src dst proto sport dport flags body) = some (if dst = 167772161 then (src, dst, proto, sport, dport, proto, sport, dport, 0, 0, flags, body, 0) else (0, 0, 0, 0, 0, 0, 0, 0, 0, 0, 0, (⟨#[]⟩ : ByteArray), 3)) := by
  have hh : flow_handled.f proto = some true := by
    rcases kind_of h with rfl | rfl <;> rfl
  have hg := Get_eq 700 (by decide) (packI src dst proto sport dport flags body)
  have hp : getI (packI src dst proto sport dport flags body) = _ := get_put (pack_may h he)
  rw [hp] at hg
  have hs := SegGet_eq 699 (by decide) proto (putS proto sport dport 0 0 flags body src dst) src dst
  rw [get_putS h he] at hs
  unfold flow_Of.f
  rw [hg, Option.bind_some, if_pos rfl, hh, Option.bind_some, if_pos rfl]
  show flow_Of.j0 (699 + 1) (dst != 167772161) src dst proto 64 0 (putS proto sport dport 0 0 flags body src dst) = _
  rw [flow_Of.j0]
  by_cases c : dst = 167772161
  · rw [if_neg (by simp [c]), hs, Option.bind_some, if_pos rfl, if_pos c]
  · rw [if_pos (bne_iff_ne.mpr c), if_neg c]
theorem FlowBack (a0 a1 a2 a3 a4 flags : Int) (body : ByteArray) (_ : (Lit.int .i64 a0).wf = true) (_ : (Lit.int .i64 a1).wf = true) (_ : (Lit.int .i64 a2).wf = true) (_ : (Lit.int .i64 a3).wf = true) (_ : (Lit.int .i64 a4).wf = true) (_ : (Lit.int .i64 flags).wf = true) (_ : body.size ≤ 140737488351232) : ∃ k, wharfagelaw4_FlowBack.f k a0 a1 a2 a3 a4 flags body = some true := by
  refine ⟨700, ?_⟩
  unfold wharfagelaw4_FlowBack.f
  rw [awake4B, Option.bind_some, if_pos rfl]
  rcases Packet_ways 700 (by decide) a0 a1 a2 a3 a4 flags body with ⟨h, he, h1⟩ | h1
  · have hO := Of_pack h he
    rw [h1, Option.bind_some, num0, Option.bind_some, if_pos rfl]
    dsimp only
    rw [hO]
    by_cases c : a1 = 167772161
    · rw [if_pos c, Option.bind_some, if_pos c, if_pos rfl, if_pos (by simp), if_pos rfl, if_pos rfl, beq_self_eq_true]
    · rw [if_neg c, Option.bind_some, if_neg c, if_pos rfl, if_pos (by decide)]
      show some ((⟨#[]⟩ : ByteArray).toList == []) = some true
      rw [empty_toList]; rfl
  · rw [h1, Option.bind_some, num0, Option.bind_some, if_neg (by decide), empty_toList]; rfl
end Go.Proofs.Ytobhmonmeocfmaa.Pure
