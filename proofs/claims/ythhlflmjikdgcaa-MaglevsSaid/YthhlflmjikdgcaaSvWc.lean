import Derived.Test.YthhlflmjikdgcaaSvTy
set_option linter.unusedVariables false
set_option linter.unusedSimpArgs false
namespace Go.Proofs.Ythhlflmjikdgcaa.Sv
open Go Go.RowKit
theorem Con.calls {P : Program} {f : FuncId} {ds : List D} {b : Bool} (h : Con P f ds [] (.bool b) []) {w : World} {vs : List Value} (hv : Rs (fun b => b < w.heap.size) w noB noEnv ds vs) :
    Calls P f vs.toArray w fun e w' => e = .returned (.bool b) ∧ Below w.heap.size w w' := by
  obtain ⟨_, h⟩ := h
  refine (h (fun b => b < w.heap.size) noB noEnv w vs (fun b hb => hb.elim id fun h => h.elim) (fun _ _ => rfl) ⟨fun b k hs => by simp [live, look] at hs, fun b k B base sz lim hs => by simp [live, look] at hs, fun b c k l B b1 s1 l1 b2 s2 l2 hs => by simp [live, look] at hs⟩ hv).mono ?_
  rintro e w' ⟨v, im', φ', rfl, hk, _, _, _, _, _, _, _, hr⟩
  cases hr
  refine ⟨rfl, ?_⟩
  have hn : ∀ B, ¬ Held noEnv (live []) B := by
    rintro B ⟨b, k, base, sz, lim, h1, h2⟩
    simp [noEnv] at h2
  exact { size := hk.size, block := fun b hb => hk.block b hb (hn b), os := hk.os, tape := hk.tape, output := hk.output }
end Go.Proofs.Ythhlflmjikdgcaa.Sv
