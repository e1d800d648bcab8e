/- Plain laws: the same edge; what was put is found. -/
import Derived.Test.YtmhlgpdoedbedaaGreatE4
import Derived.Test.YtmhlgpdoedbedaaGreatBd
namespace Go.Proofs.YtmhlgpdoedbedaaGreat.Pu
set_option linter.unusedSimpArgs false
set_option linter.unusedVariables false
open Go Go.RowKit Go.Proofs.YtmhlgpdoedbedaaGreat.Sv Go.Proofs.YtmhlgpdoedbedaaGreat.Lf
theorem tlB (a : ByteArray) : (a.toList == a.toList) = true := by rw [beq_iff_eq]
theorem put_mem {es : List GEntry} {x y : GEntry} (h : y ∈ (putE es x).1) : y ∈ es ∨ y = x := by
  have hs : y ∈ rest es x.Flow ++ [x] := by
    unfold putE at h
    split at h
    · exact List.mem_of_mem_drop h
    · exact h
  rcases List.mem_append.1 hs with h | h
  · exact .inl (List.mem_filter.1 h).1
  · exact .inr (List.mem_singleton.1 h)
theorem find_of_mem {es : List GEntry} (h : cacheOk es = true) {x : GEntry} (hx : x ∈ es) {now : Int} (hr : ranE x now = false) : findE es x.Flow now = (x, true) := by
  obtain ⟨h1, h2, h3⟩ := (cacheOk_iff es).1 h
  obtain ⟨i, hi, rfl⟩ := List.getElem_of_mem hx
  have ha : at_ es[i].Flow es 0 = ((0 + i : Nat) : Int) := at_is _ es 0 i hi (by rw [getD_el hi]; exact eqF_rfl _) (fun j hj => by
    rw [← Bool.not_eq_true, eqF_iff, getD_el (show j < es.length by omega)]
    exact List.pairwise_iff_getElem.1 h2 j i (by omega) hi hj)
  unfold findE
  rw [ha, if_neg (by omega), show (((0 + i : Nat) : Int)).toNat = i by omega, getD_el hi, hr, if_neg (by decide)]
end Go.Proofs.YtmhlgpdoedbedaaGreat.Pu
