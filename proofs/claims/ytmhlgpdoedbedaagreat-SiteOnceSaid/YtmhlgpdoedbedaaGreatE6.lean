import Derived.Test.YtmhlgpdoedbedaaGreatE4
import Derived.Test.YtmhlgpdoedbedaaGreatBd
set_option linter.unusedVariables false
set_option linter.unusedSimpArgs false
namespace Go.Proofs.YtmhlgpdoedbedaaGreat.Pu
open Go Go.RowKit Go.Proofs.YtmhlgpdoedbedaaGreat.Sv Go.Proofs.YtmhlgpdoedbedaaGreat.Lf
theorem tlB (a : ByteArray) : (a.toList == a.toList) = true := by rw [beq_iff_eq]
theorem find_of_mem {es : List GEntry} (h : cacheOk es = true) {x : GEntry} (hx : x ∈ es) {now : Int} (hr : ranE x now = false) : findE es x.Flow now = (x, true) := by
  obtain ⟨h1, h2, h3⟩ := (cacheOk_iff es).1 h
  obtain ⟨i, hi, rfl⟩ := List.getElem_of_mem hx
  have ha : at_ es[i].Flow es 0 = ((0 + i : Nat) : Int) := at_is _ es 0 i hi (by rw [getD_el hi]; exact eqF_rfl _) (fun j hj => by
    rw [← Bool.not_eq_true, eqF_iff, getD_el (show j < es.length by omega)]
    exact List.pairwise_iff_getElem.1 h2 j i (by omega) hi hj)
  unfold findE
  rw [ha, if_neg (by omega), show (((0 + i : Nat) : Int)).toNat = i by omega, getD_el hi, hr, if_neg (by decide)]
end Go.Proofs.YtmhlgpdoedbedaaGreat.Pu
