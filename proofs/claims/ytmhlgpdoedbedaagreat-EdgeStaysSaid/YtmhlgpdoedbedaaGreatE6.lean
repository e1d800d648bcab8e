/- Plain laws: the same edge; what was put is found. -/
import Derived.Test.YtmhlgpdoedbedaaGreatE4
import Derived.Test.YtmhlgpdoedbedaaGreatBd
namespace Go.Proofs.YtmhlgpdoedbedaaGreat.Pu
set_option linter.unusedSimpArgs false
set_option linter.unusedVariables false
open Go Go.RowKit Go.Proofs.YtmhlgpdoedbedaaGreat.Sv Go.Proofs.YtmhlgpdoedbedaaGreat.Lf
set_option maxRecDepth 100000 in
theorem awake19 : L_law19_awake 281474976710656 = some true := by decide +kernel
theorem bdE {e : GEdge} (h : Bd_GEdge e) : BdE e := ⟨⟨h.1.1, fun y hy => (h.1.2 y hy).1⟩, h.2.1, h.2.2.2.1⟩
theorem tlB (a : ByteArray) : (a.toList == a.toList) = true := by rw [beq_iff_eq]
theorem find_of_mem {es : List GEntry} (h : cacheOk es = true) {x : GEntry} (hx : x ∈ es) {now : Int} (hr : ranE x now = false) : findE es x.Flow now = (x, true) := by
  obtain ⟨h1, h2, h3⟩ := (cacheOk_iff es).1 h
  obtain ⟨i, hi, rfl⟩ := List.getElem_of_mem hx
  have ha : at_ es[i].Flow es 0 = ((0 + i : Nat) : Int) := at_is _ es 0 i hi (by rw [getD_el hi]; exact eqF_rfl _) (fun j hj => by
    rw [← Bool.not_eq_true, eqF_iff, getD_el (show j < es.length by omega)]
    exact List.pairwise_iff_getElem.1 h2 j i (by omega) hi hj)
  unfold findE
  rw [ha, if_neg (by omega), show (((0 + i : Nat) : Int)).toNat = i by omega, getD_el hi, hr, if_neg (by decide)]
theorem pin_up {e : GEdge} (h : EdgeOk e) {f : GFlow} {now : Int} {x : GEntry} (hp : Pin e f now x true) : (0 ≤ x.To ∧ x.To < (e.Config.Sites.length : Int)) ∧ (e.Health.getD x.To.toNat default).Up = true := by
  cases hp with
  | old hh =>
    unfold holds at hh
    simp only [Bool.and_eq_true, decide_eq_true_eq] at hh
    exact hh.2
  | new hh hc =>
    obtain ⟨j, h1, h2, h3⟩ := cand_mem _ _ _ _ hc
    rw [h2]
    unfold candIs at h3
    simp only [Bool.and_eq_true] at h3
    refine ⟨⟨by show (0:Int) ≤ ((0 + j : Nat) : Int); omega, by show ((0 + j : Nat) : Int) < _; omega⟩, ?_⟩
    show (e.Health.getD (((0 + j : Nat) : Int)).toNat default).Up = true
    rw [Int.toNat_natCast]
    exact h3.1
end Go.Proofs.YtmhlgpdoedbedaaGreat.Pu
