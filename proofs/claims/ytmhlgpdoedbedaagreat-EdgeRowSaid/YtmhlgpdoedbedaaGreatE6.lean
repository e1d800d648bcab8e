/- Plain laws: the same edge; what was put is found. -/
import Derived.Test.YtmhlgpdoedbedaaGreatE4
import Derived.Test.YtmhlgpdoedbedaaGreatBd
namespace Go.Proofs.YtmhlgpdoedbedaaGreat.Pu
set_option linter.unusedSimpArgs false
set_option linter.unusedVariables false
open Go Go.RowKit Go.Proofs.YtmhlgpdoedbedaaGreat.Sv Go.Proofs.YtmhlgpdoedbedaaGreat.Lf
set_option maxRecDepth 100000 in
theorem awake19 : L_law19_awake 281474976710656 = some true := by decide +kernel
theorem put_mem {es : List GEntry} {x y : GEntry} (h : y ∈ (putE es x).1) : y ∈ es ∨ y = x := by
  have hs : y ∈ rest es x.Flow ++ [x] := by
    unfold putE at h
    split at h
    · exact List.mem_of_mem_drop h
    · exact h
  rcases List.mem_append.1 hs with h | h
  · exact .inl (List.mem_filter.1 h).1
  · exact .inr (List.mem_singleton.1 h)
def usedE (f : GFlow) (x : GEntry) (p now : Int) : GEntry := ⟨f, x.To, false, p, now⟩
def thenE (e : GEdge) (u : GEntry) : GEdge := ⟨e.Id, e.Config, e.Health, (putE e.Flows u).1⟩
theorem then_ok {e : GEdge} (h : EdgeOk e) {f : GFlow} {x : GEntry} (hx : Fits e f x) {p now : Int} (hp : 0 ≤ p ∧ p ≤ 2) (hn : timeOk now = true) : EdgeOk (thenE e (usedE f x p now)) := by
  refine ⟨fun y hy => ?_, h.id, h.conf, h.hs, put_ok h.cache (used_ok hx hp hn)⟩
  rcases put_mem hy with hy | rfl
  · exact h.pin y hy
  · exact ⟨rfl, hx.to_⟩
theorem ok_bd {e : GEdge} (h : EdgeOk e) : BdE e := by
  obtain ⟨s1, s2⟩ := confOk_small h.conf
  have s3 := hsOk_len h.hs
  have s4 := ((cacheOk_iff _).1 h.cache).2.2
  exact ⟨⟨by omega, fun y hy => by have := (s2 y hy).2; omega⟩, by omega, by omega⟩
end Go.Proofs.YtmhlgpdoedbedaaGreat.Pu
