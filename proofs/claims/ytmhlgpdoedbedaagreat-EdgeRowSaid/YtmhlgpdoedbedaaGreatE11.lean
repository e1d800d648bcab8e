/- Plain laws: EdgeMoves. -/
import Derived.Test.YtmhlgpdoedbedaaGreatE10
namespace Go.Proofs.YtmhlgpdoedbedaaGreat.Pu
set_option linter.unusedSimpArgs false
set_option linter.unusedVariables false
open Go Go.RowKit Go.Proofs.YtmhlgpdoedbedaaGreat.Sv Go.Proofs.YtmhlgpdoedbedaaGreat.Lf
theorem Said19_eq (i flags : Int) (body : ByteArray) : L_law19_said 281474976710656 i flags body = some (sayS i flags body) := by
  unfold L_law19_said
  rw [say_via, and_65535, and_63]
  refine stVia (stIf (by omega) ?_)
  have h := PacketOf_eq (N := 281474976710656) (by decide) (flowI i) (flags % 64) (sayB body)
  rw [if_pos (say_ok i flags body)] at h
  rw [Int.toNat_natCast]
  exact stB h rfl
/-- What of a flow's packet comes at an edge where somebody may be chosen. -/
theorem sent_of {e : GEdge} (h : EdgeOk e) {now : Int} (hn : timeOk now = true) {s : ByteArray} (hc : (ofF s).2.2 = 0) (hs : s.size ≤ 324) (hne : candE e.Config e.Health ≠ []) {r : EdgeR} (hr : Takes e now s r) :
    ∃ x p, Pin e (ofF s).1 now x true ∧ Fits e (ofF s).1 x ∧ (0 ≤ p ∧ p ≤ 2) ∧ r = (thenE e (usedE (ofF s).1 x p now), ⟨[pushI (outO e x s)], putEv e (usedE (ofF s).1 x p now)⟩, 0) := by
  cases hr with
  | bad q => exact absurd ⟨h, hn⟩ q
  | odd _ _ q => exact absurd hc q
  | none _ _ _ _ q => exact absurd q hne
  | big _ _ _ _ _ q => omega
  | sent _ _ _ hp hx _ hpp => exact ⟨_, _, hp, hx, hpp, rfl⟩
end Go.Proofs.YtmhlgpdoedbedaaGreat.Pu
