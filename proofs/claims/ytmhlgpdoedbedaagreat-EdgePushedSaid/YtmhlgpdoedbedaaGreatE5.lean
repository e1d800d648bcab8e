/- Plain laws: EdgePushed. -/
import Derived.Test.YtmhlgpdoedbedaaGreatE4
import Derived.Test.YtmhlgpdoedbedaaGreatBd
namespace Go.Proofs.YtmhlgpdoedbedaaGreat.Pu
set_option linter.unusedSimpArgs false
set_option linter.unusedVariables false
open Go Go.RowKit Go.Proofs.YtmhlgpdoedbedaaGreat.Sv Go.Proofs.YtmhlgpdoedbedaaGreat.Lf
set_option maxRecDepth 100000 in
theorem awake19 : L_law19_awake 281474976710656 = some true := by decide +kernel
theorem bdE {e : GEdge} (h : Bd_GEdge e) : BdE e := ⟨⟨h.1.1, fun y hy => (h.1.2 y hy).1⟩, h.2.1, h.2.2.2.1⟩
theorem tlB (a : ByteArray) : (a.toList == a.toList) = true := by rw [beq_iff_eq]
theorem EdgePushed (e : GEdge) (now : Int) (s : ByteArray) (h : Bd_GEdge e) (_ : s.size ≤ 140737488351232) : L_law19_EdgePushed 281474976710656 e now s = some true := by
  obtain ⟨r, r1, r2⟩ := Take_eq (bdE h) now s
  unfold L_law19_EdgePushed L_law19_EdgePushed_1
  refine stB awake19 (stNTT (stB r1 (stB rfl ?_)))
  cases r2 with
  | bad => rfl
  | odd => rfl
  | none => rfl
  | big => rfl
  | sent h0 hn hc hp hx hs hpp =>
    rename_i x p
    have hid := h0.id; have hto := hx.to_
    have hpop := RPop_eq (N := 281474976710656) (by decide) (pushI (outO e x s))
    rw [pop_push (outO_may h0 hx (by omega)) (show (outO e x s).Body.size ≤ 324 from hs)] at hpop
    have hwho := RWhose_eq (N := 281474976710656) (by decide) (167903232 + x.To)
    have hw : whoA (167903232 + x.To) = (1, 167903232 + x.To - 167903232, 0, true) := by
      unfold whoA; rw [if_neg (by omega), if_pos (by omega)]
    rw [hw] at hwho
    refine stNT rfl (stFF (stIf ⟨by decide, by show (0:Int) < 1; decide⟩ (stB hpop (stB hwho (stET rfl (stET rfl ?_))))))
    show (bif (s.toList == s.toList) then _ else _) = _
    rw [tlB]
    refine stTT (stVia ?_)
    rw [w64 (by omega) (by omega)]
    exact stET rfl (stTT (stET rfl (stET rfl (stET rfl rfl))))
end Go.Proofs.YtmhlgpdoedbedaaGreat.Pu
