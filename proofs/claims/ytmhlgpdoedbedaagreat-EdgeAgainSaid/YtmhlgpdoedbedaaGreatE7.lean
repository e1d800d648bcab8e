/- Plain laws: EdgeAgain. -/
import Derived.Test.YtmhlgpdoedbedaaGreatE6
namespace Go.Proofs.YtmhlgpdoedbedaaGreat.Pu
set_option linter.unusedSimpArgs false
set_option linter.unusedVariables false
open Go Go.RowKit Go.Proofs.YtmhlgpdoedbedaaGreat.Sv Go.Proofs.YtmhlgpdoedbedaaGreat.Lf
theorem and_31 (x : Int) : bAnd .i64 x 31 = x % 32 := and_mask 5 (by decide) x
theorem ran_now {f : GFlow} {x : GEntry} {p now : Int} {e : GEdge} (hx : Fits e f x) (hp : 0 ≤ p ∧ p ≤ 2) (hn : timeOk now = true) : ranE (usedE f x p now) now = false := by
  unfold ranE
  rw [show entOk (usedE f x p now) = true from used_ok hx hp hn]
  have : 6 ≤ limE p := by unfold limE; split <;> omega
  rw [decide_eq_false (show ¬ now ≥ (usedE f x p now).Used + limE (usedE f x p now).Phase from by show ¬ now ≥ now + limE p; omega)]
  rfl
/-- The second time. -/
theorem again {e : GEdge} (h : EdgeOk e) {s : ByteArray} {now : Int} (hn : timeOk now = true) (hc : (ofF s).2.2 = 0) {x : GEntry} (hp : Pin e (ofF s).1 now x true) (hx : Fits e (ofF s).1 x) (hs : s.size ≤ 324) {p : Int} (hpp : 0 ≤ p ∧ p ≤ 2) {r : EdgeR}
    (hr : Takes (thenE e (usedE (ofF s).1 x p now)) now s r) : r.2.2 = 0 ∧ r.2.1.Sent = [pushI (outO e x s)] ∧ r.2.1.Events.length = 1 ∧ r.1.Flows.length = (putE e.Flows (usedE (ofF s).1 x p now)).1.length := by
  have hu := used_ok hx hpp hn
  have hok := then_ok h hx hpp hn
  have hmem : usedE (ofF s).1 x p now ∈ (putE e.Flows (usedE (ofF s).1 x p now)).1 := put_last
  have hfind : findE (putE e.Flows (usedE (ofF s).1 x p now)).1 (ofF s).1 now = (usedE (ofF s).1 x p now, true) :=
    find_of_mem (put_ok h.cache hu) hmem (ran_now hx hpp hn)
  obtain ⟨u1, u2⟩ := pin_up h hp
  have hh : holds (thenE e (usedE (ofF s).1 x p now)) (ofF s).1 now = true := by
    unfold holds
    show ((findE (putE e.Flows (usedE (ofF s).1 x p now)).1 (ofF s).1 now).2 && _) = true
    rw [show (thenE e (usedE (ofF s).1 x p now)).Flows = (putE e.Flows (usedE (ofF s).1 x p now)).1 from rfl, hfind]
    show (true && (decide (0 ≤ x.To ∧ x.To < (e.Config.Sites.length : Int)) && (e.Health.getD x.To.toNat default).Up)) = true
    rw [decide_eq_true u1, u2]
    rfl
  have hlen := (cacheOk_iff _).1 (put_ok h.cache hu)
  have hone := rest_one hlen.2.1 hmem
  cases hr with
  | bad q => exact absurd ⟨hok, hn⟩ q
  | odd _ _ q => exact absurd hc q
  | none _ _ _ q => rw [hh] at q; cases q
  | big _ _ _ _ _ q => omega
  | sent h0' hn' hc' hp' hx' hs' hpp' =>
    rename_i x' p'
    have ex : x' = usedE (ofF s).1 x p now := by
      cases hp' with
      | old _ => rw [show (thenE e (usedE (ofF s).1 x p now)).Flows = (putE e.Flows (usedE (ofF s).1 x p now)).1 from rfl, hfind]
      | new q _ => rw [hh] at q; cases q
    subst ex
    have hput : putE (putE e.Flows (usedE (ofF s).1 x p now)).1 ⟨(ofF s).1, x.To, false, p', now⟩ = (rest (putE e.Flows (usedE (ofF s).1 x p now)).1 (ofF s).1 ++ [⟨(ofF s).1, x.To, false, p', now⟩], zE, false, 0) := by
      have h8 : (putE e.Flows (usedE (ofF s).1 x p now)).1.length ≤ 8 := hlen.2.2
      have hone' : (rest (putE e.Flows (usedE (ofF s).1 x p now)).1 (ofF s).1).length + 1 = (putE e.Flows (usedE (ofF s).1 x p now)).1.length := hone
      generalize (putE e.Flows (usedE (ofF s).1 x p now)).1 = O at *
      exact if_neg (show ¬ 8 < (rest O (ofF s).1).length + 1 by omega)
    refine ⟨rfl, rfl, ?_, ?_⟩
    · show (putEv (thenE e (usedE (ofF s).1 x p now)) ⟨(ofF s).1, x.To, false, p', now⟩).length = 1
      unfold putEv
      rw [show (thenE e (usedE (ofF s).1 x p now)).Flows = (putE e.Flows (usedE (ofF s).1 x p now)).1 from rfl, hput]
      rfl
    · show (putE (putE e.Flows (usedE (ofF s).1 x p now)).1 ⟨(ofF s).1, x.To, false, p', now⟩).1.length = _
      rw [hput]
      show (rest _ _ ++ [_]).length = _
      rw [List.length_append, List.length_singleton]
      exact hone
theorem texts_one (N : Nat) (t : ByteArray) (hN : 2 ≤ N) : L_law0_SameTexts_1 N N [t] [t] 0 = some true := by
  have : ∀ k, L_law0_SameTexts_1 N (k + 2) [t] [t] 0 = some true := by
    intro k
    rw [L_law0_SameTexts_1]
    refine stDT (by simp) (stIf (by simp) (stIf (by simp) ?_))
    show (bif !(t.toList == t.toList) then _ else _) = _
    rw [tlB]
    refine stNTT ?_
    rw [L_law0_SameTexts_1, w64 (by omega) (by omega)]
    exact stDF (by simp) rfl
  obtain ⟨k, hk⟩ : ∃ k, N = k + 2 := ⟨N - 2, by omega⟩
  have := this k
  rwa [← hk] at this
theorem EdgeAgain (e : GEdge) (now : Int) (s : ByteArray) (h : Bd_GEdge e) (_ : s.size ≤ 140737488351232) : L_law19_EdgeAgain 281474976710656 e now s = some true := by
  have hN : 1000 ≤ 281474976710656 := by decide
  have hn : timeOk (now % 32) = true := by unfold timeOk; exact decide_eq_true (by omega)
  obtain ⟨r, r1, r2⟩ := Take_eq (bdE h) (now % 32) s
  unfold L_law19_EdgeAgain L_law19_EdgeAgain_1 L_law19_EdgeAgain_2 L_law19_EdgeAgain_3
  rw [and_31]
  refine stB awake19 (stNTT (stB r1 (stB rfl ?_)))
  cases r2 with
  | bad => rfl
  | odd h0 => exact stNT rfl (stTT (stB rfl (stNT rfl (stB (SameEdge_eq hN h0) rfl))))
  | none h0 => exact stNT rfl (stTT (stB rfl (stNT rfl (stB (SameEdge_eq hN h0) rfl))))
  | big h0 => exact stNT rfl (stTT (stB rfl (stNT rfl (stB (SameEdge_eq hN h0) rfl))))
  | sent h0 hn2 hc hp hx hs hpp =>
    rename_i x p
    have hok := then_ok h0 hx hpp hn
    obtain ⟨r', q1, q2⟩ := Take_eq (ok_bd hok) (now % 32) s
    obtain ⟨a1, a2, a3, a4⟩ := again h0 hn hc hp hx hs hpp q2
    have hpos : 1 ≤ (putE e.Flows (usedE (ofF s).1 x p (now % 32))).1.length := List.length_pos_of_mem (put_last (es := e.Flows) (x := usedE (ofF s).1 x p (now % 32)))
    have hst : L_law0_SameTexts 281474976710656 [pushI (outO e x s)] r'.2.1.Sent = some true := by
      rw [a2]
      unfold L_law0_SameTexts
      refine stNT rfl ?_
      exact texts_one _ _ (by decide)
    refine stNT rfl (stFF (stB q1 (stB rfl (stET a1 (stB hst (stTT (stET (by rw [a3]; rfl) (stET (by rw [a4]; rfl) ?_))))))))
    rw [decide_eq_true]
    show ((putE e.Flows (usedE (ofF s).1 x p (now % 32))).1.length : Int) ≥ 1
    omega
end Go.Proofs.YtmhlgpdoedbedaaGreat.Pu
