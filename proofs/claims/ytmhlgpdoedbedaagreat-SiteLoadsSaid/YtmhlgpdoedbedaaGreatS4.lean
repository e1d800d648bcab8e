/- Plain laws: SiteInside, SiteAgain. -/
import Derived.Test.YtmhlgpdoedbedaaGreatS3
namespace Go.Proofs.YtmhlgpdoedbedaaGreat.Pu
set_option linter.unusedSimpArgs false
set_option linter.unusedVariables false
open Go Go.RowKit Go.Proofs.YtmhlgpdoedbedaaGreat.Sv Go.Proofs.YtmhlgpdoedbedaaGreat.Lf
theorem awake20 : L_law20_awake 281474976710656 = some true := by decide +kernel
theorem takeN_sent {n : GNode} {now : Int} {s : ByteArray} {o : GOuter} {i : ByteArray} {w : FlowR} {e : GEntry} (h1 : popI s = (o, 0)) (h2 : o.Dst = 167903232 + n.Id) (h3 : o.Tier ≠ 4) (h4 : insideN n.Id o = (i, true)) (h5 : ofF i = w) (h6 : w.2.2 = 0) (h7 : pinN n now w.1 (o.Tier == 2) = (e, true)) :
    takeN n now s = (⟨n.Id, n.Config, n.Health, n.Seen, (sentF (tN n) (headN n.Id e s i) n.Flows e w.2.1.Flags now).1, n.Serial⟩, (sentF (tN n) (headN n.Id e s i) n.Flows e w.2.1.Flags now).2) := by
  unfold takeN
  rw [h1]
  dsimp only
  rw [h4, show (o.Dst != 167903232 + n.Id) = false by rw [h2]; simp, show (o.Tier == 4) = false from beq_eq_false_iff_ne.2 h3]
  dsimp only
  rw [h5, h6, h7]
  rfl
theorem sentF_small {t : Gevent_Teller} {o : GOuter} {fl : List GEntry} {x : GEntry} {flags now : Int} (h : o.Body.size ≤ 324) :
    sentF t o fl x flags now = ((putE fl (useE x flags now)).1, ⟨[pushI o], (bif (putE fl (useE x flags now)).2.2.1 then [evT t 11 (putE fl (useE x flags now)).2.1.To (putE fl (useE x flags now)).2.1.Flow] else []) ++ [evT t 0 x.To x.Flow]⟩) := if_neg (by omega)
theorem Said20_eq (i flags : Int) (body : ByteArray) : L_law20_said 281474976710656 i flags body = some (sayS i flags body) := by
  unfold L_law20_said
  rw [say_via, and_65535, and_63]
  refine stVia (stIf (by omega) ?_)
  have h := PacketOf_eq (N := 281474976710656) (by decide) (flowI i) (flags % 64) (sayB body)
  rw [if_pos (say_ok i flags body)] at h
  rw [Int.toNat_natCast]
  exact stB h rfl
def toSite (to : Int) (s : ByteArray) : GOuter := ⟨167837696, 167903232 + to, 1, 0, 0, s⟩
theorem toSite_may {to : Int} (h : 0 ≤ to ∧ to < 3) {s : ByteArray} (hs : s.size ≤ 512) : mayG (toSite to s) = true := by
  unfold mayG Known toSite
  exact decide_eq_true (by dsimp only; omega)
theorem RPush_ok {o : GOuter} (h : mayG o = true) (hs : o.Body.size ≤ 324) : L_ref1_Push 281474976710656 o = some (pushI o, 0) := by
  have := RPush_eq (N := 281474976710656) (by decide) o
  unfold pushR at this
  rwa [if_pos h, if_neg (by omega)] at this
theorem Pushed20_eq {to : Int} (h : 0 ≤ to ∧ to < 3) {s : ByteArray} (hs : s.size ≤ 324) : L_law20_pushed 281474976710656 to s = some (pushI (toSite to s)) := by
  unfold L_law20_pushed
  rw [w64 (n := (167903232 : Int) + to) (by omega) (by omega)]
  exact stB (RPush_ok (toSite_may h (by omega)) hs) rfl
theorem plain_to (to : Int) (s : ByteArray) : plainO (toSite to s) = true := by unfold plainO toSite whoA; rfl
theorem inside_to (id to : Int) (s : ByteArray) : insideN id (toSite to s) = (s, true) := by
  unfold insideN
  rw [show ((toSite to s).Tier != 2) = true from rfl, cond_true, plain_to]
  rfl
/-! ### the same packet again -/
end Go.Proofs.YtmhlgpdoedbedaaGreat.Pu
