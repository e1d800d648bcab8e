/- Plain laws: SiteInside, SiteAgain. -/
import Derived.Test.YtmhlgpdoedbedaaGreatS3
namespace Go.Proofs.YtmhlgpdoedbedaaGreat.Pu
set_option linter.unusedSimpArgs false
set_option linter.unusedVariables false
open Go Go.RowKit Go.Proofs.YtmhlgpdoedbedaaGreat.Sv Go.Proofs.YtmhlgpdoedbedaaGreat.Lf
theorem awake20 : L_law20_awake 281474976710656 = some true := by decide +kernel
theorem takeN_sent {n : GNode} {now : Int} {s : ByteArray} {o : GOuter} {i : ByteArray} {w : FlowR} {e : GEntry} (h1 : popI s = (o, 0)) (h2 : o.Dst = 167903232 + n.Id) (h3 : o.Tier ≠ 4) (h4 : insideN n.Id o = (i, true)) (h5 : ofF i = w) (h6 : w.2.2 = 0) (h7 : pinN n now w.1 (o.Tier == 2) = (e, true)) :
    takeN n now s = (⟨n.Id, n.Config, n.Health, n.Seen, (sentF (tN n) (headN n.Id e s i) n.Flows e w.2.1.Flags now).1, n.Serial⟩, (sentF (tN n) (headN n.Id e s i) n.Flows e w.2.1.Flags now).2) := by
  unfold takeN
  rw [h1]
  dsimp only
  rw [h4, show (o.Dst != 167903232 + n.Id) = false by rw [h2]; simp, show (o.Tier == 4) = false from beq_eq_false_iff_ne.2 h3]
  dsimp only
  rw [h5, h6, h7]
  rfl
theorem sentF_small {t : Gevent_Teller} {o : GOuter} {fl : List GEntry} {x : GEntry} {flags now : Int} (h : o.Body.size ≤ 324) :
    sentF t o fl x flags now = ((putE fl (useE x flags now)).1, ⟨[pushI o], (bif (putE fl (useE x flags now)).2.2.1 then [evT t 11 (putE fl (useE x flags now)).2.1.To (putE fl (useE x flags now)).2.1.Flow] else []) ++ [evT t 0 x.To x.Flow]⟩) := if_neg (by omega)
theorem Said20_eq (i flags : Int) (body : ByteArray) : L_law20_said 281474976710656 i flags body = some (sayS i flags body) := by
  unfold L_law20_said
  rw [say_via, and_65535, and_63]
  refine stVia (stIf (by omega) ?_)
  have h := PacketOf_eq (N := 281474976710656) (by decide) (flowI i) (flags % 64) (sayB body)
  rw [if_pos (say_ok i flags body)] at h
  rw [Int.toNat_natCast]
  exact stB h rfl
def toSite (to : Int) (s : ByteArray) : GOuter := ⟨167837696, 167903232 + to, 1, 0, 0, s⟩
theorem toSite_may {to : Int} (h : 0 ≤ to ∧ to < 3) {s : ByteArray} (hs : s.size ≤ 512) : mayG (toSite to s) = true := by
  unfold mayG Known toSite
  exact decide_eq_true (by dsimp only; omega)
theorem RPush_ok {o : GOuter} (h : mayG o = true) (hs : o.Body.size ≤ 324) : L_ref1_Push 281474976710656 o = some (pushI o, 0) := by
  have := RPush_eq (N := 281474976710656) (by decide) o
  unfold pushR at this
  rwa [if_pos h, if_neg (by omega)] at this
theorem Pushed20_eq {to : Int} (h : 0 ≤ to ∧ to < 3) {s : ByteArray} (hs : s.size ≤ 324) : L_law20_pushed 281474976710656 to s = some (pushI (toSite to s)) := by
  unfold L_law20_pushed
  rw [w64 (n := (167903232 : Int) + to) (by omega) (by omega)]
  exact stB (RPush_ok (toSite_may h (by omega)) hs) rfl
theorem plain_to (to : Int) (s : ByteArray) : plainO (toSite to s) = true := by unfold plainO toSite whoA; rfl
theorem inside_to (id to : Int) (s : ByteArray) : insideN id (toSite to s) = (s, true) := by
  unfold insideN
  rw [show ((toSite to s).Tier != 2) = true from rfl, cond_true, plain_to]
  rfl
/-! ### the same packet again -/
/-- Who was pinned holds. -/
theorem pin_holds {n : GNode} (h : NodeOk n) {f : GFlow} (hf : mayF f = true) {now : Int} {spill : Bool} (hp : (pinN n now f spill).2 = true) : holdsN n (pinN n now f spill).1 spill = true := by
  unfold pinN at hp ⊢
  cases hq : (findE n.Flows f now).2 && holdsN n (findE n.Flows f now).1 spill with
  | true => rw [Bool.and_eq_true] at hq; exact hq.2
  | false =>
    rw [hq, cond_false] at hp
    rw [cond_false]
    unfold newN at hp ⊢
    cases ha : !spill && (awayN n now f).2 with
    | true =>
      rw [cond_true]
      rw [Bool.and_eq_true] at ha
      obtain ⟨ha1, ha2⟩ := ha
      unfold awayN at ha2 ⊢
      cases hfu : fullN n with
      | false => rw [hfu] at ha2; cases ha2
      | true =>
        rw [hfu, cond_true] at ha2
        rw [cond_true]
        obtain ⟨c, c1, c2⟩ := (chosen_spec (targN_may h now) hf 2 (by decide)).2.1 ha2
        obtain ⟨j, j1, j2, j3⟩ := targ_mem n now _ 0 c c1
        have hj : (chosen (targN n now) 2 f).1 = ((0 + j : Nat) : Int) := by rw [← c2, j2]
        unfold holdsN hasS
        show (!spill && decide (0 ≤ (chosen (targN n now) 2 f).1 ∧ (chosen (targN n now) 2 f).1 < (n.Config.Sites.length : Int))) = true
        rw [hj, ha1, decide_eq_true (by omega)]
        rfl
    | false =>
      rw [ha, cond_false] at hp
      rw [cond_false]
      obtain ⟨c, c1, c2⟩ := (chosen_spec (backs_may (hs := n.Health) h.conf n.Id) hf 1 (by decide)).2.1 hp
      obtain ⟨j, j1, j2, j3⟩ := candB_mem n.Health _ 0 c c1
      have hj : (chosen (backs n.Config n.Id n.Health) 1 f).1 = ((0 + j : Nat) : Int) := by rw [← c2, j2]
      have hhas : hasS n.Config n.Id = true := by
        cases q : hasS n.Config n.Id with
        | true => rfl
        | false => unfold siteOf at j1; rw [q, if_neg (by decide)] at j1; simp [zSite] at j1
      unfold backIs at j3
      simp only [Bool.and_eq_true] at j3
      unfold holdsN
      show (hasS n.Config n.Id && (decide ((chosen (backs n.Config n.Id n.Health) 1 f).1 < ((siteOf n.Config n.Id).Backs.length : Int)) && (n.Health.getD (chosen (backs n.Config n.Id n.Health) 1 f).1.toNat default).Up)) = true
      rw [hj, hhas, decide_eq_true (by omega), Int.toNat_natCast, j3.1]
      rfl
end Go.Proofs.YtmhlgpdoedbedaaGreat.Pu
