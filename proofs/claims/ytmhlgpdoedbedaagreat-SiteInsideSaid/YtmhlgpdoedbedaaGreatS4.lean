/- Plain laws: SiteInside, SiteAgain. -/
import Derived.Test.YtmhlgpdoedbedaaGreatS3
namespace Go.Proofs.YtmhlgpdoedbedaaGreat.Pu
set_option linter.unusedSimpArgs false
set_option linter.unusedVariables false
open Go Go.RowKit Go.Proofs.YtmhlgpdoedbedaaGreat.Sv Go.Proofs.YtmhlgpdoedbedaaGreat.Lf
theorem awake20 : L_law20_awake 281474976710656 = some true := by decide +kernel
theorem takeN_sent {n : GNode} {now : Int} {s : ByteArray} {o : GOuter} {i : ByteArray} {w : FlowR} {e : GEntry} (h1 : popI s = (o, 0)) (h2 : o.Dst = 167903232 + n.Id) (h3 : o.Tier ≠ 4) (h4 : insideN n.Id o = (i, true)) (h5 : ofF i = w) (h6 : w.2.2 = 0) (h7 : pinN n now w.1 (o.Tier == 2) = (e, true)) :
    takeN n now s = (⟨n.Id, n.Config, n.Health, n.Seen, (sentF (tN n) (headN n.Id e s i) n.Flows e w.2.1.Flags now).1, n.Serial⟩, (sentF (tN n) (headN n.Id e s i) n.Flows e w.2.1.Flags now).2) := by
  unfold takeN
  rw [h1]
  dsimp only
  rw [h4, show (o.Dst != 167903232 + n.Id) = false by rw [h2]; simp, show (o.Tier == 4) = false from beq_eq_false_iff_ne.2 h3]
  dsimp only
  rw [h5, h6, h7]
  rfl
theorem sentF_small {t : Gevent_Teller} {o : GOuter} {fl : List GEntry} {x : GEntry} {flags now : Int} (h : o.Body.size ≤ 324) :
    sentF t o fl x flags now = ((putE fl (useE x flags now)).1, ⟨[pushI o], (bif (putE fl (useE x flags now)).2.2.1 then [evT t 11 (putE fl (useE x flags now)).2.1.To (putE fl (useE x flags now)).2.1.Flow] else []) ++ [evT t 0 x.To x.Flow]⟩) := if_neg (by omega)
def nG : GNode := ⟨0, givenC, newsB, newV, [], 0⟩
theorem nG_ok : NodeOk nG := (nodeOk_iff _).1 (by decide +kernel)
theorem newG : L_site_New 281474976710656 0 givenC = some (nG, 0) := by
  have h := SiteNew_eq (id := 0) (c := givenC) (by decide) given_ok
  rw [show nodeOk ⟨0, givenC, newsB, newV, [], 0⟩ = true by decide +kernel, if_pos rfl] at h
  exact h
theorem Said20_eq (i flags : Int) (body : ByteArray) : L_law20_said 281474976710656 i flags body = some (sayS i flags body) := by
  unfold L_law20_said
  rw [say_via, and_65535, and_63]
  refine stVia (stIf (by omega) ?_)
  have h := PacketOf_eq (N := 281474976710656) (by decide) (flowI i) (flags % 64) (sayB body)
  rw [if_pos (say_ok i flags body)] at h
  rw [Int.toNat_natCast]
  exact stB h rfl
def toSite (to : Int) (s : ByteArray) : GOuter := ⟨167837696, 167903232 + to, 1, 0, 0, s⟩
theorem toSite_may {to : Int} (h : 0 ≤ to ∧ to < 3) {s : ByteArray} (hs : s.size ≤ 512) : mayG (toSite to s) = true := by
  unfold mayG Known toSite
  exact decide_eq_true (by dsimp only; omega)
theorem RPush_ok {o : GOuter} (h : mayG o = true) (hs : o.Body.size ≤ 324) : L_ref1_Push 281474976710656 o = some (pushI o, 0) := by
  have := RPush_eq (N := 281474976710656) (by decide) o
  unfold pushR at this
  rwa [if_pos h, if_neg (by omega)] at this
theorem Pushed20_eq {to : Int} (h : 0 ≤ to ∧ to < 3) {s : ByteArray} (hs : s.size ≤ 324) : L_law20_pushed 281474976710656 to s = some (pushI (toSite to s)) := by
  unfold L_law20_pushed
  rw [w64 (n := (167903232 : Int) + to) (by omega) (by omega)]
  exact stB (RPush_ok (toSite_may h (by omega)) hs) rfl
theorem plain_to (to : Int) (s : ByteArray) : plainO (toSite to s) = true := by unfold plainO toSite whoA; rfl
theorem inside_to (id to : Int) (s : ByteArray) : insideN id (toSite to s) = (s, true) := by
  unfold insideN
  rw [show ((toSite to s).Tier != 2) = true from rfl, cond_true, plain_to]
  rfl
def spillTo (frm to : Int) (s : ByteArray) : GOuter := ⟨167903232 + frm, 167903232 + to, 2, 1, frm + 1, s⟩
theorem spillTo_may {frm to : Int} (h : 0 ≤ frm ∧ frm < 3) (k : 0 ≤ to ∧ to < 3) {s : ByteArray} (hs : s.size ≤ 512) : mayG (spillTo frm to s) = true := by
  unfold mayG Known spillTo
  exact decide_eq_true (by dsimp only; omega)
theorem who_site {i : Int} (h : 0 ≤ i ∧ i < 3) : whoA (167903232 + i) = (1, i, 0, true) := by
  unfold whoA
  rw [if_neg (by omega), if_pos (by omega), show 167903232 + i - 167903232 = i by omega]
theorem inside_of {id frm : Int} (h : 0 ≤ frm ∧ frm < 3) (hne : frm ≠ id) (to : Int) {b s : ByteArray} (hp : popI b = (toSite frm s, 0)) : insideN id (spillTo frm to b) = (s, true) := by
  have hok : spillOk id (spillTo frm to b) = true := by
    unfold spillOk
    show ((whoA (167903232 + frm)).2.2.2 && (((whoA (167903232 + frm)).1 == 1) && (!((whoA (167903232 + frm)).2.1 == id) && (((1 : Int) == 1) && (frm + 1 == (whoA (167903232 + frm)).2.1 + 1))))) = true
    rw [who_site h]
    simp [hne]
  have hB : (spillTo frm to b).Body = b := rfl
  have hS : (spillTo frm to b).Src = 167903232 + frm := rfl
  unfold insideN
  rw [show ((spillTo frm to b).Tier != 2) = false from rfl, cond_false, hok, cond_true, hB, hS, hp]
  dsimp only
  rw [plain_to]
  simp [toSite]
theorem inside_spill {id frm : Int} (h : 0 ≤ frm ∧ frm < 3) (hne : frm ≠ id) (to : Int) {s : ByteArray} (hs : s.size ≤ 324) : insideN id (spillTo frm to (pushI (toSite frm s))) = (s, true) :=
  inside_of h hne to (pop_push (toSite_may h (s := s) (by omega)) hs)
/-- A new flow at a site that has room. -/
theorem pin_new {n : GNode} (h : NodeOk n) {f : GFlow} (hf : mayF f = true) {now : Int} (spill : Bool) (hfl : n.Flows = []) (hfu : fullN n = false) (hb : backs n.Config n.Id n.Health ≠ []) :
    pinN n now f spill = (⟨f, (chosen (backs n.Config n.Id n.Health) 1 f).1, false, 0, 0⟩, true) := by
  have hc := chosen_spec (backs_may (hs := n.Health) h.conf n.Id) hf 1 (by decide)
  have h2 : (chosen (backs n.Config n.Id n.Health) 1 f).2 = true := by
    cases q : (chosen (backs n.Config n.Id n.Health) 1 f).2 with
    | true => rfl
    | false => exact absurd (hc.2.2 q) hb
  unfold pinN newN awayN
  rw [hfl, hfu, h2, show (findE [] f now).2 = false from rfl]
  simp
theorem SiteInside (src : Int) (body : ByteArray) (spilled : Bool) (_ : body.size ≤ 140737488351232) : L_law20_SiteInside 281474976710656 src body spilled = some true := by
  have hof := say_of src 0 body
  have hsz := say_size src 0 body
  have hsay := Said20_eq src 0 body
  have hmay : mayF (flowI src) = true := (say_ok src 0 body).1
  generalize sayS src 0 body = s at *
  have hps := pushI_size (toSite 0 s)
  have hps1 := pushI_size (toSite 1 s)
  have hb0 : (toSite 0 s).Body = s := rfl
  have hb1 : (toSite 1 s).Body = s := rfl
  rw [hb0] at hps
  rw [hb1] at hps1
  have main : ∀ o : GOuter, mayG o = true → o.Body.size ≤ 324 → o.Dst = 167903232 → o.Tier ≠ 4 → insideN 0 o = (s, true) → L_law20_SiteInside_1 281474976710656 nG.Id nG.Config.Version nG.Config.Sites nG.Health nG.Seen nG.Flows nG.Serial 0 s (pushI o) = some true := by
    intro o ho hob hd ht hi
    have hpin := pin_new nG_ok hmay (now := 3) (o.Tier == 2) rfl (by kernel_rfl) (by decide +kernel)
    have hx := pin_fitsN (now := 3) (spill := (o.Tier == 2)) nG_ok hmay (by rw [hpin])
    rw [hpin] at hx
    generalize (chosen (backs nG.Config nG.Id nG.Health) 1 (flowI src)).1 = to at *
    have htk := takeN_sent (n := nG) (now := 3) (pop_push ho hob) (by rw [hd]; rfl) ht hi hof rfl hpin
    have hhm := headN_may nG_ok hx (all := pushI o) (inner := s) (by have := pushI_size o; omega) (by omega)
    have hbs : (headN nG.Id ⟨flowI src, to, false, 0, 0⟩ (pushI o) s).Body = s := rfl
    rw [sentF_small (by rw [hbs]; omega)] at htk
    have hT := SiteTake_eq (okN_bd nG_ok) 3 (pushI o)
    rw [if_pos ⟨(nodeOk_iff _).2 nG_ok, by decide⟩, htk] at hT
    have hpop := RPop_eq (N := 281474976710656) (by decide) (pushI (headN nG.Id ⟨flowI src, to, false, 0, 0⟩ (pushI o) s))
    rw [pop_push hhm (by rw [hbs]; omega)] at hpop
    unfold L_law20_SiteInside_1 L_law20_SiteInside_2 L_law20_SiteInside_3
    refine stB hT (stB (x := 0) rfl (stNT rfl (stB (x := 0) rfl (stNT rfl ?_))))
    refine stNT rfl (stIf (by show (0 : Int) ≤ 0 ∧ (0 : Int) < 1; decide) (stB hpop (stET rfl (stET rfl ?_))))
    show some (s.toList == s.toList) = some true
    rw [tlB]
  unfold L_law20_SiteInside
  refine stB awake20 (stNTT (stB (x := givenC) rfl (stB newG (stB hsay (stB (Pushed20_eq (to := 0) (by decide) (by omega)) ?_)))))
  cases spilled with
  | false => exact main _ (toSite_may (by decide) (by omega)) (by rw [hb0]; omega) rfl (by show (1 : Int) ≠ 4; decide) (inside_to 0 0 s)
  | true =>
    have hr := RPush_ok (spillTo_may (frm := 1) (to := 0) (by decide) (by decide) (s := pushI (toSite 1 s)) (by omega)) (by show (pushI (toSite 1 s)).size ≤ 324; omega)
    refine stTT (stB (Pushed20_eq (to := 1) (by decide) (by omega)) (stB hr ?_))
    exact main _ (spillTo_may (by decide) (by decide) (by omega)) (by show (pushI (toSite 1 s)).size ≤ 324; omega) rfl (by show (2 : Int) ≠ 4; decide) (inside_spill (by decide) (by decide) 0 (by omega))
/-! ### the same packet again -/
end Go.Proofs.YtmhlgpdoedbedaaGreat.Pu
