import Derived.Test.YtmhlgpdoedbedaaGreatS3
set_option linter.unusedVariables false
set_option linter.unusedSimpArgs false
namespace Go.Proofs.YtmhlgpdoedbedaaGreat.Pu
open Go Go.RowKit Go.Proofs.YtmhlgpdoedbedaaGreat.Sv Go.Proofs.YtmhlgpdoedbedaaGreat.Lf
theorem awake20 : L_law20_awake 281474976710656 = some true := by decide +kernel
theorem takeN_sent {n : GNode} {now : Int} {s : ByteArray} {o : GOuter} {i : ByteArray} {w : FlowR} {e : GEntry} (h1 : popI s = (o, 0)) (h2 : o.Dst = 167903232 + n.Id) (h3 : o.Tier ≠ 4) (h4 : insideN n.Id o = (i, true)) (h5 : ofF i = w) (h6 : w.2.2 = 0) (h7 : pinN n now w.1 (o.Tier == 2) = (e, true)) :
    takeN n now s = (⟨n.Id, n.Config, n.Health, n.Seen, (sentF (tN n) (headN n.Id e s i) n.Flows e w.2.1.Flags now).1, n.Serial⟩, (sentF (tN n) (headN n.Id e s i) n.Flows e w.2.1.Flags now).2) := by
  unfold takeN
  rw [h1]
  dsimp only
  rw [h4, show (o.Dst != 167903232 + n.Id) = false by rw [h2]; simp, show (o.Tier == 4) = false from beq_eq_false_iff_ne.2 h3]
  dsimp only
  rw [h5, h6, h7]
  rfl
theorem sentF_small {t : Gevent_Teller} {o : GOuter} {fl : List GEntry} {x : GEntry} {flags now : Int} (h : o.Body.size ≤ 324) :
    sentF t o fl x flags now = ((putE fl (useE x flags now)).1, ⟨[pushI o], (bif (putE fl (useE x flags now)).2.2.1 then [evT t 11 (putE fl (useE x flags now)).2.1.To (putE fl (useE x flags now)).2.1.Flow] else []) ++ [evT t 0 x.To x.Flow]⟩) := if_neg (by omega)
theorem takeN_was {n : GNode} (h : NodeOk n) {now : Int} (s : ByteArray) (hs : (takeN n now s).2.Sent ≠ []) :
    ∃ i, popI s = ((popI s).1, 0) ∧ (popI s).1.Dst = 167903232 + n.Id ∧ (popI s).1.Tier ≠ 4 ∧ insideN n.Id (popI s).1 = (i, true) ∧ (ofF i).2.2 = 0 ∧ (pinN n now (ofF i).1 ((popI s).1.Tier == 2)).2 = true ∧ (headN n.Id (pinN n now (ofF i).1 ((popI s).1.Tier == 2)).1 s i).Body.size ≤ 324 := by
  unfold takeN at hs
  refine ⟨(insideN n.Id (popI s).1).1, ?_⟩
  cases h1 : (((popI s).2 != 0) || ((popI s).1.Dst != 167903232 + n.Id)) with
  | true => rw [h1] at hs; exact absurd rfl hs
  | false =>
  rw [h1, cond_false] at hs
  rw [Bool.or_eq_false_iff, bne_eq_false_iff_eq, bne_eq_false_iff_eq] at h1
  cases h2 : ((popI s).1.Tier == 4) with
  | true =>
    rw [h2, cond_true] at hs
    refine absurd ?_ hs
    unfold toldN
    cases (((getR (popI s).1.Body).2 != 0) || (!((popI s).1.Src == 167903232 + (getR (popI s).1.Body).1.Site) || ((getR (popI s).1.Body).1.Site == n.Id))) with
    | true => rfl
    | false => cases (takeV n.Seen (getR (popI s).1.Body).1 now).2 <;> rfl
  | false =>
  rw [h2, cond_false] at hs
  rw [beq_eq_false_iff_ne] at h2
  cases h3 : (insideN n.Id (popI s).1).2 with
  | false => rw [h3] at hs; exact absurd rfl hs
  | true =>
  rw [h3, Bool.not_true, cond_false] at hs
  cases h4 : ((ofF (insideN n.Id (popI s).1).1).2.2 != 0) with
  | true => rw [h4] at hs; exact absurd rfl hs
  | false =>
  rw [h4, cond_false] at hs
  rw [bne_eq_false_iff_eq] at h4
  cases h5 : (pinN n now (ofF (insideN n.Id (popI s).1).1).1 ((popI s).1.Tier == 2)).2 with
  | false => rw [h5] at hs; exact absurd rfl hs
  | true =>
  rw [h5, Bool.not_true, cond_false] at hs
  refine ⟨by rw [← h1.1], h1.2, h2, by rw [← h3], h4, rfl, ?_⟩
  rcases Nat.lt_or_ge 324 (headN n.Id (pinN n now (ofF (insideN n.Id (popI s).1).1).1 ((popI s).1.Tier == 2)).1 s (insideN n.Id (popI s).1).1).Body.size with c | c
  · unfold sentF at hs
    rw [if_pos c] at hs
    exact absurd rfl hs
  · exact c
theorem who_site {i : Int} (h : 0 ≤ i ∧ i < 3) : whoA (167903232 + i) = (1, i, 0, true) := by
  unfold whoA
  rw [if_neg (by omega), if_pos (by omega), show 167903232 + i - 167903232 = i by omega]
theorem bdN {x : GNode} (h : Bd_GNode x) : BdN x := ⟨⟨h.1.1, fun y hy => (h.1.2 y hy).1⟩, h.2.1, h.2.2.2.1, h.2.2.2.2.2.1⟩
theorem pin_holds {n : GNode} (h : NodeOk n) {f : GFlow} (hf : mayF f = true) {now : Int} {spill : Bool} (hp : (pinN n now f spill).2 = true) : holdsN n (pinN n now f spill).1 spill = true := by
  unfold pinN at hp ⊢
  cases hq : (findE n.Flows f now).2 && holdsN n (findE n.Flows f now).1 spill with
  | true => rw [Bool.and_eq_true] at hq; exact hq.2
  | false =>
    rw [hq, cond_false] at hp
    rw [cond_false]
    unfold newN at hp ⊢
    cases ha : !spill && (awayN n now f).2 with
    | true =>
      rw [cond_true]
      rw [Bool.and_eq_true] at ha
      obtain ⟨ha1, ha2⟩ := ha
      unfold awayN at ha2 ⊢
      cases hfu : fullN n with
      | false => rw [hfu] at ha2; cases ha2
      | true =>
        rw [hfu, cond_true] at ha2
        rw [cond_true]
        obtain ⟨c, c1, c2⟩ := (chosen_spec (targN_may h now) hf 2 (by decide)).2.1 ha2
        obtain ⟨j, j1, j2, j3⟩ := targ_mem n now _ 0 c c1
        have hj : (chosen (targN n now) 2 f).1 = ((0 + j : Nat) : Int) := by rw [← c2, j2]
        unfold holdsN hasS
        show (!spill && decide (0 ≤ (chosen (targN n now) 2 f).1 ∧ (chosen (targN n now) 2 f).1 < (n.Config.Sites.length : Int))) = true
        rw [hj, ha1, decide_eq_true (by omega)]
        rfl
    | false =>
      rw [ha, cond_false] at hp
      rw [cond_false]
      obtain ⟨c, c1, c2⟩ := (chosen_spec (backs_may (hs := n.Health) h.conf n.Id) hf 1 (by decide)).2.1 hp
      obtain ⟨j, j1, j2, j3⟩ := candB_mem n.Health _ 0 c c1
      have hj : (chosen (backs n.Config n.Id n.Health) 1 f).1 = ((0 + j : Nat) : Int) := by rw [← c2, j2]
      have hhas : hasS n.Config n.Id = true := by
        cases q : hasS n.Config n.Id with
        | true => rfl
        | false => unfold siteOf at j1; rw [q, if_neg (by decide)] at j1; simp [zSite] at j1
      unfold backIs at j3
      simp only [Bool.and_eq_true] at j3
      unfold holdsN
      show (hasS n.Config n.Id && (decide ((chosen (backs n.Config n.Id n.Health) 1 f).1 < ((siteOf n.Config n.Id).Backs.length : Int)) && (n.Health.getD (chosen (backs n.Config n.Id n.Health) 1 f).1.toNat default).Up)) = true
      rw [hj, hhas, decide_eq_true (by omega), Int.toNat_natCast, j3.1]
      rfl
end Go.Proofs.YtmhlgpdoedbedaaGreat.Pu
