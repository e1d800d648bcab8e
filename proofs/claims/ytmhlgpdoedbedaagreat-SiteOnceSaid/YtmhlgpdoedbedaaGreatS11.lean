import Derived.Test.YtmhlgpdoedbedaaGreatS10
set_option linter.unusedVariables false
set_option linter.unusedSimpArgs false
namespace Go.Proofs.YtmhlgpdoedbedaaGreat.Pu
open Go Go.RowKit Go.Proofs.YtmhlgpdoedbedaaGreat.Sv Go.Proofs.YtmhlgpdoedbedaaGreat.Lf
theorem pin_away {n : GNode} {now : Int} {f : GFlow} {spill : Bool} (h : (pinN n now f spill).1.Away = true) (hf : fullN n = false) : (findE n.Flows f now).2 = true ∧ pinN n now f spill = ((findE n.Flows f now).1, true) := by
  unfold pinN at h ⊢
  cases hq : (findE n.Flows f now).2 && holdsN n (findE n.Flows f now).1 spill with
  | true =>
    rw [Bool.and_eq_true] at hq
    exact ⟨hq.1, rfl⟩
  | false =>
    exfalso
    rw [hq, cond_false] at h
    unfold newN awayN at h
    rw [hf, cond_false] at h
    dsimp only at h
    rw [Bool.and_false, cond_false] at h
    cases h
theorem hold_away {n : GNode} {e : GEntry} {spill : Bool} (h : holdsN n e spill = true) (ha : e.Away = true) : spill = false := by
  unfold holdsN at h
  rw [ha, cond_true, Bool.and_eq_true] at h
  simpa using h.1
theorem hold_here {n : GNode} {e : GEntry} {spill : Bool} (h : holdsN n e spill = true) (ha : e.Away = false) : hasS n.Config n.Id = true ∧ e.To < ((siteOf n.Config n.Id).Backs.length : Int) ∧ (n.Health.getD e.To.toNat default).Up = true := by
  unfold holdsN at h
  rw [ha, cond_false, Bool.and_eq_true, Bool.and_eq_true, decide_eq_true_eq] at h
  exact h
theorem who_back {id b : Int} (h : 0 ≤ id ∧ id < 3) (hb : 0 ≤ b ∧ b < 4) : whoA (167968768 + 256 * id + b) = (2, id, b, true) := by
  unfold whoA
  rw [if_neg (by omega), if_neg (by omega), if_pos (by omega), show (167968768 + 256 * id + b - 167968768) / 256 = id by omega, show (167968768 + 256 * id + b - 167968768) % 256 = b by omega]
theorem SiteOnce (x : GNode) (now : Int) (s : ByteArray) (h : Bd_GNode x) (_ : s.size ≤ 140737488351232) : L_law20_SiteOnce 281474976710656 x now s = some true := by
  have hT := SiteTake_eq (bdN h) now s
  unfold L_law20_SiteOnce
  refine stB awake20 (stNTT (stB hT ?_))
  by_cases hk : nodeOk x = true ∧ timeOk now = true
  case neg =>
    rw [if_neg hk]
    exact stB (x := 2000) rfl rfl
  rw [if_pos hk]
  obtain ⟨hk, hn⟩ := hk
  have hok := (nodeOk_iff x).1 hk
  refine stB (x := 0) rfl (stNT rfl ?_)
  dsimp only
  by_cases hs : (takeN x now s).2.Sent = []
  · rw [hs]; unfold L_law20_SiteOnce_1; rfl
  obtain ⟨i, h1, h2, h3, h4, h5, h6, h7⟩ := takeN_was hok s hs
  obtain ⟨f1, f2⟩ := ofF_ok h5
  have hx := pin_fitsN hok f1 h6
  have hho := pin_holds hok f1 h6
  have hpe : pinN x now (ofF i).1 ((popI s).1.Tier == 2) = ((pinN x now (ofF i).1 ((popI s).1.Tier == 2)).1, true) := by rw [← h6]
  have hpa := fun q => @pin_away x now (ofF i).1 ((popI s).1.Tier == 2) q
  have htk := takeN_sent h1 h2 h3 h4 rfl h5 hpe
  have hin : insideN x.Id (popI s).1 = (i, true) := h4
  have hpop1 := RPop_eq (N := 281474976710656) (by decide) s
  rw [h1] at hpop1
  have hsz := (popI_may (s := s) (by rw [h1])).2.2
  have hisz := inside_size (id := x.Id) (o := (popI s).1) (by have := popI_may (s := s) (by rw [h1]); have := mayG_parts this.1; omega)
  rw [hin] at hisz
  dsimp only at hisz
  generalize hpn : pinN x now (ofF i).1 ((popI s).1.Tier == 2) = e at *
  rw [sentF_small h7] at htk
  rw [htk]
  have hpop2 := RPop_eq (N := 281474976710656) (by decide) (pushI (headN x.Id e.1 s i))
  rw [pop_push (headN_may hok hx (by omega) hisz) h7] at hpop2
  have hid := hok.id
  have hto := (entOk_parts hx.ok).2.1
  unfold L_law20_SiteOnce_1
  refine stEF (show ¬ ((1 : Nat) : Int) = 0 by decide) (stB hpop1 (stIf (by show (0 : Int) ≤ 0 ∧ (0 : Int) < 1; decide) (stB hpop2 (stNT rfl (stNT rfl (stNT rfl (stVia ?_)))))))
  unfold L_law20_SiteOnce_2
  rw [w64 (n := (167903232 : Int) + x.Id) (by omega) (by omega)]
  cases ha : e.1.Away with
  | true =>
    obtain ⟨a1, a2⟩ := hx.away ha
    have hsp := hold_away hho ha
    have hhd : headN x.Id e.1 s i = ⟨167903232 + x.Id, 167903232 + e.1.To, 2, 1, x.Id + 1, s⟩ := by unfold headN; rw [ha]; rfl
    rw [hhd]
    have ht2 : ((popI s).1.Tier != 2) = true := by
      rw [beq_eq_false_iff_ne] at hsp
      exact bne_iff_ne.2 hsp
    unfold insideN at hin
    rw [ht2, cond_true] at hin
    have hb : (popI s).1.Body = i := congrArg Prod.fst hin
    have hpl : plainO (popI s).1 = true := congrArg Prod.snd hin
    have ht1 : (popI s).1.Tier = 1 := by
      unfold plainO at hpl
      rw [Bool.and_eq_true, beq_iff_eq] at hpl
      exact hpl.1
    have hw := RWhose_eq (N := 281474976710656) (by decide) (167903232 + e.1.To)
    rw [who_site a1] at hw
    have hof := ROf_eq (N := 281474976710656) (by decide) i
    refine stNT rfl (stB hw (stNTT ?_))
    unfold L_law20_SiteOnce_3 L_law20_SiteOnce_5
    rw [hb]
    have hfull := RFull_eq (N := 281474976710656) (by decide) hok
    refine stFF (stEF (by show ¬ (1 : Int) = 2; decide) (stB hof (stB (RFind_eq (by decide) hn hok.cache) (stB hfull (stET ht1 (stNF a2 (stET rfl (stET rfl (stET ?_ ?_)))))))))
    · rw [w64 (n := x.Id + 1) (by omega) (by omega)]
    · show (bif s.toList == s.toList then _ else _) = _
      rw [tlB]
      refine stTT ?_
      dsimp only
      cases hfl : fullN x with
      | true => rfl
      | false =>
        obtain ⟨g1, g2⟩ := hpa ha hfl
        have ge : e.1 = (findE x.Flows (ofF i).1 now).1 := by rw [g2]
        rw [g1, ← ge, ha]
        refine stFF (stTT (stTT ?_))
        rw [beq_self_eq_true]
  | false =>
    obtain ⟨b1, b2, b3⟩ := hold_here hho ha
    have b4 := hx.here ha
    have b5 := hsOk_len hok.hs
    have hhd : headN x.Id e.1 s i = ⟨167903232 + x.Id, 167968768 + 256 * x.Id + e.1.To, 3, 0, 0, i⟩ := by unfold headN; rw [ha]; rfl
    rw [hhd]
    have hw := RWhose_eq (N := 281474976710656) (by decide) (167968768 + 256 * x.Id + e.1.To)
    rw [who_back hid ⟨hto.1, b4⟩] at hw
    have he : x.Config.Sites.getD x.Id.toNat default = siteOf x.Config x.Id := by unfold siteOf; rw [if_pos b1]
    have b6 := b1
    unfold hasS at b6
    rw [decide_eq_true_eq] at b6
    refine stNT rfl (stB hw (stNTT ?_))
    unfold L_law20_SiteOnce_3 L_law20_SiteOnce_4
    rw [he]
    refine stFF (stET rfl (stET rfl (stET rfl (stET rfl (stET rfl (stDT b6.1 (stDT (show (x.Config.Sites.length : Int) > x.Id by omega) (stIf b6 (stVia (stDT b2 (stDT (by dsimp only; omega) (stIf (by dsimp only; omega) ?_))))))))))))
    rw [b3]
end Go.Proofs.YtmhlgpdoedbedaaGreat.Pu
