/- Plain laws: EdgeMoves. -/
import Derived.Test.YtmhlgpdoedbedaaGreatE10
namespace Go.Proofs.YtmhlgpdoedbedaaGreat.Pu
set_option linter.unusedSimpArgs false
set_option linter.unusedVariables false
open Go Go.RowKit Go.Proofs.YtmhlgpdoedbedaaGreat.Sv Go.Proofs.YtmhlgpdoedbedaaGreat.Lf
theorem Said19_eq (i flags : Int) (body : ByteArray) : L_law19_said 281474976710656 i flags body = some (sayS i flags body) := by
  unfold L_law19_said
  rw [say_via, and_65535, and_63]
  refine stVia (stIf (by omega) ?_)
  have h := PacketOf_eq (N := 281474976710656) (by decide) (flowI i) (flags % 64) (sayB body)
  rw [if_pos (say_ok i flags body)] at h
  rw [Int.toNat_natCast]
  exact stB h rfl
theorem CopyE0_eq {N : Nat} (hN : 1000 ≤ N) {e : GEdge} (h : EdgeOk e) : L_law0_CopyEdge N e = some e := by
  obtain ⟨s1, s2⟩ := confOk_small h.conf
  have s3 := hsOk_len h.hs
  have s4 := ((cacheOk_iff _).1 h.cache).2.2
  unfold L_law0_CopyEdge
  exact stB (CopyC0_eq hN _ (by omega) (fun y hy => by have := (s2 y hy).2; omega)) (stIf (growOk_small (by omega) (by omega)) (stIf (growOk_small (by omega) (by omega)) rfl))
/-- What of a flow's packet comes at an edge where somebody may be chosen. -/
theorem sent_of {e : GEdge} (h : EdgeOk e) {now : Int} (hn : timeOk now = true) {s : ByteArray} (hc : (ofF s).2.2 = 0) (hs : s.size ≤ 324) (hne : candE e.Config e.Health ≠ []) {r : EdgeR} (hr : Takes e now s r) :
    ∃ x p, Pin e (ofF s).1 now x true ∧ Fits e (ofF s).1 x ∧ (0 ≤ p ∧ p ≤ 2) ∧ r = (thenE e (usedE (ofF s).1 x p now), ⟨[pushI (outO e x s)], putEv e (usedE (ofF s).1 x p now)⟩, 0) := by
  cases hr with
  | bad q => exact absurd ⟨h, hn⟩ q
  | odd _ _ q => exact absurd hc q
  | none _ _ _ _ q => exact absurd q hne
  | big _ _ _ _ _ q => omega
  | sent _ _ _ hp hx _ hpp => exact ⟨_, _, hp, hx, hpp, rfl⟩
theorem rest_one1 (f : GFlow) (x : GEntry) (h : x.Flow = f) : rest [x] f = [] := by
  unfold rest
  rw [List.filter_cons_of_neg (by rw [h, eqF_rfl]; decide), List.filter_nil]
theorem put_one (x y : GEntry) (h : x.Flow = y.Flow) : putE [x] y = ([y], zE, false, 0) := by
  unfold putE
  rw [rest_one1 _ _ h]
  rfl
theorem find_one {x : GEntry} {f : GFlow} (h : x.Flow = f) {now : Int} (hr : ranE x now = false) : findE [x] f now = (x, true) := by
  unfold findE at_
  rw [if_pos (eqF_iff.2 h), if_neg (by decide)]
  show (if ranE x now = true then (zE, false) else (x, true)) = _
  rw [hr, if_neg (by decide)]
def hsW (was : Int) : List GHealth := if was = 0 then [⟨false, 0⟩, ⟨true, 0⟩, ⟨true, 0⟩] else [⟨true, 0⟩, ⟨false, 0⟩, ⟨true, 0⟩]
def confW (was : Int) (other : Bool) : GConfig :=
  bif other then (if was = 0 then ⟨3, [⟨16, false, 2, [⟨1, false⟩, ⟨3, false⟩]⟩, ⟨1, false, 4, [⟨1, false⟩]⟩]⟩ else ⟨3, [⟨2, false, 2, [⟨1, false⟩, ⟨3, false⟩]⟩, ⟨16, false, 4, [⟨1, false⟩]⟩]⟩) else givenC
theorem ran_late {f : GFlow} {to p now later : Int} (h : entOk ⟨f, to, false, p, now⟩ = true) (hl : later ≤ now + 5) : ranE ⟨f, to, false, p, now⟩ later = false := by
  unfold ranE
  rw [h]
  have : 6 ≤ limE p := by unfold limE; split <;> omega
  rw [decide_eq_false (by show ¬ later ≥ now + limE p; omega)]
  rfl
theorem moves_4 (f : GFlow) (s : ByteArray) (hf : ofF s = (f, (ofF s).2.1, 0)) (hm : mayF f = true) (hs : s.size ≤ 324) (was to p : Int) (hw : was = 0 ∨ was = 1) (ht : to = 1 - was) (hp : 0 ≤ p ∧ p ≤ 2) (c : GConfig) (hc : c = confW was true ∨ c = givenC) :
    L_law19_EdgeMoves_4 281474976710656 s was 0 c.Version c.Sites newsH [⟨f, to, false, p, 2⟩] = some true := by
  have hu : entOk ⟨f, to, false, p, 2⟩ = true := by
    unfold entOk timeOk
    rw [hm, decide_eq_true (show 0 ≤ to ∧ to < 256 by omega), decide_eq_true hp]; rfl
  have hconf : confOk c = true := by rcases hc with rfl | rfl <;> rcases hw with rfl | rfl <;> decide +kernel
  have hlen : c.Sites.length = 2 := by rcases hc with rfl | rfl <;> rcases hw with rfl | rfl <;> rfl
  have hcache : cacheOk [⟨f, to, false, p, 2⟩] = true := by
    rw [cacheOk_iff]
    exact ⟨fun e he => by rw [List.mem_singleton.1 he]; exact hu, List.pairwise_singleton _ _, by show (1 : Nat) ≤ 8; decide⟩
  have hok : EdgeOk ⟨0, c, newsH, [⟨f, to, false, p, 2⟩]⟩ := ⟨fun x hx => by rw [List.mem_singleton.1 hx]; exact ⟨rfl, by show 0 ≤ to; omega, by show to < 3; omega⟩, by show (0 : Int) ≤ 0 ∧ (0 : Int) < 2; decide, hconf, by show hsOk newsH 3 = true; decide +kernel, hcache⟩
  have hc0 : (ofF s).2.2 = 0 := by rw [hf]
  have hf0 : (ofF s).1 = f := by rw [hf]
  obtain ⟨r, r1, r2⟩ := Take_eq (ok_bd hok) 3 s
  have hfind : findE [⟨f, to, false, p, 2⟩] f 3 = (⟨f, to, false, p, 2⟩, true) := find_one rfl (ran_late hu (by omega))
  have hh : holds ⟨0, c, newsH, [⟨f, to, false, p, 2⟩]⟩ (ofF s).1 3 = true := by
    unfold holds
    rw [hf0, hfind]
    show (true && (decide (0 ≤ to ∧ to < (c.Sites.length : Int)) && (newsH.getD to.toNat default).Up)) = true
    rw [decide_eq_true (show 0 ≤ to ∧ to < (c.Sites.length : Int) by omega)]
    rcases hw with rfl | rfl <;> subst ht <;> rfl
  have hne : candE c newsH ≠ [] := by rcases hc with rfl | rfl <;> rcases hw with rfl | rfl <;> decide +kernel
  obtain ⟨x, q, x1, x2, x3, rfl⟩ := sent_of hok (by decide) hc0 hs hne r2
  have hx : x = ⟨f, to, false, p, 2⟩ := by
    cases x1 with
    | old _ => rw [hf0, hfind]
    | new k _ => rw [hh] at k; cases k
  subst hx
  unfold L_law19_EdgeMoves_4
  refine stB r1 (stB (x := 0) rfl ?_)
  have hp1 : putE [⟨f, to, false, p, 2⟩] (usedE (ofF s).1 ⟨f, to, false, p, 2⟩ q 3) = ([usedE (ofF s).1 ⟨f, to, false, p, 2⟩ q 3], zE, false, 0) := put_one _ _ hf0.symm
  unfold thenE
  dsimp only
  rw [hp1]
  refine stET rfl (stET rfl (stIf (by show (0 : Int) ≤ 0 ∧ (0 : Int) < 1; decide) ?_))
  unfold L_law19_EdgeMoves_5
  rw [w64 (n := 1 - was) (by omega) (by omega)]
  show some (to == 1 - was) = some true
  rw [ht, beq_self_eq_true]
theorem EdgeMoves (src : Int) (other : Bool) : L_law19_EdgeMoves 281474976710656 src other = some true := by
  have n0 := New_eq (id := 0) (c := givenC) (by decide) given_ok
  rw [show edgeOk ⟨0, givenC, newsH, []⟩ = true by decide +kernel, if_pos rfl] at n0
  have hok0 : EdgeOk gE := (edgeOk_iff _).1 (by decide +kernel)
  have hsay := Said19_eq src 2 ⟨#[109]⟩
  have hof := say_of src 2 ⟨#[109]⟩
  have hsz := say_size src 2 ⟨#[109]⟩
  have hmay : mayF (flowI src) = true := (say_ok src 2 ⟨#[109]⟩).1
  generalize sayS src 2 ⟨#[109]⟩ = s at *
  generalize flowI src = f at *
  have hc0 : (ofF s).2.2 = 0 := by rw [hof]
  have hf0 : (ofF s).1 = f := by rw [hof]
  have hff : ofF s = (f, (ofF s).2.1, 0) := by rw [hof]
  clear hof
  obtain ⟨r, r1, r2⟩ := Take_eq (ok_bd hok0) 1 s
  obtain ⟨x, p, x1, x2, x3, rfl⟩ := sent_of hok0 (by decide) hc0 (by omega) (by decide +kernel) r2
  have hw : x.To = 0 ∨ x.To = 1 := by
    cases x1 with
    | old k => rw [show holds gE (ofF s).1 1 = false from rfl] at k; cases k
    | new _ k =>
      have hl : candE gE.Config gE.Health = [⟨0, 2⟩, ⟨1, 1⟩] := by kernel_rfl
      rw [hl] at k
      simp only [List.mem_cons, List.not_mem_nil, or_false] at k
      rcases k with rfl | rfl
      · exact .inl rfl
      · exact .inr rfl
  have hok1 := then_ok hok0 x2 x3 (now := 1) (by decide)
  have e1 : thenE gE (usedE (ofF s).1 x p 1) = ⟨0, givenC, newsH, [⟨f, x.To, false, p, 1⟩]⟩ := by rw [hf0]; rfl
  have hu1 : entOk ⟨f, x.To, false, p, 1⟩ = true := by have := used_ok x2 x3 (now := 1) (by decide); rwa [hf0] at this
  rw [e1] at hok1
  generalize hto : x.To = was at *
  unfold L_law19_EdgeMoves
  refine stB awake19 (stNTT (stB (x := givenC) rfl (stB n0 (stB hsay (stB r1 (stB (x := 0) rfl (stNT rfl (stB (x := 0) rfl (stNT rfl ?_)))))))))
  dsimp only
  rw [e1]
  refine stNT rfl ?_
  unfold L_law19_EdgeMoves_1
  refine stFF (stIf (by show (0 : Int) ≤ 0 ∧ (0 : Int) < 1; decide) ?_)
  show (bif decide (was < 0) then _ else L_law19_EdgeMoves_2 281474976710656 other 0 3 givenC.Sites newsH [⟨f, was, false, p, 1⟩] s was (decide (was > 1))) = _
  refine stDF (by omega) ?_
  rw [decide_eq_false (show ¬ was > 1 by omega)]
  unfold L_law19_EdgeMoves_2
  -- down
  have hhs : (newsH.set was.toNat ⟨false, 0⟩) = hsW was := by rcases hw with rfl | rfl <;> rfl
  have hok2 : EdgeOk ⟨0, givenC, hsW was, [⟨f, was, false, p, 1⟩]⟩ := ⟨hok1.pin, hok1.id, hok1.conf, (by rcases hw with rfl | rfl <;> decide +kernel : hsOk (hsW was) 3 = true), hok1.cache⟩
  obtain ⟨r', q1, q2⟩ := Take_eq (ok_bd hok2) 2 s
  have hh : holds ⟨0, givenC, hsW was, [⟨f, was, false, p, 1⟩]⟩ (ofF s).1 2 = false := by
    unfold holds
    rw [hf0, find_one (x := ⟨f, was, false, p, 1⟩) rfl (ran_late hu1 (by omega))]
    rcases hw with rfl | rfl <;> rfl
  obtain ⟨y, p', y1, y2, y3, rfl⟩ := sent_of hok2 (by decide) hc0 (by omega) (by rcases hw with rfl | rfl <;> decide +kernel : candE givenC (hsW was) ≠ []) q2
  have hy : y.To = 1 - was := by
    cases y1 with
    | old k => rw [hh] at k; cases k
    | new _ k =>
      have hl : candE givenC (hsW was) = if was = 0 then [⟨1, 1⟩] else [⟨0, 2⟩] := by rcases hw with rfl | rfl <;> kernel_rfl
      rw [hl] at k
      rcases hw with rfl | rfl
      · rw [if_pos rfl] at k; rw [List.mem_singleton.1 k]; rfl
      · rw [if_neg (by decide)] at k; rw [List.mem_singleton.1 k]; rfl
  have hput : putE [⟨f, was, false, p, 1⟩] (usedE (ofF s).1 y p' 2) = ([⟨f, 1 - was, false, p', 2⟩], zE, false, 0) := by
    rw [put_one _ _ (by show f = (ofF s).1; exact hf0.symm)]
    unfold usedE; rw [hf0, hy]
  refine stFF (stB (CopyE0_eq (by decide) hok1) (stIf (by show 0 ≤ was ∧ was < 3; omega) ?_))
  show (Option.bind (L_edge_Take 281474976710656 ⟨0, givenC, newsH.set was.toNat ⟨false, 0⟩, [⟨f, was, false, p, 1⟩]⟩ 2 s) _) = _
  rw [hhs]
  refine stB q1 (stB (x := 0) rfl (stNT rfl ?_))
  unfold thenE
  dsimp only
  rw [hput]
  refine stNT rfl (stNT rfl (stIf (by show (0 : Int) ≤ 0 ∧ (0 : Int) < 1; decide) ?_))
  rw [w64 (n := 1 - was) (by omega) (by omega)]
  refine stNT rfl ?_
  rw [show ((hsW was).length : Int) = 3 by rcases hw with rfl | rfl <;> rfl]
  refine stNT rfl ?_
  unfold L_law19_EdgeMoves_3
  rw [show (hsW was).length = 3 by rcases hw with rfl | rfl <;> rfl, show (hsW was).set was.toNat ⟨true, 0⟩ = newsH by rcases hw with rfl | rfl <;> rfl]
  refine stFF (stIf (by omega) ?_)
  cases other with
  | false => exact moves_4 f s hff hmay (by omega) was (1 - was) p' hw rfl y3 givenC (.inr rfl)
  | true =>
    refine stTT (stIf (by show 0 ≤ was ∧ was < 2; omega) ?_)
    have hcw : (confW was true).Sites = givenC.Sites.set was.toNat ⟨16, (givenC.Sites.getD was.toNat default).Drain, (givenC.Sites.getD was.toNat default).Cap, (givenC.Sites.getD was.toNat default).Backs⟩ := by rcases hw with rfl | rfl <;> rfl
    rw [← hcw]
    have := moves_4 f s hff hmay (by omega) was (1 - was) p' hw rfl y3 (confW was true) (.inl rfl)
    rwa [show (confW was true).Version = 3 by rcases hw with rfl | rfl <;> rfl] at this
end Go.Proofs.YtmhlgpdoedbedaaGreat.Pu
