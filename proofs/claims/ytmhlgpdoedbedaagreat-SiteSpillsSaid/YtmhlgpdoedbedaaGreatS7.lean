/- Plain laws: SiteSpills. -/
import Derived.Test.YtmhlgpdoedbedaaGreatS6
namespace Go.Proofs.YtmhlgpdoedbedaaGreat.Pu
set_option linter.unusedSimpArgs false
set_option linter.unusedVariables false
open Go Go.RowKit Go.Proofs.YtmhlgpdoedbedaaGreat.Sv Go.Proofs.YtmhlgpdoedbedaaGreat.Lf
def cS (dr : Bool) : GConfig := ⟨3, [⟨2, dr, 1, [⟨1, false⟩, ⟨3, false⟩]⟩, ⟨1, false, 4, [⟨1, false⟩]⟩]⟩
def vS : List GSeen := [⟨zR, -1⟩, ⟨⟨1, 4, 0, 2⟩, 5⟩, ⟨zR, -1⟩]
def nS (dr : Bool) (fl : List GEntry) : GNode := ⟨0, cS dr, newsB, vS, fl, 0⟩
theorem nS_ok (dr : Bool) : NodeOk (nS dr []) := (nodeOk_iff _).1 (by cases dr <;> decide +kernel)
theorem backsS (dr : Bool) : backs (cS dr) 0 newsB ≠ [] := by cases dr <;> decide +kernel
theorem find_not {es : List GEntry} {f : GFlow} {now : Int} (h : ∀ e ∈ es, e.Flow ≠ f) : findE es f now = (zE, false) := by
  unfold findE
  rw [at_none f es 0 (fun e he => by rw [← Bool.not_eq_true, eqF_iff]; exact h e he), if_pos (by decide)]
/-- A flow that has no entry. -/
theorem pinS {dr : Bool} {fl : List GEntry} (h : NodeOk (nS dr fl)) {f : GFlow} (hf : mayF f = true) {t : Int} (hno : ∀ e ∈ fl, e.Flow ≠ f) (a : Int × Bool) (ha : awayN (nS dr fl) t f = a) :
    ∃ k, pinN (nS dr fl) t f false = (⟨f, k, a.2, 0, 0⟩, true) ∧ (a.2 = true → k = a.1) := by
  have hb := chosen_spec (backs_may (hs := newsB) h.conf 0) hf 1 (by decide)
  have h2 : (chosen (backs (cS dr) 0 newsB) 1 f).2 = true := by
    cases q : (chosen (backs (cS dr) 0 newsB) 1 f).2 with
    | true => rfl
    | false => exact absurd (hb.2.2 q) (backsS dr)
  unfold pinN newN
  rw [show (nS dr fl).Flows = fl from rfl, find_not hno, ha]
  obtain ⟨k, b⟩ := a
  cases b with
  | true => exact ⟨k, rfl, fun _ => rfl⟩
  | false => exact ⟨(chosen (backs (cS dr) 0 newsB) 1 f).1, by
      show (_, (chosen (backs (cS dr) 0 newsB) 1 f).2) = _
      rw [h2]; rfl, fun q => by cases q⟩
theorem targS {dr : Bool} {fl : List GEntry} {t : Int} (h : 6 ≤ t) : targN (nS dr fl) t = if t < 15 then [⟨1, 2⟩] else [] := by
  have a0 : targIs (nS dr fl) t ⟨2, dr, 1, [⟨1, false⟩, ⟨3, false⟩]⟩ 0 = false := rfl
  have hr : roomV ⟨⟨1, 4, 0, 2⟩, 5⟩ t = if t < 15 then (2, true, 0) else (0, false, 0) := by
    unfold roomV
    by_cases c : t < 15
    · rw [if_pos c]; exact if_neg (by dsimp only; omega)
    · rw [if_neg c]; exact if_pos (by dsimp only; omega)
  have a1 : targIs (nS dr fl) t ⟨1, false, 4, [⟨1, false⟩]⟩ 1 = decide (t < 15) := by
    unfold targIs
    show ((1 : Int) != 0 && (!false && (decide ((1 : Int) > 0) && ((roomV ⟨⟨1, 4, 0, 2⟩, 5⟩ t).2.1 && decide ((roomV ⟨⟨1, 4, 0, 2⟩, 5⟩ t).1 > 0))))) = _
    rw [hr]
    by_cases c : t < 15
    · rw [if_pos c, decide_eq_true c]; rfl
    · rw [if_neg c, decide_eq_false c]; rfl
  show targ (nS dr fl) t [⟨2, dr, 1, [⟨1, false⟩, ⟨3, false⟩]⟩, ⟨1, false, 4, [⟨1, false⟩]⟩] 0 = _
  unfold targ
  rw [a0, cond_false]
  unfold targ
  rw [a1, show roomV ((nS dr fl).Seen.getD (0 + 1) default) t = roomV ⟨⟨1, 4, 0, 2⟩, 5⟩ t from rfl, hr]
  by_cases c : t < 15
  · rw [if_pos c, decide_eq_true c, if_pos c]; rfl
  · rw [if_neg c, decide_eq_false c, if_neg c]; rfl
theorem awayS {dr : Bool} {fl : List GEntry} (h : NodeOk (nS dr fl)) {f : GFlow} (hf : mayF f = true) {t : Int} (ht : 6 ≤ t) (hfull : fullN (nS dr fl) = true) : (awayN (nS dr fl) t f).2 = decide (t < 15) ∧ (t < 15 → (awayN (nS dr fl) t f).1 = 1) := by
  have hs := chosen_spec (targN_may h t) hf 2 (by decide)
  unfold awayN
  rw [hfull, cond_true]
  rw [targS ht] at hs ⊢
  by_cases c : t < 15
  · rw [if_pos c] at hs ⊢
    have h2 : (chosen [⟨1, 2⟩] 2 f).2 = true := by
      cases q : (chosen [⟨1, 2⟩] 2 f).2 with
      | true => rfl
      | false => exact absurd (hs.2.2 q) (by simp)
    obtain ⟨x, x1, x2⟩ := hs.2.1 h2
    rw [List.mem_singleton] at x1
    rw [x1] at x2
    exact ⟨by rw [h2, decide_eq_true c], fun _ => x2.symm⟩
  · rw [if_neg c] at hs ⊢
    refine ⟨?_, fun q => absurd q c⟩
    rw [decide_eq_false c]
    cases q : (chosen [] 2 f).2 with
    | false => rfl
    | true => obtain ⟨x, x1, _⟩ := hs.2.1 q; simp at x1
theorem say_flags (i : Int) (b : ByteArray) : (segOf (flowI i) (0 % 64) (sayB b)).Flags = 0 := rfl
/-- A step of that site. -/
theorem stepS {dr : Bool} {fl : List GEntry} (h : NodeOk (nS dr fl)) {t : Int} (ht : timeOk t = true) {i : Int} {b : ByteArray} {e : GEntry} (hp : pinN (nS dr fl) t (flowI i) false = (e, true)) :
    ∃ ev, L_site_Take 281474976710656 (nS dr fl) t (pushI (toSite 0 (sayS i 0 b))) = some (nS dr (putE fl (useE e 0 t)).1, ⟨[pushI (headN 0 e (pushI (toSite 0 (sayS i 0 b))) (sayS i 0 b))], ev⟩, 0)
      ∧ L_ref1_Pop 281474976710656 (pushI (headN 0 e (pushI (toSite 0 (sayS i 0 b))) (sayS i 0 b))) = some (headN 0 e (pushI (toSite 0 (sayS i 0 b))) (sayS i 0 b), 0)
      ∧ NodeOk (nS dr (putE fl (useE e 0 t)).1) ∧ FitsN (nS dr fl) (flowI i) e := by
  have hsz := say_size i 0 b
  have hmay : mayF (flowI i) = true := (say_ok i 0 b).1
  have hps := pushI_size (toSite 0 (sayS i 0 b))
  rw [show (toSite 0 (sayS i 0 b)).Body = sayS i 0 b from rfl] at hps
  have htk := takeN_sent (n := nS dr fl) (now := t) (o := toSite 0 (sayS i 0 b)) (pop_push (toSite_may (to := 0) (by decide) (by omega)) (by show (sayS i 0 b).size ≤ 324; omega)) rfl (by show (1 : Int) ≠ 4; decide) (inside_to 0 0 _) (say_of i 0 b) rfl hp
  have hx : FitsN (nS dr fl) (flowI i) e := by
    have := pin_fitsN (now := t) (spill := false) h hmay (by rw [hp])
    rwa [hp] at this
  have hbs : (headN 0 e (pushI (toSite 0 (sayS i 0 b))) (sayS i 0 b)).Body.size ≤ 324 := by
    unfold headN
    cases e.Away with
    | true => show (pushI _).size ≤ 324; omega
    | false => show (sayS i 0 b).size ≤ 324; omega
  rw [say_flags, show (nS dr fl).Id = 0 from rfl, sentF_small hbs] at htk
  have hok := takeN_ok h ht (pushI (toSite 0 (sayS i 0 b)))
  rw [htk] at hok
  have hT := SiteTake_eq (okN_bd h) t (pushI (toSite 0 (sayS i 0 b)))
  rw [if_pos ⟨(nodeOk_iff _).2 h, ht⟩, htk] at hT
  have hpop := RPop_eq (N := 281474976710656) (by decide) (pushI (headN 0 e (pushI (toSite 0 (sayS i 0 b))) (sayS i 0 b)))
  rw [pop_push (show mayG (headN 0 e (pushI (toSite 0 (sayS i 0 b))) (sayS i 0 b)) = true from headN_may h hx (by omega) (by omega)) hbs] at hpop
  exact ⟨_, hT, hpop, hok, hx⟩
def r4 : ByteArray := repT ⟨1, 4, 0, 2⟩
def o4 : GOuter := ⟨167903233, 167903232, 4, 0, 0, r4⟩
theorem put4 : L_ref1_PutReport 281474976710656 ⟨1, 4, 0, 2⟩ = some (r4, 0) := by kernel_rfl
theorem get4 : getR r4 = (⟨1, 4, 0, 2⟩, 0) := by kernel_rfl
theorem take4 : takeV newV ⟨1, 4, 0, 2⟩ 5 = (vS, true) := by kernel_rfl
theorem told4 (dr : Bool) : takeN ⟨0, cS dr, newsB, newV, [], 0⟩ 5 (pushI o4) = (nS dr [], ⟨[], [evT ⟨1, 0, 0⟩ 13 1 zF]⟩) := by
  unfold takeN
  rw [pop_push (o := o4) (by decide +kernel) (by show r4.size ≤ 324; unfold r4; rw [repT_size]; decide)]
  show toldN ⟨0, cS dr, newsB, newV, [], 0⟩ o4 5 = _
  unfold toldN
  rw [show getR o4.Body = (⟨1, 4, 0, 2⟩, 0) from get4]
  dsimp only
  rw [take4]
  rfl
theorem rest_not {es : List GEntry} {f : GFlow} (h : ∀ e ∈ es, e.Flow ≠ f) : rest es f = es := by
  unfold rest
  refine List.filter_eq_self.2 fun e he => ?_
  have : eqF e.Flow f = false := by rw [← Bool.not_eq_true, eqF_iff]; exact h e he
  rw [this]; rfl
theorem put_new {es : List GEntry} {x : GEntry} (hl : es.length < 8) (h : ∀ e ∈ es, e.Flow ≠ x.Flow) : putE es x = (es ++ [x], zE, false, 0) := by
  unfold putE
  rw [rest_not h, if_neg (by omega)]
theorem fullS1 (e : GEntry) (ha : e.Away = false) (dr : Bool) : fullN (nS dr [e]) = true := by
  have hl : loadN (nS dr [e]) = 1 := by
    unfold loadN
    show ((([e] : List GEntry).filter fun x => !x.Away).length : Int) = 1
    rw [List.filter_cons_of_pos (by rw [ha]; rfl)]
    rfl
  unfold fullN
  rw [hl]
  cases dr <;> rfl
theorem fullS (fl : List GEntry) : fullN (nS true fl) = true := rfl
theorem SiteSpills (src x1 : Int) (dr : Bool) : L_law20_SiteSpills 281474976710656 src x1 dr = some true := by
  have hi : 0 ≤ src % 1024 ∧ src % 1024 < 1024 := by omega
  have hu : 0 ≤ x1 % 16 ∧ x1 % 16 < 16 := by omega
  have hn := SiteNew_eq (id := 0) (c := cS dr) (show 2 ≤ 100 by decide) (by
    intro y hy
    simp only [cS, List.mem_cons, List.not_mem_nil, or_false] at hy
    rcases hy with rfl | rfl
    · show 2 ≤ 100; decide
    · show 1 ≤ 100; decide)
  have hn0 : nodeOk ⟨0, cS dr, newsB, newV, [], 0⟩ = true := by cases dr <;> decide +kernel
  rw [if_pos hn0] at hn
  have hT := SiteTake_eq (okN_bd ((nodeOk_iff _).1 hn0)) 5 (pushI o4)
  rw [if_pos ⟨hn0, by decide⟩, told4] at hT
  have hpush : L_ref1_Push 281474976710656 o4 = some (pushI o4, 0) := RPush_ok (by decide +kernel) (by show r4.size ≤ 324; unfold r4; rw [repT_size]; decide)
  unfold L_law20_SiteSpills
  rw [show L_law20_given 281474976710656 = some givenC from rfl]
  refine stB awake20 (stNTT (stB rfl (stIf (by decide) (stIf (by decide) (stB hn (stB put4 (stB hpush (stB hT (stB (x := 0) rfl (stNT rfl (stB (x := 0) rfl (stNT rfl (stB (x := 13) rfl ?_)))))))))))))
  unfold L_law20_SiteSpills_1
  rw [show bAnd .i64 src 1023 = src % 1024 from and_1023 src, show bAnd .i64 x1 15 = x1 % 16 from and_mask 4 (by decide) x1, w64 (n := src % 1024 + 1) (by omega) (by omega), w64 (n := 6 + x1 % 16) (by omega) (by omega)]
  generalize src % 1024 = i at *
  have htt : 6 ≤ 6 + x1 % 16 ∧ 6 + x1 % 16 < 22 := by omega
  generalize 6 + x1 % 16 = t at *
  have hne : flowI i ≠ flowI (i + 1) := by
    intro q
    have : i % 65536 = (i + 1) % 65536 := congrArg GFlow.Src q
    omega
  have hm1 : mayF (flowI i) = true := (say_ok i 0 ByteArray.empty).1
  have hm2 : mayF (flowI (i + 1)) = true := (say_ok (i + 1) 0 ByteArray.empty).1
  have ht6 : timeOk 6 = true := by decide
  have htk : timeOk t = true := by unfold timeOk; exact decide_eq_true (by omega)
  have hs1 := say_size i 0 (ByteArray.mk #[115])
  have hs2 := say_size (i + 1) 0 (ByteArray.mk #[115])
  -- the first
  have a1 : (awayN (nS dr []) 6 (flowI i)).2 = dr := by
    cases dr with
    | false => unfold awayN; rw [show fullN (nS false []) = false by decide +kernel]; rfl
    | true => exact (awayS (nS_ok true) hm1 (by decide) (fullS [])).1
  obtain ⟨k1, p1, q1⟩ := pinS (nS_ok dr) hm1 (t := 6) (fun e he => by simp at he) _ rfl
  rw [a1] at p1 q1
  obtain ⟨ev1, T1, P1, K1, X1⟩ := stepS (nS_ok dr) ht6 (b := ByteArray.mk #[115]) p1
  have hu1 : useE ⟨flowI i, k1, dr, 0, 0⟩ 0 6 = ⟨flowI i, k1, dr, 0, 6⟩ := rfl
  rw [hu1] at T1 K1
  have w1 : putE [] ⟨flowI i, k1, dr, 0, 6⟩ = ([⟨flowI i, k1, dr, 0, 6⟩], zE, false, 0) := put_new (by decide) (fun e he => by simp at he)
  rw [w1] at T1 K1
  dsimp only at T1 K1
  -- the second
  have hn2 : ∀ e ∈ [(⟨flowI i, k1, dr, 0, 6⟩ : GEntry)], e.Flow ≠ flowI (i + 1) := by
    intro e he; rw [List.mem_singleton] at he; rw [he]; exact hne
  have f2 : fullN (nS dr [⟨flowI i, k1, dr, 0, 6⟩]) = true := by
    cases dr with
    | true => exact fullS _
    | false => exact fullS1 _ rfl _
  have a2 := awayS K1 hm2 htt.1 f2
  obtain ⟨k2, p2, q2⟩ := pinS K1 hm2 (t := t) hn2 _ rfl
  rw [a2.1] at p2 q2
  obtain ⟨ev2, T2, P2, K2, X2⟩ := stepS K1 htk (b := ByteArray.mk #[115]) p2
  have hu2 : useE ⟨flowI (i + 1), k2, decide (t < 15), 0, 0⟩ 0 t = ⟨flowI (i + 1), k2, decide (t < 15), 0, t⟩ := rfl
  rw [hu2] at T2 K2
  have w2 : putE [⟨flowI i, k1, dr, 0, 6⟩] ⟨flowI (i + 1), k2, decide (t < 15), 0, t⟩ = ([⟨flowI i, k1, dr, 0, 6⟩, ⟨flowI (i + 1), k2, decide (t < 15), 0, t⟩], zE, false, 0) := put_new (by show 1 < 8; decide) hn2
  rw [w2] at T2 K2
  dsimp only at T2 K2
  -- the third
  have f3 : findE [⟨flowI i, k1, dr, 0, 6⟩, ⟨flowI (i + 1), k2, decide (t < 15), 0, t⟩] (flowI i) t = (⟨flowI i, k1, dr, 0, 6⟩, true) := find_of_mem (x := ⟨flowI i, k1, dr, 0, 6⟩) K2.cache (.head _) (by
    have h6 : entOk (⟨flowI i, k1, dr, 0, 6⟩ : GEntry) = true := ((cacheOk_iff _).1 K2.cache).1 _ (.head _)
    unfold ranE
    rw [h6]
    show (!true || decide (t ≥ 6 + limE 0)) = false
    rw [decide_eq_false (by unfold limE; rw [if_pos rfl]; omega)]
    rfl)
  have h3 : holdsN (nS dr [⟨flowI i, k1, dr, 0, 6⟩, ⟨flowI (i + 1), k2, decide (t < 15), 0, t⟩]) ⟨flowI i, k1, dr, 0, 6⟩ false = true := by
    have := pin_holds (nS_ok dr) hm1 (now := 6) (spill := false) (by rw [p1])
    rw [p1] at this
    exact this
  have p3 : pinN (nS dr [⟨flowI i, k1, dr, 0, 6⟩, ⟨flowI (i + 1), k2, decide (t < 15), 0, t⟩]) t (flowI i) false = (⟨flowI i, k1, dr, 0, 6⟩, true) := by
    unfold pinN
    rw [show (nS dr [⟨flowI i, k1, dr, 0, 6⟩, ⟨flowI (i + 1), k2, decide (t < 15), 0, t⟩]).Flows = [⟨flowI i, k1, dr, 0, 6⟩, ⟨flowI (i + 1), k2, decide (t < 15), 0, t⟩] from rfl, f3, h3]
    rfl
  obtain ⟨ev3, T3, P3, K3, X3⟩ := stepS K2 htk (b := ByteArray.mk #[115]) p3
  have hu3 : useE ⟨flowI i, k1, dr, 0, 6⟩ 0 t = ⟨flowI i, k1, dr, 0, t⟩ := rfl
  rw [hu3] at T3
  have w3 : putE [⟨flowI i, k1, dr, 0, 6⟩, ⟨flowI (i + 1), k2, decide (t < 15), 0, t⟩] ⟨flowI i, k1, dr, 0, t⟩ = ([⟨flowI (i + 1), k2, decide (t < 15), 0, t⟩, ⟨flowI i, k1, dr, 0, t⟩], zE, false, 0) := by
    unfold putE
    have : rest [⟨flowI i, k1, dr, 0, 6⟩, ⟨flowI (i + 1), k2, decide (t < 15), 0, t⟩] (flowI i) = [⟨flowI (i + 1), k2, decide (t < 15), 0, t⟩] := by
      unfold rest
      rw [List.filter_cons_of_neg (by show ¬ (!eqF (flowI i) (flowI i)) = true; rw [eqF_rfl]; decide), List.filter_cons_of_pos (by
        show (!eqF (flowI (i + 1)) (flowI i)) = true
        rw [show eqF (flowI (i + 1)) (flowI i) = false by rw [← Bool.not_eq_true, eqF_iff]; exact fun q => hne q.symm]; rfl), List.filter_nil]
    rw [show (⟨flowI i, k1, dr, 0, t⟩ : GEntry).Flow = flowI i from rfl, this]
    rfl
  rw [w3] at T3
  dsimp only at T3
  have hpu1 := Pushed20_eq (to := 0) (by decide) (s := sayS i 0 (ByteArray.mk #[115])) (by omega)
  have hpu2 := Pushed20_eq (to := 0) (by decide) (s := sayS (i + 1) 0 (ByteArray.mk #[115])) (by omega)
  have hsm1 := Said20_eq i 0 (ByteArray.mk #[115])
  have hsm2 := Said20_eq (i + 1) 0 (ByteArray.mk #[115])
  generalize sayS i 0 (ByteArray.mk #[115]) = s1 at *
  generalize sayS (i + 1) 0 (ByteArray.mk #[115]) = s2 at *
  refine stFF (stB hsm1 (stB hsm2 (stB hpu1 (stB T1 (stVia (stB hpu2 (stB T2 (stB hpu1 (stB T3 (stB (x := 0) rfl (stNT rfl (stB (x := 0) rfl (stNT rfl (stB (x := 0) rfl (stNT rfl (stNT rfl (stNT rfl (stNT rfl ?_))))))))))))))))))
  unfold L_law20_SiteSpills_2 L_law20_SiteSpills_3
  refine stFF (stIf (by show (0 : Int) ≤ 0 ∧ (0 : Int) < 1; decide) (stB P1 (stIf (by show (0 : Int) ≤ 0 ∧ (0 : Int) < 1; decide) (stB P2 (stIf (by show (0 : Int) ≤ 0 ∧ (0 : Int) < 1; decide) (stB P3 (stET rfl (stET rfl (stET rfl ?_)))))))))
  have t1 : ((headN 0 ⟨flowI i, k1, dr, 0, 0⟩ (pushI (toSite 0 s1)) s1).Tier == 2) = dr := by cases dr <;> rfl
  have t2 : ((headN 0 ⟨flowI (i + 1), k2, decide (t < 15), 0, 0⟩ (pushI (toSite 0 s2)) s2).Tier == 2) = decide (t < 15) := by cases decide (t < 15) <;> rfl
  dsimp only
  rw [t1, t2]
  rw [show (dr == dr) = true from beq_self_eq_true _, show (decide (t < 15) == decide (t < 15)) = true from beq_self_eq_true _]
  have t3 : ((headN 0 ⟨flowI i, k1, dr, 0, 6⟩ (pushI (toSite 0 s1)) s1)) = headN 0 ⟨flowI i, k1, dr, 0, 0⟩ (pushI (toSite 0 s1)) s1 := rfl
  refine stTT (stTT ?_)
  rw [t3]
  generalize headN 0 ⟨flowI i, k1, dr, 0, 0⟩ (pushI (toSite 0 s1)) s1 = h1
  refine stVia ?_
  rw [tlB]
  simp only [beq_self_eq_true, Bool.true_and]
  refine stTT ?_
  by_cases c : t < 15
  · rw [decide_eq_true c] at *
    have e2 : k2 = 1 := by rw [q2 rfl, a2.2 c]
    subst e2
    refine stNT rfl (stET rfl (stET rfl (stET rfl (stB hpu2 ?_))))
    show some ((pushI (toSite 0 s2)).toList == (pushI (toSite 0 s2)).toList) = some true
    rw [tlB]
  · rw [decide_eq_false c] at *
    exact stNF (by show ¬ (3 : Int) = 2; decide) rfl
end Go.Proofs.YtmhlgpdoedbedaaGreat.Pu
