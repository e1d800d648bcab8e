/- Plain laws: EdgeStays. -/
import Derived.Test.YtmhlgpdoedbedaaGreatE6
namespace Go.Proofs.YtmhlgpdoedbedaaGreat.Pu
set_option linter.unusedSimpArgs false
set_option linter.unusedVariables false
open Go Go.RowKit Go.Proofs.YtmhlgpdoedbedaaGreat.Sv Go.Proofs.YtmhlgpdoedbedaaGreat.Lf
theorem Rphase_eq (N : Nat) (p : Int) : L_ref10_phaseMay N p = some (decide (0 ≤ p ∧ p ≤ 2)) := by
  unfold L_ref10_phaseMay L_ref10_phaseMay_1
  rw [bifS]
  congr 1
  by_cases a : p ≥ 0 <;> by_cases b : p ≤ 2 <;> simp [a, b] <;> omega
theorem Rnow_eq (N : Nat) (t : Int) : L_ref10_nowMay N t = some (timeOk t) := by
  unfold L_ref10_nowMay L_ref10_nowMay_1 timeOk
  rw [bifS]
  congr 1
  by_cases a : t ≥ 0 <;> by_cases b : t ≤ 1048576 <;> simp [a, b] <;> omega
theorem REMay_eq (N : Nat) (e : GEntry) : L_ref10_EntryMay N e = some (entOk e) := by
  unfold L_ref10_EntryMay L_ref10_EntryMay_1 entOk
  rw [RFlowMay_eq, Rphase_eq, Rnow_eq, Option.bind_some]
  cases mayF e.Flow with
  | false => rfl
  | true =>
    refine stTT ?_
    by_cases a : e.To ≥ 0
    · refine stDT a ?_
      by_cases b : e.To ≤ 255
      · refine stDT b ?_
        rw [decide_eq_true (show 0 ≤ e.To ∧ e.To < 256 by omega)]
        cases decide (0 ≤ e.Phase ∧ e.Phase ≤ 2) <;> rfl
      · refine stDF b ?_
        rw [decide_eq_false (show ¬ (0 ≤ e.To ∧ e.To < 256) by omega)]; rfl
    · refine stDF a ?_
      rw [decide_eq_false (show ¬ (0 ≤ e.To ∧ e.To < 256) by omega)]; rfl
/-- Of a cache that may be. -/
theorem RCache2 {N : Nat} (r1 : List GEntry → Int → Option Bool) (es : List GEntry) (h : cacheOk es = true) (i : Nat) (hi : i < es.length) {r : Option Bool} (hr : r1 es ((i + 1 : Nat) : Int) = r) : ∀ (d fuel j : Nat), es.length = j + d → d < fuel → j ≤ i →
    L_ref10_CacheMay_2 N r1 fuel es (i : Int) (j : Int) = r := by
  obtain ⟨h1, h2, h3⟩ := (cacheOk_iff es).1 h
  intro d
  induction d with
  | zero =>
    intro fuel j hj hf hji
    omega
  | succ d ih =>
    intro fuel j hj hf hji
    obtain ⟨fuel, rfl⟩ : ∃ f, fuel = f + 1 := ⟨fuel - 1, by omega⟩
    rw [L_ref10_CacheMay_2, Int.toNat_natCast, Int.toNat_natCast, w64 (n := (j : Int) + 1) (by omega) (by omega), w64 (n := (i : Int) + 1) (by omega) (by omega)]
    by_cases c : j = i
    · exact stDF (by omega) hr
    · refine stDT (by omega) (stIf (by omega) (stIf (by omega) ?_))
      have hne : eqF (es.getD j default).Flow (es.getD i default).Flow = false := by
        rw [← Bool.not_eq_true, eqF_iff, getD_el hi, getD_el (show j < es.length by omega)]
        exact List.pairwise_iff_getElem.1 h2 j i (by omega) hi (by omega)
      show (bif eqF (es.getD j default).Flow (es.getD i default).Flow then _ else _) = _
      rw [hne]
      exact ih fuel (j + 1) (by omega) (by omega) (by omega)
theorem RCache1 {N : Nat} (hN : 1000 ≤ N) (es : List GEntry) (h : cacheOk es = true) : ∀ (d fuel i : Nat), es.length = i + d → d < fuel → L_ref10_CacheMay_1 N fuel es (i : Int) = some true := by
  obtain ⟨h1, h2, h3⟩ := (cacheOk_iff es).1 h
  intro d
  induction d with
  | zero =>
    intro fuel i hi hf
    obtain ⟨fuel, rfl⟩ : ∃ f, fuel = f + 1 := ⟨fuel - 1, by omega⟩
    rw [L_ref10_CacheMay_1]
    exact stDF (by omega) (by rw [decide_eq_true (show (es.length : Int) ≤ 8 by omega)])
  | succ d ih =>
    intro fuel i hi hf
    obtain ⟨fuel, rfl⟩ : ∃ f, fuel = f + 1 := ⟨fuel - 1, by omega⟩
    have hil : i < es.length := by omega
    rw [L_ref10_CacheMay_1, Int.toNat_natCast]
    refine stDT (by omega) (stIf (by omega) (stB (REMay_eq N _) ?_))
    rw [show entOk ⟨(es.getD i default).Flow, (es.getD i default).To, (es.getD i default).Away, (es.getD i default).Phase, (es.getD i default).Used⟩ = true from h1 _ (getD_mem hil)]
    exact stNTT (RCache2 _ es h i hil (ih fuel (i + 1) (by omega) (by omega)) es.length N 0 (by omega) (by omega) (by omega))
theorem RRan_eq (N : Nat) (e : GEntry) (now : Int) (hn : timeOk now = true) : L_ref10_Ran N e now = some (ranE e now) := by
  have ht := of_decide_eq_true hn
  unfold L_ref10_Ran L_ref10_Ran_1 ranE
  rw [REMay_eq, Option.bind_some]
  cases he : entOk e with
  | false => rfl
  | true =>
    obtain ⟨_, _, hp, hu⟩ := entOk_parts he
    have hl : L_ref10_Limit N e.Phase = some (limE e.Phase, 0) := by
      unfold L_ref10_Limit limE
      rw [Rphase_eq, Option.bind_some, decide_eq_true hp]
      by_cases b : e.Phase = 0
      · rw [if_pos b]; exact stNTT (stET b rfl)
      · rw [if_neg b]; exact stNTT (stEF b rfl)
    have hq : 0 ≤ limE e.Phase ∧ limE e.Phase ≤ 40 := by unfold limE; split <;> omega
    refine stNTT (stB hl (stDT ht.1 ?_))
    rw [w64 (by omega) (by omega)]
    congr 1
    rw [Bool.not_true, Bool.false_or]
    exact decide_eq_decide.2 (by dsimp only; omega)
/-- The first that is not run out, from i on. -/
theorem RFind_loop {N : Nat} (hN : 1000 ≤ N) (es : List GEntry) (f : GFlow) (now : Int) (hn : timeOk now = true) (h : cacheOk es = true) : ∀ (d fuel i : Nat), es.length = i + d → d < fuel → (∀ j, j < i → eqF (es.getD j default).Flow f = true → ranE (es.getD j default) now = true) →
    L_ref10_FindEntry_1 N fuel es now f.Src f.Dst f.Proto f.Sport f.Dport 0 0 0 0 0 0 false 0 0 (i : Int) = some (findE es f now) := by
  obtain ⟨h1, h2, h3⟩ := (cacheOk_iff es).1 h
  intro d
  induction d with
  | zero =>
    intro fuel i hi hf hj
    obtain ⟨fuel, rfl⟩ : ∃ f, fuel = f + 1 := ⟨fuel - 1, by omega⟩
    rw [L_ref10_FindEntry_1]
    unfold L_ref10_FindEntry_2
    refine stDF (by omega) ?_
    have : findE es f now = (zE, false) := by
      unfold findE
      rcases at_cases f es 0 with ⟨q, _⟩ | ⟨k, q1, q2, q3⟩
      · rw [if_pos (by omega)]
      · rw [q2, if_neg (by omega), show (((0 + k : Nat) : Int)).toNat = k by omega, if_pos (hj k (by omega) q3)]
    rw [this]
    rfl
  | succ d ih =>
    intro fuel i hi hf hj
    obtain ⟨fuel, rfl⟩ : ∃ f, fuel = f + 1 := ⟨fuel - 1, by omega⟩
    have hil : i < es.length := by omega
    rw [L_ref10_FindEntry_1]
    unfold L_ref10_FindEntry_2 L_ref10_FindEntry_3
    refine stDT (by omega) (stB (x := true) ?_ (stTT (stIf (by omega) (stVia ?_))))
    · unfold L_ref10_CacheMay
      exact RCache1 hN es h es.length N 0 (by omega) (by omega)
    rw [Int.toNat_natCast, w64 (n := (i : Int) + 1) (by omega) (by omega)]
    show (bif eqF (es.getD i default).Flow f then _ else _) = _
    cases hq : eqF (es.getD i default).Flow f with
    | false => exact stFF (stFF (ih fuel (i + 1) (by omega) (by omega) (fun j hj' hjf => by
        rcases Nat.lt_or_ge j i with c | c
        · exact hj j c hjf
        · obtain rfl : j = i := by omega
          rw [hq] at hjf; cases hjf)))
    | true =>
      refine stTT (stIf (by omega) (stB (RRan_eq N _ now hn) ?_))
      show (bif !ranE (es.getD i default) now then _ else _) = _
      cases hr : ranE (es.getD i default) now with
      | true => exact stNTT (ih fuel (i + 1) (by omega) (by omega) (fun j hj' hjf => by
          rcases Nat.lt_or_ge j i with c | c
          · exact hj j c hjf
          · obtain rfl : j = i := by omega
            exact hr))
      | false =>
        refine stNFF (stIf (by omega) ?_)
        have hm := find_of_mem h (getD_mem hil) (now := now) hr
        rw [eqF_iff.1 hq] at hm
        rw [hm]
theorem RFind_eq {N : Nat} (hN : 1000 ≤ N) {es : List GEntry} {f : GFlow} {now : Int} (hn : timeOk now = true) (h : cacheOk es = true) : L_ref10_FindEntry N es f now = some (findE es f now) := by
  have hl := ((cacheOk_iff es).1 h).2.2
  unfold L_ref10_FindEntry
  exact RFind_loop hN es f now hn h es.length N 0 (by omega) (by omega) (fun j hj => by omega)
theorem find_to {e : GEdge} (h : EdgeOk e) (f : GFlow) (now : Int) : 0 ≤ (findE e.Flows f now).1.To ∧ (findE e.Flows f now).1.To < 3 := by
  cases hq : (findE e.Flows f now).2 with
  | true => exact (h.pin _ (find_mem hq).1).2
  | false =>
    have : (findE e.Flows f now).1 = zE := by
      unfold findE at hq ⊢
      split
      · rfl
      · rename_i c
        rw [if_neg c] at hq
        split
        · rfl
        · rename_i c2
          rw [if_neg c2] at hq; cases hq
    rw [this]
    exact ⟨by decide, by decide⟩
set_option maxHeartbeats 1000000 in
theorem EdgeStays (e : GEdge) (now : Int) (s : ByteArray) (h : Bd_GEdge e) (_ : s.size ≤ 140737488351232) : L_law19_EdgeStays 281474976710656 e now s = some true := by
  have hN : 1000 ≤ 281474976710656 := by decide
  obtain ⟨r, r1, r2⟩ := Take_eq (bdE h) now s
  have hof := ROf_eq (N := 281474976710656) hN s
  unfold L_law19_EdgeStays L_law19_EdgeStays_1 L_law19_EdgeStays_2
  refine stB awake19 (stNTT (stB r1 (stB hof (stB rfl ?_))))
  cases r2 with
  | bad => rfl
  | odd h0 hn hc =>
    refine stNT rfl ?_
    rw [show ((ofF s).2.2 != 0) = true by rw [bne_iff_ne]; exact hc]
    rfl
  | none h0 hn hc _ _ =>
    refine stNT rfl ?_
    rw [show ((ofF s).2.2 != 0) = false by rw [hc]; rfl]
    exact stFF (stB (RFind_eq hN hn h0.cache) rfl)
  | big h0 hn hc _ _ _ =>
    refine stNT rfl ?_
    rw [show ((ofF s).2.2 != 0) = false by rw [hc]; rfl]
    exact stFF (stB (RFind_eq hN hn h0.cache) rfl)
  | sent h0 hn hc hp hx hs hpp =>
    rename_i x p
    have hid := h0.id; have hto := hx.to_
    have hlen := hsOk_len h0.hs
    obtain ⟨u1, u2⟩ := pin_up h0 hp
    have hft := find_to h0 (ofF s).1 now
    have hpop := RPop_eq (N := 281474976710656) hN (pushI (outO e x s))
    rw [pop_push (outO_may h0 hx (by omega)) (show (outO e x s).Body.size ≤ 324 from hs)] at hpop
    have wto : IntKind.i64.wrap ((outO e x s).Dst - 167903232) = x.To := by
      show IntKind.i64.wrap (167903232 + x.To - 167903232) = x.To
      rw [w64 (by omega) (by omega)]; omega
    refine stNT rfl ?_
    rw [show ((ofF s).2.2 != 0) = false by rw [hc]; rfl]
    refine stFF (stB (RFind_eq hN hn h0.cache) (stEF (show ¬ ((1 : Nat) : Int) = 0 by decide) (stIf ⟨by decide, by show (0:Int) < 1; decide⟩ (stB hpop (stNT rfl (stNT rfl (stVia ?_)))))))
    rw [w64 (n := (167837696 : Int) + e.Id) (by omega) (by omega)]
    refine stNT rfl ?_
    unfold L_law19_EdgeStays_3
    show (bif !(s.toList == s.toList) then _ else _) = _
    rw [tlB]
    refine stNTT ?_
    rw [wto]
    refine stDF (by omega) (stDF (by omega) (stDF (by omega) (stIf (by omega) ?_)))
    unfold L_law19_EdgeStays_4
    rw [u2]
    refine stNTT ?_
    -- does a pin hold?
    have key : ∀ (y : GEntry), (holds e (ofF s).1 now = true → x = (findE e.Flows (ofF s).1 now).1) → (holds e (ofF s).1 now = false → (e.Config.Sites.getD x.To.toNat default).Drain = false ∧ 0 < (e.Config.Sites.getD x.To.toNat default).Weight) →
        L_law19_EdgeStays_5 281474976710656 e.Id e.Config.Version e.Config.Sites e.Health e.Flows (findE e.Flows (ofF s).1 now).1.Flow.Src (findE e.Flows (ofF s).1 now).1.Flow.Dst (findE e.Flows (ofF s).1 now).1.Flow.Proto (findE e.Flows (ofF s).1 now).1.Flow.Sport (findE e.Flows (ofF s).1 now).1.Flow.Dport (findE e.Flows (ofF s).1 now).1.To (findE e.Flows (ofF s).1 now).1.Away (findE e.Flows (ofF s).1 now).1.Phase (findE e.Flows (ofF s).1 now).1.Used x.To (holds e (ofF s).1 now) = some true := by
      intro _ k1 k2
      unfold L_law19_EdgeStays_5 L_law19_EdgeStays_6
      cases hh : holds e (ofF s).1 now with
      | true =>
        rw [k1 hh]
        exact stTT (stET rfl rfl)
      | false =>
        obtain ⟨d1, d2⟩ := k2 hh
        refine stFF (stNFF (stIf (by omega) ?_))
        rw [d1]
        refine stNFF (stIf (by omega) ?_)
        rw [decide_eq_true d2]
    have k1 : holds e (ofF s).1 now = true → x = (findE e.Flows (ofF s).1 now).1 := by
      intro hh
      cases hp with
      | old _ => rfl
      | new q _ => rw [hh] at q; cases q
    have k2 : holds e (ofF s).1 now = false → (e.Config.Sites.getD x.To.toNat default).Drain = false ∧ 0 < (e.Config.Sites.getD x.To.toNat default).Weight := by
      intro hh
      cases hp with
      | old q => rw [hh] at q; cases q
      | new _ hcm =>
        obtain ⟨j, j1, j2, j3⟩ := cand_mem _ _ _ _ hcm
        rw [j2]
        unfold candIs at j3
        simp only [Bool.and_eq_true, Bool.not_eq_true', decide_eq_true_eq] at j3
        show (e.Config.Sites.getD (((0 + j : Nat) : Int)).toNat default).Drain = false ∧ 0 < (e.Config.Sites.getD (((0 + j : Nat) : Int)).toNat default).Weight
        rw [Int.toNat_natCast, Nat.zero_add]
        exact j3.2
    have hkey := key zE k1 k2
    unfold holds at hkey
    generalize findE e.Flows (ofF s).1 now = F at *
    obtain ⟨y, b⟩ := F
    dsimp only at *
    cases b with
    | false => rw [Bool.false_and] at hkey; exact stFF hkey
    | true =>
      refine stTT ?_
      by_cases c : y.To < (e.Config.Sites.length : Int)
      · rw [decide_eq_true (show 0 ≤ y.To ∧ y.To < (e.Config.Sites.length : Int) by omega), Bool.true_and, Bool.true_and] at hkey
        exact stDT c (stDT (by omega) (stIf (by omega) hkey))
      · rw [decide_eq_false (show ¬ (0 ≤ y.To ∧ y.To < (e.Config.Sites.length : Int)) by omega), Bool.false_and, Bool.and_false] at hkey
        exact stDF c hkey
end Go.Proofs.YtmhlgpdoedbedaaGreat.Pu
