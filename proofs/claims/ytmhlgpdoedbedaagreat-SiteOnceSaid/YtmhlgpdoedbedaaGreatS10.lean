import Derived.Test.YtmhlgpdoedbedaaGreatS4
import Derived.Test.YtmhlgpdoedbedaaGreatE8
set_option linter.unusedVariables false
set_option linter.unusedSimpArgs false
namespace Go.Proofs.YtmhlgpdoedbedaaGreat.Pu
open Go Go.RowKit Go.Proofs.YtmhlgpdoedbedaaGreat.Sv Go.Proofs.YtmhlgpdoedbedaaGreat.Lf
theorem siteOk_parts {s : GSite} (h : siteOk s = true) : (∀ b ∈ s.Backs, 0 ≤ b.Weight ∧ b.Weight ≤ 16) ∧ (0 ≤ s.Weight ∧ s.Weight ≤ 16) ∧ (0 ≤ s.Cap ∧ s.Cap ≤ 8) ∧ s.Backs.length ≤ 4 := by
  unfold siteOk backOk at h
  simp only [Bool.and_eq_true, List.all_eq_true, decide_eq_true_eq] at h
  obtain ⟨h1, h2, h3, h4⟩ := h
  exact ⟨h1, h2, h3, by omega⟩
theorem RConf4 {N : Nat} (r2 : Int → List GSite → Int → Option Bool) (v : Int) (ss : List GSite) (k w : Int) (dr : Bool) (cap : Int) (bs : List GBack) (hb : ∀ b ∈ bs, 0 ≤ b.Weight ∧ b.Weight ≤ 16) (hl : bs.length ≤ 4) {r : Option Bool} (hr : r2 v ss (IntKind.i64.wrap (k + 1)) = r) : ∀ (d fuel i : Nat), bs.length = i + d → d < fuel → L_ref10_ConfMay_4 N r2 fuel v ss k w dr cap bs i = r := by
  intro d
  induction d with
  | zero =>
    intro fuel i hi hf
    obtain ⟨fuel, rfl⟩ : ∃ f, fuel = f + 1 := ⟨fuel - 1, by omega⟩
    rw [L_ref10_ConfMay_4]
    exact stDF (by omega) hr
  | succ d ih =>
    intro fuel i hi hf
    obtain ⟨fuel, rfl⟩ : ∃ f, fuel = f + 1 := ⟨fuel - 1, by omega⟩
    have hw := hb _ (getD_mem (show i < bs.length by omega))
    rw [L_ref10_ConfMay_4, Int.toNat_natCast]
    unfold L_ref10_ConfMay_5
    refine stDT (by omega) (stIf (by omega) (stDF (by omega) (stIf (by omega) (stDF (by omega) ?_))))
    rw [w64 (n := (i : Int) + 1) (by omega) (by omega)]
    exact ih fuel (i + 1) (by omega) (by omega)
theorem RConf2 {N : Nat} (hN : 1000 ≤ N) (v : Int) (ss : List GSite) (hs : ∀ s ∈ ss, siteOk s = true) (hl : ss.length ≤ 3) : ∀ (d fuel i : Nat), ss.length = i + d → d < fuel → L_ref10_ConfMay_2 N fuel v ss i = some true := by
  intro d
  induction d with
  | zero =>
    intro fuel i hi hf
    obtain ⟨fuel, rfl⟩ : ∃ f, fuel = f + 1 := ⟨fuel - 1, by omega⟩
    rw [L_ref10_ConfMay_2]
    exact stDF (by omega) rfl
  | succ d ih =>
    intro fuel i hi hf
    obtain ⟨fuel, rfl⟩ : ∃ f, fuel = f + 1 := ⟨fuel - 1, by omega⟩
    obtain ⟨h1, h2, h3, h4⟩ := siteOk_parts (hs _ (getD_mem (show i < ss.length by omega)))
    rw [L_ref10_ConfMay_2, Int.toNat_natCast]
    unfold L_ref10_ConfMay_3
    refine stDT (by omega) (stIf (by omega) (stDF (by omega) (stDF (by omega) (stDF (by omega) (stDF (by omega) (stVia (stDF (by omega) (RConf4 _ v ss i _ _ _ _ h1 h4 ?_ (ss.getD i default).Backs.length N 0 (by omega) (by omega)))))))))
    rw [w64 (n := (i : Int) + 1) (by omega) (by omega)]
    exact ih fuel (i + 1) (by omega) (by omega)
theorem RConf_ok {N : Nat} (hN : 1000 ≤ N) {c : GConfig} (h : confOk c = true) : L_ref10_ConfMay N c = some true := by
  obtain ⟨s1, s2⟩ := confOk_small h
  unfold confOk timeOk at h
  simp only [Bool.and_eq_true, List.all_eq_true, decide_eq_true_eq] at h
  unfold L_ref10_ConfMay L_ref10_ConfMay_1
  exact stDF (by omega) (stDF (by omega) (stDF (by omega) (RConf2 hN _ _ h.1 (by omega) c.Sites.length N 0 (by omega) (by omega))))
theorem RHealth_ok (N : Nat) {h : GHealth} (hh : hOk h = true) : L_ref10_HealthMay N h = some true := by
  have := of_decide_eq_true hh
  unfold L_ref10_HealthMay L_ref10_HealthMay_1 L_ref10_HealthMay_2
  cases h.Up with
  | true => exact stTT (stDT (by omega) (by rw [decide_eq_true this.2]))
  | false => exact stFF (stDT (by omega) (by rw [decide_eq_true this.2]))
theorem RHealths_loop (N : Nat) (hs : List GHealth) (n : Int) (h : ∀ x ∈ hs, hOk x = true) (hl : hs.length ≤ 100) (hn : (hs.length : Int) = n) : ∀ (d fuel i : Nat), hs.length = i + d → d < fuel → L_ref10_healthsMay_1 N fuel hs n i = some true := by
  intro d
  induction d with
  | zero =>
    intro fuel i hi hf
    obtain ⟨fuel, rfl⟩ : ∃ f, fuel = f + 1 := ⟨fuel - 1, by omega⟩
    rw [L_ref10_healthsMay_1]
    refine stDF (by omega) ?_
    rw [hn, beq_self_eq_true]
  | succ d ih =>
    intro fuel i hi hf
    obtain ⟨fuel, rfl⟩ : ∃ f, fuel = f + 1 := ⟨fuel - 1, by omega⟩
    rw [L_ref10_healthsMay_1, Int.toNat_natCast, w64 (n := (i : Int) + 1) (by omega) (by omega)]
    exact stDT (by omega) (stIf (by omega) (stB (RHealth_ok N (h _ (getD_mem (show i < hs.length by omega)))) (stNTT (ih fuel (i + 1) (by omega) (by omega)))))
theorem RHealths_ok {N : Nat} (hN : 1000 ≤ N) {hs : List GHealth} {n : Int} (h : hsOk hs n = true) (hn : n ≤ 100) : L_ref10_healthsMay N hs n = some true := by
  unfold hsOk at h
  simp only [Bool.and_eq_true, List.all_eq_true, beq_iff_eq] at h
  exact RHealths_loop N hs n h.1 (by omega) h.2 hs.length N 0 (by omega) (by omega)
theorem RReport_ok (N : Nat) {r : GReport} (h : repOk r = true) : L_ref1_ReportMay N r = some true := by
  obtain ⟨h1, h2, h3, h4⟩ := repOk_parts h
  unfold L_ref1_ReportMay L_ref1_ReportMay_1
  have w : ∀ x : Int, 0 ≤ x ∧ x < 256 → L_ref1_within N x 8 = some true := by
    intro x hx
    have := within8 N x
    rw [this, decide_eq_true hx]
  exact stDT h1.1 (stDT h1.2 (stDT h2.1 (stDT h2.2 (stB (w _ h3) (stTT (stB (w _ h4) rfl))))))
theorem RView_loop (N : Nat) (vs : List GSeen) (h : viewOk vs = true) : ∀ (d fuel i : Nat), vs.length = i + d → d < fuel → L_ref10_ViewMay_1 N fuel vs i = some true := by
  have hl := viewOk_len h
  intro d
  induction d with
  | zero =>
    intro fuel i hi hf
    obtain ⟨fuel, rfl⟩ : ∃ f, fuel = f + 1 := ⟨fuel - 1, by omega⟩
    rw [L_ref10_ViewMay_1]
    refine stDF (by omega) ?_
    rw [hl]; rfl
  | succ d ih =>
    intro fuel i hi hf
    obtain ⟨fuel, rfl⟩ : ∃ f, fuel = f + 1 := ⟨fuel - 1, by omega⟩
    have hs := viewOk_at h (i := i) (by omega)
    have ih2 := ih fuel (i + 1) (by omega) (by omega)
    rw [L_ref10_ViewMay_1, Int.toNat_natCast]
    generalize vs.getD i default = v at *
    have main : ∀ t5 : Bool, (t5 = false → timeOk v.At = true ∧ repOk v.Report = true ∧ v.Report.Site = i) → L_ref10_ViewMay_2 N (L_ref10_ViewMay_1 N fuel) vs i v.Report.Site v.Report.Serial v.Report.Load v.Report.Cap v.At t5 = some true := by
      intro t5 ht
      unfold L_ref10_ViewMay_2 L_ref10_ViewMay_3
      rw [w64 (n := (i : Int) + 1) (by omega) (by omega)]
      cases t5 with
      | true => exact stNTT (stFF ih2)
      | false =>
        obtain ⟨t1, t2, t3⟩ := ht rfl
        have := of_decide_eq_true t1
        exact stNFF (stDF (by omega) (stDF (by omega) (stB (RReport_ok N t2) (stNTT (stNT t3 ih2)))))
    unfold seenOk at hs
    refine stDT (by omega) (stIf (by omega) ?_)
    by_cases c : v.At = -1
    · refine stET c (stVia (main _ fun q => ?_))
      rw [show (v.At == -1) = true from beq_iff_eq.2 c, show eqR v.Report zR = false from q, Bool.and_false, Bool.false_or, Bool.and_eq_true, Bool.and_eq_true] at hs
      exact ⟨hs.1, hs.2.1, by simpa using hs.2.2⟩
    · refine stEF c (main _ fun q => ?_)
      rw [show (v.At == -1) = false from beq_eq_false_iff_ne.2 c, Bool.false_and, Bool.false_or, Bool.and_eq_true, Bool.and_eq_true] at hs
      exact ⟨hs.1, hs.2.1, by simpa using hs.2.2⟩
theorem RSpare_ok {N : Nat} (hN : 1000 ≤ N) {n : GNode} (h : NodeOk n) : L_ref10_spareMay N n = some true := by
  have s4 := ((cacheOk_iff _).1 h.cache).2.2
  have s5 := viewOk_len h.view
  unfold L_ref10_spareMay L_ref10_spareMay_1
  exact stB (RConf_ok hN h.conf) (stTT (stDT h.id.1 (stDT h.id.2 (stB (RHealths_ok hN h.hs (by decide)) (stTT (stB (RView_loop N _ h.view n.Seen.length N 0 (by omega) (by omega)) (stTT (stB (RCache1 hN _ h.cache n.Flows.length N 0 (by omega) (by omega)) rfl))))))))
theorem RHas_ok {N : Nat} (hN : 1000 ≤ N) {c : GConfig} (h : confOk c = true) (i : Int) : L_ref10_Has N c i (-1) = some (hasS c i) := by
  unfold L_ref10_Has L_ref10_Has_1 hasS
  refine stB (RConf_ok hN h) (stTT ?_)
  by_cases a : i ≥ 0
  · refine stDT a ?_
    by_cases b : i < (c.Sites.length : Int)
    · rw [decide_eq_true (show 0 ≤ i ∧ i < (c.Sites.length : Int) from ⟨a, b⟩)]
      exact stDT b rfl
    · rw [decide_eq_false (show ¬ (0 ≤ i ∧ i < (c.Sites.length : Int)) from fun q => b q.2)]
      exact stDF b rfl
  · rw [decide_eq_false (show ¬ (0 ≤ i ∧ i < (c.Sites.length : Int)) from fun q => a q.1)]
    exact stDF a rfl
theorem RBacks_loop {N : Nat} (hs : List GHealth) (ss : List GBack) (hl : ss.length ≤ 90) (hh : ss.length ≤ hs.length) : ∀ (d fuel i : Nat) (b : List GCandidate), ss.length = i + d → d < fuel → b.length ≤ i →
    L_ref10_BacksOf_2 N fuel hs b ss (i : Int) = some (b ++ candB hs (ss.drop i) i, 0) := by
  intro d
  induction d with
  | zero =>
    intro fuel i b hi hf hb
    obtain ⟨fuel, rfl⟩ : ∃ f, fuel = f + 1 := ⟨fuel - 1, by omega⟩
    rw [L_ref10_BacksOf_2, List.drop_of_length_le (by omega)]
    refine stDF (by omega) ?_
    unfold candB
    rw [List.append_nil]
  | succ d ih =>
    intro fuel i b hi hf hb
    obtain ⟨fuel, rfl⟩ : ∃ f, fuel = f + 1 := ⟨fuel - 1, by omega⟩
    rw [L_ref10_BacksOf_2, drop_at (show i < ss.length by omega), Int.toNat_natCast]
    unfold L_ref10_BacksOf_3 L_ref10_BacksOf_4 candB backIs
    rw [w64 (n := (i : Int) + 1) (by omega) (by omega), Int.toNat_natCast]
    have no := ih fuel (i + 1) b (by omega) (by omega) (by omega)
    refine stDT (by omega) (stIf (by omega) ?_)
    cases (hs.getD i default).Up with
    | false => exact stFF (stFF no)
    | true =>
      refine stTT (stIf (by omega) ?_)
      cases (ss.getD i default).Drain with
      | true => exact stNTT (stFF no)
      | false =>
        refine stNFF (stIf (by omega) ?_)
        by_cases w : (ss.getD i default).Weight > 0
        · rw [decide_eq_true w]
          refine stTT (stIf (by omega) (stIf (growOk_small (by omega) (by omega)) ?_))
          rw [show ((i : Int) + 1) = ((i + 1 : Nat) : Int) by omega]
          refine (ih fuel (i + 1) (b ++ [⟨(i : Int), (ss.getD i default).Weight⟩]) (by omega) (by omega) (by rw [List.length_append, List.length_singleton]; omega)).trans ?_
          rw [List.append_assoc]
          rfl
        · rw [decide_eq_false w]
          exact stFF no
theorem RBacks_ok {N : Nat} (hN : 1000 ≤ N) {c : GConfig} {hs : List GHealth} (hc : confOk c = true) (hh : hsOk hs 4 = true) {site : Int} (hq : hasS c site = true) : L_ref10_BacksOf N c site hs = some (backs c site hs, 0) := by
  have s3 := hsOk_len hh
  have s4 := siteOf_small hc site
  unfold L_ref10_BacksOf L_ref10_BacksOf_1
  have hq' := hq
  unfold hasS at hq'
  rw [decide_eq_true_eq] at hq'
  refine stB (RConf_ok hN hc) (stNTT (stB (RHealths_ok hN hh (by decide)) (stNTT (stB (RHas_ok hN hc site) ?_))))
  rw [hq]
  refine stNTT (stIf (by omega) ?_)
  have he : c.Sites.getD site.toNat default = siteOf c site := by unfold siteOf; rw [if_pos hq]
  rw [he]
  exact RBacks_loop hs _ (by omega) (by omega) (siteOf c site).Backs.length N 0 [] (by omega) (by omega) (by decide)
theorem RLoad_loop (N : Nat) (a0 a1 : Int) (a2 : List GSite) (a3 : List GHealth) (a4 : List GSeen) (a6 : Int) (es : List GEntry) (hl : es.length ≤ 100) : ∀ (d fuel i : Nat) (k : Nat), es.length = i + d → d < fuel → k ≤ i →
    L_ref10_Load_1 N fuel a0 a1 a2 a3 a4 es a6 (k : Int) (i : Int) = some ((k + ((es.drop i).filter fun x => !x.Away).length : Nat) : Int) := by
  intro d
  induction d with
  | zero =>
    intro fuel i k hi hf hk
    obtain ⟨fuel, rfl⟩ : ∃ f, fuel = f + 1 := ⟨fuel - 1, by omega⟩
    rw [L_ref10_Load_1, List.drop_of_length_le (by omega)]
    exact stDF (by omega) rfl
  | succ d ih =>
    intro fuel i k hi hf hk
    obtain ⟨fuel, rfl⟩ : ∃ f, fuel = f + 1 := ⟨fuel - 1, by omega⟩
    rw [L_ref10_Load_1, drop_at (show i < es.length by omega), Int.toNat_natCast]
    unfold L_ref10_Load_2
    rw [w64 (n := (i : Int) + 1) (by omega) (by omega), w64 (n := (k : Int) + 1) (by omega) (by omega)]
    refine stDT (by omega) (stIf (by omega) ?_)
    cases hq : (es.getD i default).Away with
    | true =>
      rw [List.filter_cons_of_neg (by rw [hq]; decide)]
      exact stNTT (ih fuel (i + 1) k (by omega) (by omega) (by omega))
    | false =>
      rw [List.filter_cons_of_pos (by rw [hq]; rfl), List.length_cons]
      refine stNFF ((ih fuel (i + 1) (k + 1) (by omega) (by omega) (by omega)).trans ?_)
      congr 1; omega
theorem RFull_eq {N : Nat} (hN : 1000 ≤ N) {n : GNode} (h : NodeOk n) : L_ref10_Full N n = some (fullN n, 0) := by
  have s4 := ((cacheOk_iff _).1 h.cache).2.2
  unfold L_ref10_Full L_ref10_Full_1 fullN
  refine stB (RSpare_ok hN h) (stNTT (stB (RHas_ok hN h.conf n.Id) ?_))
  cases hq : hasS n.Config n.Id with
  | false => exact stNFF rfl
  | true =>
    have hq' := hq
    unfold hasS at hq'
    rw [decide_eq_true_eq] at hq'
    have he : n.Config.Sites.getD n.Id.toNat default = siteOf n.Config n.Id := by unfold siteOf; rw [if_pos hq]
    rw [he]
    refine stNTT (stIf (by omega) (stB (RBacks_ok hN h.conf h.hs hq) ?_))
    cases (siteOf n.Config n.Id).Drain with
    | true => exact stTT rfl
    | false =>
      refine stFF ?_
      have hld : L_ref10_Load N n = some (loadN n) := by
        have := RLoad_loop N n.Id n.Config.Version n.Config.Sites n.Health n.Seen n.Serial n.Flows (by omega) n.Flows.length N 0 0 (by omega) (by omega) (by omega)
        rw [Nat.zero_add, List.drop_zero] at this
        exact this
      dsimp only
      by_cases c : ((backs n.Config n.Id n.Health).length : Int) = 0
      · rw [c]; exact stET rfl rfl
      · rw [show (((backs n.Config n.Id n.Health).length : Int) == 0) = false from beq_eq_false_iff_ne.2 c]
        exact stFF (stB hld (stVia rfl))
end Go.Proofs.YtmhlgpdoedbedaaGreat.Pu
