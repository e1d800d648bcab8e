import Derived.Test.YtmhlgpdoedbedaaGreatE10
set_option linter.unusedVariables false
set_option linter.unusedSimpArgs false
namespace Go.Proofs.YtmhlgpdoedbedaaGreat.Pu
open Go Go.RowKit Go.Proofs.YtmhlgpdoedbedaaGreat.Sv Go.Proofs.YtmhlgpdoedbedaaGreat.Lf
def repOk (r : GReport) : Bool := decide (0 ≤ r.Site ∧ r.Site < 3) && (decide (0 ≤ r.Serial ∧ r.Serial < 65536) && (decide (0 ≤ r.Load ∧ r.Load < 256) && decide (0 ≤ r.Cap ∧ r.Cap < 256)))
theorem serial_eq (N : Nat) (x : Int) : L_report_serial N x = some (decide (0 ≤ x ∧ x < 65536)) := by
  unfold L_report_serial L_report_serial_1
  rw [bifS]
  congr 1
  by_cases h : x ≥ 0 <;> by_cases k : x < 65536 <;> simp [h, k] <;> omega
theorem RepMay_eq (N : Nat) (r : GReport) : L_report_May N r = some (repOk r) := by
  unfold L_report_May L_report_May_1 repOk
  rw [RSite_eq, serial_eq, in8, in8]
  cases decide (0 ≤ r.Site ∧ r.Site < 3) with
  | false => rfl
  | true =>
    cases decide (0 ≤ r.Serial ∧ r.Serial < 65536) with
    | false => rfl
    | true => cases decide (0 ≤ r.Load ∧ r.Load < 256) <;> rfl
def eqR (a b : GReport) : Bool := (a.Site == b.Site) && ((a.Serial == b.Serial) && ((a.Load == b.Load) && ((a.Cap == b.Cap) && true)))
theorem eqR_iff {a b : GReport} : eqR a b = true ↔ a = b := by
  obtain ⟨a1, a2, a3, a4⟩ := a
  obtain ⟨b1, b2, b3, b4⟩ := b
  unfold eqR
  simp only [Bool.and_eq_true, beq_iff_eq, Bool.and_true, GReport.mk.injEq]
def zR : GReport := ⟨0, 0, 0, 0⟩
def seenOk (i : Int) (v : GSeen) : Bool := ((v.At == -1) && eqR v.Report zR) || (timeOk v.At && (repOk v.Report && !(v.Report.Site != i)))
def viewOk (vs : List GSeen) : Bool := ((List.range' 0 vs.length).all fun i => seenOk (i : Int) (vs.getD i default)) && ((vs.length : Int) == 3)
theorem view_2 (N : Nat) (r1 : List GSeen → List GSeen → Int → Int → Option Bool) (t0 : List GSeen) (i : Int) (v : GSeen) (t6 : List GSeen) (t7 : Int) :
    L_view_May_2 N r1 t0 i v.Report.Site v.Report.Serial v.Report.Load v.Report.Cap v.At ((v.At == -1) && eqR v.Report zR) t6 t7 i = if seenOk i v = true then r1 t0 t6 t7 (IntKind.i64.wrap (i + 1)) else some false := by
  unfold L_view_May_2 L_view_May_3 seenOk
  rw [show (⟨v.Report.Site, v.Report.Serial, v.Report.Load, v.Report.Cap⟩ : GReport) = v.Report from rfl, Time_eq, RepMay_eq]
  cases ((v.At == -1) && eqR v.Report zR) with
  | true => rfl
  | false =>
    cases timeOk v.At with
    | false => rfl
    | true =>
      cases repOk v.Report with
      | false => rfl
      | true => cases (v.Report.Site != i) <;> rfl
theorem view_loop (N : Nat) (vs : List GSeen) (hb : vs.length ≤ 140737488355328) : ∀ (d fuel i : Nat), vs.length = i + d → d < fuel →
    L_view_May_1 N fuel vs vs (vs.length : Int) (i : Int) = some (((List.range' i d).all fun i => seenOk (i : Int) (vs.getD i default)) && ((vs.length : Int) == 3)) := by
  intro d
  induction d with
  | zero =>
    intro fuel i hi hf
    obtain ⟨fuel, rfl⟩ : ∃ f, fuel = f + 1 := ⟨fuel - 1, by omega⟩
    rw [L_view_May_1, List.range'_zero, List.all_nil, Bool.true_and]
    exact stDF (by omega) rfl
  | succ d ih =>
    intro fuel i hi hf
    obtain ⟨fuel, rfl⟩ : ∃ f, fuel = f + 1 := ⟨fuel - 1, by omega⟩
    rw [L_view_May_1, List.range'_succ, List.all_cons, Int.toNat_natCast]
    refine stDT (by omega) (stIf (by omega) ?_)
    have h2 := view_2 N (L_view_May_1 N fuel) vs (i : Int) (vs.getD i default) vs (vs.length : Int)
    rw [w64 (n := (i : Int) + 1) (by omega) (by omega)] at h2
    have hgo : (if seenOk (i : Int) (vs.getD i default) = true then L_view_May_1 N fuel vs vs (vs.length : Int) ((i : Int) + 1) else some false) = some ((seenOk (i : Int) (vs.getD i default) && (List.range' (i + 1) d).all fun i => seenOk (i : Int) (vs.getD i default)) && ((vs.length : Int) == 3)) := by
      cases seenOk (i : Int) (vs.getD i default) with
      | true => rw [if_pos rfl, Bool.true_and]; exact ih fuel (i + 1) (by omega) (by omega)
      | false => rw [if_neg (by decide)]; rfl
    rw [hgo] at h2
    cases hq : ((vs.getD i default).At == -1) with
    | true => rw [hq, Bool.true_and] at h2; exact stTT (stVia h2)
    | false => rw [hq, Bool.false_and] at h2; exact stFF h2
theorem ViewMay_eq {N : Nat} (hN : 140737488355328 < N) (vs : List GSeen) (hb : vs.length ≤ 140737488355328) : L_view_May N vs = some (viewOk vs) := view_loop N vs hb vs.length N 0 (by omega) (by omega)
theorem viewOk_len {vs : List GSeen} (h : viewOk vs = true) : vs.length = 3 := by
  unfold viewOk at h
  simp only [Bool.and_eq_true, beq_iff_eq] at h
  omega
theorem viewOk_at {vs : List GSeen} (h : viewOk vs = true) {i : Nat} (hi : i < 3) : seenOk (i : Int) (vs.getD i default) = true := by
  have hl := viewOk_len h
  unfold viewOk at h
  simp only [Bool.and_eq_true, List.all_eq_true] at h
  exact h.1 i (by rw [List.mem_range'_1]; omega)
def BdN (n : GNode) : Prop := BdC n.Config ∧ n.Health.length ≤ 140737488355328 ∧ n.Seen.length ≤ 140737488355328 ∧ n.Flows.length ≤ 140737488355328
def spareOk (n : GNode) : Bool := confOk n.Config && (decide (0 ≤ n.Id ∧ n.Id < 3) && (hsOk n.Health 4 && (viewOk n.Seen && cacheOk n.Flows)))
theorem SpareMay_eq {N : Nat} (hN : 140737488355328 < N) (n : GNode) (h : BdN n) : L_spare_May N n = some (spareOk n) := by
  obtain ⟨h1, h2, h3, h4⟩ := h
  unfold L_spare_May L_spare_May_1 spareOk
  rw [ConfMay_eq hN _ h1, RSite_eq, HAll_eq hN _ _ h2, ViewMay_eq hN _ h3, CMay_eq hN _ h4]
  cases confOk n.Config with
  | false => rfl
  | true =>
    cases decide (0 ≤ n.Id ∧ n.Id < 3) with
    | false => rfl
    | true =>
      cases hsOk n.Health 4 with
      | false => rfl
      | true => cases viewOk n.Seen <;> rfl
def pinOkN (id : Int) (x : GEntry) : Bool := bif x.Away then decide (0 ≤ x.To ∧ x.To < 3) && !(x.To == id) else !decide (x.To ≥ 4)
def nodeOk (n : GNode) : Bool := n.Flows.all (pinOkN n.Id) && (decide (0 ≤ n.Serial ∧ n.Serial < 65536) && spareOk n)
theorem node_loop {N : Nat} (hN : 140737488355328 < N) (n : GNode) (h : BdN n) : ∀ (d fuel i : Nat), n.Flows.length = i + d → d < fuel →
    L_site_May_1 N fuel n.Id n.Config.Version n.Config.Sites n.Health n.Seen n.Flows n.Serial n.Flows (n.Flows.length : Int) (i : Int) = some ((n.Flows.drop i).all (pinOkN n.Id) && (decide (0 ≤ n.Serial ∧ n.Serial < 65536) && spareOk n)) := by
  have h4 := h.2.2.2
  intro d
  induction d with
  | zero =>
    intro fuel i hi hf
    obtain ⟨fuel, rfl⟩ : ∃ f, fuel = f + 1 := ⟨fuel - 1, by omega⟩
    rw [L_site_May_1, List.drop_of_length_le (by omega), List.all_nil, Bool.true_and]
    unfold L_site_May_3
    refine stDF (by omega) ?_
    by_cases a : n.Serial ≥ 0
    · refine stDT a ?_
      by_cases b : n.Serial < 65536
      · refine stDT b (stB (SpareMay_eq hN n h) ?_)
        rw [decide_eq_true (show 0 ≤ n.Serial ∧ n.Serial < 65536 by omega)]; rfl
      · refine stDF b ?_
        rw [decide_eq_false (show ¬ (0 ≤ n.Serial ∧ n.Serial < 65536) by omega)]; rfl
    · refine stDF a ?_
      rw [decide_eq_false (show ¬ (0 ≤ n.Serial ∧ n.Serial < 65536) by omega)]; rfl
  | succ d ih =>
    intro fuel i hi hf
    obtain ⟨fuel, rfl⟩ : ∃ f, fuel = f + 1 := ⟨fuel - 1, by omega⟩
    rw [L_site_May_1, drop_at (show i < n.Flows.length by omega), List.all_cons, Int.toNat_natCast]
    unfold L_site_May_2
    rw [w64 (n := (i : Int) + 1) (by omega) (by omega), RSite_eq]
    refine stDT (by omega) (stIf (by omega) ?_)
    have ih' := ih fuel (i + 1) (by omega) (by omega)
    unfold pinOkN at ih' ⊢
    cases (n.Flows.getD i default).Away with
    | true =>
      refine stTT (stB rfl ?_)
      cases decide (0 ≤ (n.Flows.getD i default).To ∧ (n.Flows.getD i default).To < 3) with
      | false => rfl
      | true =>
        cases ((n.Flows.getD i default).To == n.Id) with
        | true => rfl
        | false => exact ih'
    | false =>
      refine stFF (stNFF ?_)
      cases decide ((n.Flows.getD i default).To ≥ 4) with
      | true => rfl
      | false => exact ih'
theorem NodeMay_eq {N : Nat} (hN : 140737488355328 < N) (n : GNode) (h : BdN n) : L_site_May N n = some (nodeOk n) := node_loop hN n h n.Flows.length N 0 (by omega) (by have := h.2.2.2; omega)
structure NodeOk (n : GNode) : Prop where
  away : ∀ x ∈ n.Flows, x.Away = true → (0 ≤ x.To ∧ x.To < 3) ∧ x.To ≠ n.Id
  here : ∀ x ∈ n.Flows, x.Away = false → x.To < 4
  serial : 0 ≤ n.Serial ∧ n.Serial < 65536
  conf : confOk n.Config = true
  id : 0 ≤ n.Id ∧ n.Id < 3
  hs : hsOk n.Health 4 = true
  view : viewOk n.Seen = true
  cache : cacheOk n.Flows = true
theorem nodeOk_iff (n : GNode) : nodeOk n = true ↔ NodeOk n := by
  unfold nodeOk spareOk
  simp only [Bool.and_eq_true, List.all_eq_true, decide_eq_true_eq]
  constructor
  · rintro ⟨h, h1, h2, h3, h4, h5, h6⟩
    refine ⟨fun x hx ha => ?_, fun x hx ha => ?_, h1, h2, h3, h4, h5, h6⟩
    · have := h x hx
      unfold pinOkN at this
      rw [ha] at this
      simpa using this
    · have := h x hx
      unfold pinOkN at this
      rw [ha] at this
      simpa using this
  · rintro ⟨ha, hh, h1, h2, h3, h4, h5, h6⟩
    refine ⟨fun x hx => ?_, h1, h2, h3, h4, h5, h6⟩
    unfold pinOkN
    cases hq : x.Away with
    | true => have := ha x hx hq; simpa using this
    | false => have := hh x hx hq; simpa using this
theorem NodeOk.spare {n : GNode} (h : NodeOk n) : spareOk n = true := by
  unfold spareOk
  rw [h.conf, decide_eq_true h.id, h.hs, h.view, h.cache]; rfl
theorem okN_bd {n : GNode} (h : NodeOk n) : BdN n := by
  obtain ⟨s1, s2⟩ := confOk_small h.conf
  have s3 := hsOk_len h.hs
  have s4 := ((cacheOk_iff _).1 h.cache).2.2
  have s5 := viewOk_len h.view
  exact ⟨⟨by omega, fun y hy => by have := (s2 y hy).2; omega⟩, by omega, by omega, by omega⟩
theorem CloneS_eq (N : Nat) (hs : List GSeen) (hl : hs.length ≤ 100) : L_slices_Clone_api_Seen_api_Seen_v3 N hs = some hs := by
  unfold L_slices_Clone_api_Seen_api_Seen_v3 L_slices_Clone_api_Seen_api_Seen L_slices_Clone_api_Seen_api_Seen_v2
  by_cases h : hs.length = 0
  · rw [if_pos h, List.eq_nil_of_length_eq_zero h]
  · rw [if_neg h]
    exact stIf h (stIf (growOk_small (by omega) (by omega)) rfl)
theorem CopyN_eq {N : Nat} (hN : 1000 ≤ N) {n : GNode} (h : NodeOk n) : L_site_Copy N n = some n := by
  obtain ⟨s1, s2⟩ := confOk_small h.conf
  have s3 := hsOk_len h.hs
  have s4 := ((cacheOk_iff _).1 h.cache).2.2
  have s5 := viewOk_len h.view
  unfold L_site_Copy
  exact stB (CopyC_eq hN _ (by omega) (fun y hy => by have := (s2 y hy).2; omega)) (stB (CloneH_eq N _ (by omega)) (stB (CloneS_eq N _ (by omega)) (stB (CloneE_eq N _ (by omega)) rfl)))
def zSite : GSite := ⟨0, false, 0, []⟩
def hasS (c : GConfig) (i : Int) : Bool := decide (0 ≤ i ∧ i < (c.Sites.length : Int))
def siteOf (c : GConfig) (i : Int) : GSite := if hasS c i = true then c.Sites.getD i.toNat default else zSite
theorem CSite_eq (N : Nat) (c : GConfig) (i : Int) : L_conf_Site N c i = some (siteOf c i, hasS c i) := by
  unfold L_conf_Site L_conf_Site_1 siteOf hasS
  by_cases a : i < 0
  · rw [decide_eq_false (show ¬ (0 ≤ i ∧ i < (c.Sites.length : Int)) by omega)]
    exact stDT a rfl
  · by_cases b : i ≥ (c.Sites.length : Int)
    · rw [decide_eq_false (show ¬ (0 ≤ i ∧ i < (c.Sites.length : Int)) by omega)]
      refine stDF a ?_
      rw [decide_eq_true b]; rfl
    · rw [decide_eq_true (show 0 ≤ i ∧ i < (c.Sites.length : Int) by omega)]
      refine stDF a ?_
      rw [decide_eq_false b]
      exact stFF (stIf (by omega) rfl)
theorem siteOf_small {c : GConfig} (h : confOk c = true) (i : Int) : (siteOf c i).Backs.length ≤ 4 ∧ (hasS c i = true → siteOk (siteOf c i) = true) := by
  obtain ⟨s1, s2⟩ := confOk_small h
  unfold siteOf
  split
  · rename_i q
    unfold hasS at q
    rw [decide_eq_true_eq] at q
    have := s2 _ (getD_mem (show i.toNat < c.Sites.length by omega))
    exact ⟨this.2, fun _ => this.1⟩
  · exact ⟨by decide, fun q => absurd q (by assumption)⟩
def backIs (b : GBack) (h : GHealth) : Bool := h.Up && (!b.Drain && decide (0 < b.Weight))
def candB (hs : List GHealth) : List GBack → Nat → List GCandidate
  | [], _ => []
  | s :: ss, i => bif backIs s (hs.getD i default) then ⟨(i : Int), s.Weight⟩ :: candB hs ss (i + 1) else candB hs ss (i + 1)
theorem candB_loop {N : Nat} (hs : List GHealth) (ss : List GBack) (hl : ss.length ≤ 90) (hh : ss.length ≤ hs.length) : ∀ (d fuel i : Nat) (b : List GCandidate), ss.length = i + d → d < fuel → b.length ≤ i →
    L_cand_Backs_2 N fuel hs b ss (ss.length : Int) (i : Int) = some (b ++ candB hs (ss.drop i) i, 0) := by
  intro d
  induction d with
  | zero =>
    intro fuel i b hi hf hb
    obtain ⟨fuel, rfl⟩ : ∃ f, fuel = f + 1 := ⟨fuel - 1, by omega⟩
    rw [L_cand_Backs_2, List.drop_of_length_le (by omega)]
    refine stDF (by omega) ?_
    unfold candB
    rw [List.append_nil]
  | succ d ih =>
    intro fuel i b hi hf hb
    obtain ⟨fuel, rfl⟩ : ∃ f, fuel = f + 1 := ⟨fuel - 1, by omega⟩
    rw [L_cand_Backs_2, drop_at (show i < ss.length by omega), Int.toNat_natCast, w64 (n := (i : Int) + 1) (by omega) (by omega)]
    unfold candB
    have hadd := add_eq N b (i : Int) (ss.getD i default).Weight (ss.getD i default).Drain (hs.getD i default) (by omega)
    have hcc : ((hs.getD i default).Up && (!(ss.getD i default).Drain && decide (0 < (ss.getD i default).Weight))) = backIs (ss.getD i default) (hs.getD i default) := rfl
    rw [hcc] at hadd
    refine stDT (by omega) (stIf (by omega) (stIf (by omega) ?_))
    cases hq : backIs (ss.getD i default) (hs.getD i default) with
    | true =>
      rw [hq] at hadd
      refine stB hadd (stFF ((ih fuel (i + 1) (b ++ [⟨(i : Int), (ss.getD i default).Weight⟩]) (by omega) (by omega) (by rw [List.length_append, List.length_singleton]; omega)).trans ?_))
      rw [List.append_assoc]
      rfl
    | false =>
      rw [hq] at hadd
      exact stB hadd (stTT (stIf rfl (ih fuel (i + 1) b (by omega) (by omega) (by omega))))
def backs (c : GConfig) (site : Int) (hs : List GHealth) : List GCandidate := candB hs (siteOf c site).Backs 0
theorem Backs_eq {N : Nat} (hN : 140737488355328 < N) {c : GConfig} {hs : List GHealth} (hc : confOk c = true) (hh : hsOk hs 4 = true) (site : Int) : ∃ e, L_cand_Backs N c site hs = some (backs c site hs, e) := by
  obtain ⟨s1, s2⟩ := confOk_small hc
  have s3 := hsOk_len hh
  have s4 := siteOf_small hc site
  unfold L_cand_Backs L_cand_Backs_1
  cases hq : hasS c site with
  | true =>
    refine ⟨0, stB (CSite_eq N c site) (stB (ConfMay_eq hN c ⟨by omega, fun y hy => by have := (s2 y hy).2; omega⟩) ?_)⟩
    rw [hc]
    refine stNTT (stB (HAll_eq hN hs 4 (by omega)) ?_)
    rw [hh, hq]
    refine stNTT ?_
    exact (candB_loop hs (siteOf c site).Backs (by omega) (by omega) (siteOf c site).Backs.length N 0 [] (by omega) (by omega) (by simp)).trans (by rw [List.nil_append, List.drop_zero]; rfl)
  | false =>
    refine ⟨1300, stB (CSite_eq N c site) (stB (ConfMay_eq hN c ⟨by omega, fun y hy => by have := (s2 y hy).2; omega⟩) ?_)⟩
    rw [hc]
    refine stNTT (stB (HAll_eq hN hs 4 (by omega)) ?_)
    rw [hh, hq]
    refine stNTT ?_
    unfold backs siteOf
    rw [hq]
    rfl
theorem candB_mem (hs : List GHealth) : ∀ (ss : List GBack) (i : Nat) (c : GCandidate), c ∈ candB hs ss i → ∃ j, j < ss.length ∧ c = ⟨((i + j : Nat) : Int), (ss.getD j default).Weight⟩ ∧ backIs (ss.getD j default) (hs.getD (i + j) default) = true
  | [], i, c, h => by simp [candB] at h
  | s :: ss, i, c, h => by
    unfold candB at h
    cases hq : backIs s (hs.getD i default) with
    | true =>
      rw [hq, cond_true] at h
      rcases List.mem_cons.1 h with rfl | h
      · exact ⟨0, by simp, rfl, hq⟩
      · obtain ⟨j, h1, h2, h3⟩ := candB_mem hs ss (i + 1) c h
        refine ⟨j + 1, by simpa using h1, ?_, ?_⟩
        · rw [h2, show i + 1 + j = i + (j + 1) by omega]; rfl
        · rw [show i + (j + 1) = i + 1 + j by omega]; exact h3
    | false =>
      rw [hq, cond_false] at h
      obtain ⟨j, h1, h2, h3⟩ := candB_mem hs ss (i + 1) c h
      refine ⟨j + 1, by simpa using h1, ?_, ?_⟩
      · rw [h2, show i + 1 + j = i + (j + 1) by omega]; rfl
      · rw [show i + (j + 1) = i + 1 + j by omega]; exact h3
theorem candB_up (hs : List GHealth) : ∀ (ss : List GBack) (i : Nat), (candB hs ss i).Pairwise fun a b => a.Id < b.Id
  | [], i => by unfold candB; exact List.Pairwise.nil
  | s :: ss, i => by
    unfold candB
    cases backIs s (hs.getD i default) with
    | true =>
      refine List.Pairwise.cons (fun c hc => ?_) (candB_up hs ss (i + 1))
      obtain ⟨j, _, h2, _⟩ := candB_mem hs ss (i + 1) c hc
      rw [h2]
      show (i : Int) < ((i + 1 + j : Nat) : Int)
      omega
    | false => exact candB_up hs ss (i + 1)
theorem candB_len (hs : List GHealth) : ∀ (ss : List GBack) (i : Nat), (candB hs ss i).length ≤ ss.length
  | [], i => by simp [candB]
  | s :: ss, i => by
    unfold candB
    have := candB_len hs ss (i + 1)
    cases backIs s (hs.getD i default) with
    | true => rw [cond_true, List.length_cons, List.length_cons]; omega
    | false => rw [cond_false, List.length_cons]; omega
theorem backs_may {c : GConfig} {hs : List GHealth} (hc : confOk c = true) (site : Int) : mayC (backs c site hs) = true := by
  have s4 := siteOf_small hc site
  refine mayC_of (fun x hx => ?_) (candB_up hs _ 0) (Nat.le_trans (candB_len hs _ 0) (by omega))
  obtain ⟨j, h1, h2, h3⟩ := candB_mem hs _ 0 x hx
  have hq : hasS c site = true := by
    cases hq : hasS c site with
    | true => rfl
    | false => unfold siteOf at h1; rw [hq, if_neg (by decide)] at h1; simp [zSite] at h1
  have hs := s4.2 hq
  unfold siteOk at hs
  unfold backIs at h3
  simp only [Bool.and_eq_true, decide_eq_true_eq, List.all_eq_true] at hs h3
  have hb := hs.1 _ (getD_mem h1)
  unfold backOk at hb
  rw [decide_eq_true_eq] at hb
  rw [h2]
  exact ⟨⟨by show (0:Int) ≤ ((0 + j : Nat) : Int); omega, by show ((0 + j : Nat) : Int) < 256; omega⟩, by have := h3.2.2; show 1 ≤ ((siteOf c site).Backs.getD j default).Weight; omega, hb.2⟩
def loadN (n : GNode) : Int := ((n.Flows.filter fun x => !x.Away).length : Nat)
theorem load_loop (N : Nat) (es : List GEntry) (hl : es.length ≤ 100) : ∀ (d fuel i : Nat) (k : Nat), es.length = i + d → d < fuel → k ≤ i →
    L_spare_Load_1 N fuel (k : Int) es (es.length : Int) (i : Int) = some ((k + ((es.drop i).filter fun x => !x.Away).length : Nat) : Int) := by
  intro d
  induction d with
  | zero =>
    intro fuel i k hi hf hk
    obtain ⟨fuel, rfl⟩ : ∃ f, fuel = f + 1 := ⟨fuel - 1, by omega⟩
    rw [L_spare_Load_1, List.drop_of_length_le (by omega), List.filter_nil]
    exact stDF (by omega) rfl
  | succ d ih =>
    intro fuel i k hi hf hk
    obtain ⟨fuel, rfl⟩ : ∃ f, fuel = f + 1 := ⟨fuel - 1, by omega⟩
    rw [L_spare_Load_1, drop_at (show i < es.length by omega), Int.toNat_natCast]
    unfold L_spare_Load_2
    rw [w64 (n := (i : Int) + 1) (by omega) (by omega), w64 (n := (k : Int) + 1) (by omega) (by omega)]
    refine stDT (by omega) (stIf (by omega) ?_)
    cases hq : (es.getD i default).Away with
    | true =>
      rw [List.filter_cons_of_neg (by rw [hq]; decide)]
      exact stNTT (ih fuel (i + 1) k (by omega) (by omega) (by omega))
    | false =>
      rw [List.filter_cons_of_pos (by rw [hq]; decide), List.length_cons]
      refine stNFF ((ih fuel (i + 1) (k + 1) (by omega) (by omega) (by omega)).trans ?_)
      congr 2
      omega
theorem Load_eq {N : Nat} (hN : 1000 ≤ N) (n : GNode) (hl : n.Flows.length ≤ 100) : L_spare_Load N n = some (loadN n) := by
  have := load_loop N n.Flows hl n.Flows.length N 0 0 (by omega) (by omega) (by omega)
  rw [Nat.zero_add, List.drop_zero] at this
  exact this
def fullN (n : GNode) : Bool := !hasS n.Config n.Id || ((siteOf n.Config n.Id).Drain || (((backs n.Config n.Id n.Health).length : Int) == 0 || decide (loadN n ≥ (siteOf n.Config n.Id).Cap)))
theorem Full_eq {N : Nat} (hN : 140737488355328 < N) {n : GNode} (h : NodeOk n) : L_spare_Full N n = some (fullN n, 0) := by
  obtain ⟨e, he⟩ := Backs_eq hN h.conf h.hs n.Id
  have s4 := ((cacheOk_iff _).1 h.cache).2.2
  unfold L_spare_Full L_spare_Full_1 fullN
  refine stB (SpareMay_eq hN n (okN_bd h)) ?_
  rw [h.spare]
  refine stNTT (stB (CSite_eq N _ _) (stB he ?_))
  dsimp only
  cases hasS n.Config n.Id with
  | false => rfl
  | true =>
    refine stNTT ?_
    cases (siteOf n.Config n.Id).Drain with
    | true => rfl
    | false =>
      refine stFF ?_
      cases ((backs n.Config n.Id n.Health).length : Int) == 0 with
      | true => rfl
      | false => exact stFF (stB (Load_eq (by omega) n (by omega)) rfl)
def roomV (v : GSeen) (now : Int) : Int × Bool × Int :=
  if v.At = -1 ∨ now < v.At ∨ v.At + 10 ≤ now then (0, false, 0) else (if 0 > v.Report.Cap - v.Report.Load then 0 else v.Report.Cap - v.Report.Load, true, 0)
theorem VSpare_eq {N : Nat} (hN : 140737488355328 < N) {vs : List GSeen} (hv : viewOk vs = true) {i : Nat} (hi : i < 3) {now : Int} (hn : timeOk now = true) : L_view_Spare N vs (i : Int) now = some (roomV (vs.getD i default) now) := by
  have hl := viewOk_len hv
  have hs := viewOk_at hv hi
  have ht := of_decide_eq_true hn
  unfold L_view_Spare L_view_Spare_1 L_view_Spare_2
  rw [ViewMay_eq hN vs (by omega), hv, Time_eq, hn, RSite_eq, decide_eq_true (show (0:Int) ≤ (i : Int) ∧ (i : Int) < 3 by omega), Int.toNat_natCast]
  refine stB rfl (stNTT (stB rfl (stNTT (stB rfl (stNTT (stIf (by omega) (stVia ?_)))))))
  generalize vs.getD i default = v at *
  by_cases a : v.At = -1
  · rw [show roomV v now = (0, false, 0) from if_pos (.inl a), a]; rfl
  · have hb : timeOk v.At = true ∧ repOk v.Report = true := by
      unfold seenOk at hs
      rw [show (v.At == -1) = false from beq_eq_false_iff_ne.2 a, Bool.false_and, Bool.false_or, Bool.and_eq_true, Bool.and_eq_true] at hs
      exact ⟨hs.1, hs.2.1⟩
    have hat := of_decide_eq_true hb.1
    have hr := hb.2
    unfold repOk at hr
    simp only [Bool.and_eq_true, decide_eq_true_eq] at hr
    rw [w64 (n := now - v.At) (by omega) (by omega), w64 (n := v.Report.Cap - v.Report.Load) (by omega) (by omega)]
    refine stEF a ?_
    by_cases b : now - v.At < 0
    · rw [show roomV v now = (0, false, 0) from if_pos (.inr (.inl (by omega)))]; exact stDT b rfl
    · refine stDF b ?_
      by_cases c : now - v.At ≥ 10
      · rw [show roomV v now = (0, false, 0) from if_pos (.inr (.inr (by omega))), decide_eq_true c]; rfl
      · rw [show roomV v now = (if 0 > v.Report.Cap - v.Report.Load then 0 else v.Report.Cap - v.Report.Load, true, 0) from if_neg (by omega), decide_eq_false c]
        refine stFF (stVia ?_)
        by_cases d : 0 > v.Report.Cap - v.Report.Load
        · rw [if_pos d, if_pos (decide_eq_true d)]
        · rw [if_neg d, if_neg (by rw [decide_eq_true_eq]; exact d)]
def targIs (n : GNode) (now : Int) (s : GSite) (i : Nat) : Bool :=
  ((i : Int) != n.Id) && (!s.Drain && (decide (s.Weight > 0) && ((roomV (n.Seen.getD i default) now).2.1 && decide ((roomV (n.Seen.getD i default) now).1 > 0))))
def targ (n : GNode) (now : Int) : List GSite → Nat → List GCandidate
  | [], _ => []
  | s :: ss, i => bif targIs n now s i then ⟨(i : Int), if decide (16 < (roomV (n.Seen.getD i default) now).1) then 16 else (roomV (n.Seen.getD i default) now).1⟩ :: targ n now ss (i + 1) else targ n now ss (i + 1)
theorem targ_loop {N : Nat} (hN : 140737488355328 < N) {n : GNode} (h : NodeOk n) {now : Int} (hn : timeOk now = true) : ∀ (d fuel i : Nat) (b : List GCandidate), n.Config.Sites.length = i + d → d < fuel → b.length ≤ i →
    L_spare_Targets_2 N fuel now n.Id n.Config.Version n.Config.Sites n.Health n.Seen n.Flows n.Serial b n.Config.Sites (n.Config.Sites.length : Int) (i : Int) = some (b ++ targ n now (n.Config.Sites.drop i) i, 0) := by
  obtain ⟨s1, s2⟩ := confOk_small h.conf
  intro d
  induction d with
  | zero =>
    intro fuel i b hi hf hb
    obtain ⟨fuel, rfl⟩ : ∃ f, fuel = f + 1 := ⟨fuel - 1, by omega⟩
    rw [L_spare_Targets_2, List.drop_of_length_le (by omega)]
    refine stDF (by omega) ?_
    unfold targ
    rw [List.append_nil]
  | succ d ih =>
    intro fuel i b hi hf hb
    obtain ⟨fuel, rfl⟩ : ∃ f, fuel = f + 1 := ⟨fuel - 1, by omega⟩
    rw [L_spare_Targets_2, drop_at (show i < n.Config.Sites.length by omega), Int.toNat_natCast]
    unfold targ
    refine stDT (by omega) (stIf (by omega) (stB (VSpare_eq hN h.view (by omega) hn) ?_))
    have h3 : ∀ t : Bool, L_spare_Targets_3 N (L_spare_Targets_2 N fuel) now n.Id n.Config.Version n.Config.Sites n.Health n.Seen n.Flows n.Serial b (i : Int) (roomV (n.Seen.getD i default) now).1 n.Config.Sites (n.Config.Sites.length : Int) (i : Int) t =
        some (b ++ (bif t then ⟨(i : Int), if decide (16 < (roomV (n.Seen.getD i default) now).1) then 16 else (roomV (n.Seen.getD i default) now).1⟩ :: targ n now (n.Config.Sites.drop (i + 1)) (i + 1) else targ n now (n.Config.Sites.drop (i + 1)) (i + 1)), 0) := by
      intro t
      unfold L_spare_Targets_3 L_spare_Targets_4
      rw [w64 (n := (i : Int) + 1) (by omega) (by omega)]
      cases t with
      | true =>
        refine stTT (stIf (growOk_small (by omega) (by omega)) ((ih fuel (i + 1) (b ++ [_]) (by omega) (by omega) (by rw [List.length_append, List.length_singleton]; omega)).trans ?_))
        rw [List.append_assoc]
        rfl
      | false => exact stFF (ih fuel (i + 1) b (by omega) (by omega) (by omega))
    simp only [h3]
    unfold targIs
    cases ((i : Int) != n.Id) with
    | false => rfl
    | true =>
      cases (n.Config.Sites.getD i default).Drain with
      | true => rfl
      | false =>
        cases decide ((n.Config.Sites.getD i default).Weight > 0) with
        | false => rfl
        | true => cases (roomV (n.Seen.getD i default) now).2.1 <;> rfl
def targN (n : GNode) (now : Int) : List GCandidate := targ n now n.Config.Sites 0
theorem Targets_eq {N : Nat} (hN : 140737488355328 < N) {n : GNode} (h : NodeOk n) {now : Int} (hn : timeOk now = true) : L_spare_Targets N n now = some (targN n now, 0) := by
  obtain ⟨s1, s2⟩ := confOk_small h.conf
  unfold L_spare_Targets L_spare_Targets_1
  rw [SpareMay_eq hN n (okN_bd h), h.spare, Time_eq, hn]
  refine stB rfl (stNTT (stB rfl (stNTT ?_)))
  exact (targ_loop hN h hn n.Config.Sites.length N 0 [] (by omega) (by omega) (by simp)).trans (by rw [List.nil_append, List.drop_zero]; rfl)
theorem targ_mem (n : GNode) (now : Int) : ∀ (ss : List GSite) (i : Nat) (c : GCandidate), c ∈ targ n now ss i → ∃ j, j < ss.length ∧ c = ⟨((i + j : Nat) : Int), if decide (16 < (roomV (n.Seen.getD (i + j) default) now).1) then 16 else (roomV (n.Seen.getD (i + j) default) now).1⟩ ∧ targIs n now (ss.getD j default) (i + j) = true
  | [], i, c, h => by simp [targ] at h
  | s :: ss, i, c, h => by
    unfold targ at h
    cases hq : targIs n now s i with
    | true =>
      rw [hq, cond_true] at h
      rcases List.mem_cons.1 h with rfl | h
      · exact ⟨0, by simp, rfl, hq⟩
      · obtain ⟨j, h1, h2, h3⟩ := targ_mem n now ss (i + 1) c h
        refine ⟨j + 1, by simpa using h1, ?_, ?_⟩
        · rw [h2, show i + 1 + j = i + (j + 1) by omega]
        · rw [show i + (j + 1) = i + 1 + j by omega]; exact h3
    | false =>
      rw [hq, cond_false] at h
      obtain ⟨j, h1, h2, h3⟩ := targ_mem n now ss (i + 1) c h
      refine ⟨j + 1, by simpa using h1, ?_, ?_⟩
      · rw [h2, show i + 1 + j = i + (j + 1) by omega]
      · rw [show i + (j + 1) = i + 1 + j by omega]; exact h3
theorem targ_up (n : GNode) (now : Int) : ∀ (ss : List GSite) (i : Nat), (targ n now ss i).Pairwise fun a b => a.Id < b.Id
  | [], i => by unfold targ; exact List.Pairwise.nil
  | s :: ss, i => by
    unfold targ
    cases targIs n now s i with
    | true =>
      refine List.Pairwise.cons (fun c hc => ?_) (targ_up n now ss (i + 1))
      obtain ⟨j, _, h2, _⟩ := targ_mem n now ss (i + 1) c hc
      rw [h2]
      show (i : Int) < ((i + 1 + j : Nat) : Int)
      omega
    | false => exact targ_up n now ss (i + 1)
theorem targ_len (n : GNode) (now : Int) : ∀ (ss : List GSite) (i : Nat), (targ n now ss i).length ≤ ss.length
  | [], i => by simp [targ]
  | s :: ss, i => by
    unfold targ
    have := targ_len n now ss (i + 1)
    cases targIs n now s i with
    | true => rw [cond_true, List.length_cons, List.length_cons]; omega
    | false => rw [cond_false, List.length_cons]; omega
theorem targN_may {n : GNode} (h : NodeOk n) (now : Int) : mayC (targN n now) = true := by
  obtain ⟨s1, s2⟩ := confOk_small h.conf
  refine mayC_of (fun x hx => ?_) (targ_up n now _ 0) (Nat.le_trans (targ_len n now _ 0) (by omega))
  obtain ⟨j, h1, h2, h3⟩ := targ_mem n now _ 0 x hx
  unfold targIs at h3
  simp only [Bool.and_eq_true, decide_eq_true_eq] at h3
  rw [h2]
  refine ⟨⟨by show (0:Int) ≤ ((0 + j : Nat) : Int); omega, by show ((0 + j : Nat) : Int) < 256; omega⟩, ?_⟩
  have := h3.2.2.2.2
  dsimp only
  split
  · decide
  · rename_i q; rw [decide_eq_true_eq] at q; omega
end Go.Proofs.YtmhlgpdoedbedaaGreat.Pu
