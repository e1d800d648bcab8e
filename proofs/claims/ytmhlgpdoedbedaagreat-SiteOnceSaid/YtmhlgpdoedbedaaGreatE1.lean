import Derived.Test.YtmhlgpdoedbedaaGreatEO
set_option linter.unusedVariables false
set_option linter.unusedSimpArgs false
namespace Go.Proofs.YtmhlgpdoedbedaaGreat.Pu
open Go Go.RowKit Go.Proofs.YtmhlgpdoedbedaaGreat.Sv Go.Proofs.YtmhlgpdoedbedaaGreat.Lf
theorem to_eq (N : Nat) (x m : Int) : L_conf_to N x m = some (decide (0 ≤ x ∧ x ≤ m)) := by
  unfold L_conf_to L_conf_to_1
  rw [bifS]
  congr 1
  by_cases h : x ≥ 0 <;> by_cases k : x ≤ m <;> simp [h, k] <;> omega
def timeOk (t : Int) : Bool := decide (0 ≤ t ∧ t ≤ 1048576)
theorem Time_eq (N : Nat) (t : Int) : L_conf_Time N t = some (timeOk t) := stB (to_eq N t 1048576) rfl
theorem RSite_eq (N : Nat) (x : Int) : L_report_Site N x = some (decide (0 ≤ x ∧ x < 3)) := by
  unfold L_report_Site L_report_Site_1
  rw [bifS]
  congr 1
  by_cases h : x ≥ 0 <;> by_cases k : x < 3 <;> simp [h, k] <;> omega
theorem drop_at {α : Type} [Inhabited α] {xs : List α} {i : Nat} (h : i < xs.length) : xs.drop i = xs.getD i default :: xs.drop (i + 1) := drop_get h
def backOk (b : GBack) : Bool := decide (0 ≤ b.Weight ∧ b.Weight ≤ 16)
def siteOk (s : GSite) : Bool := s.Backs.all backOk && (decide (0 ≤ s.Weight ∧ s.Weight ≤ 16) && (decide (0 ≤ s.Cap ∧ s.Cap ≤ 8) && decide ((s.Backs.length : Int) ≤ 4)))
theorem site_loop (N : Nat) (s : GSite) (hs : s.Backs.length ≤ 140737488355328) : ∀ (d fuel i : Nat), s.Backs.length = i + d → d < fuel →
    L_conf_site_1 N fuel s s.Backs (s.Backs.length : Int) (i : Int) = some ((s.Backs.drop i).all backOk && (decide (0 ≤ s.Weight ∧ s.Weight ≤ 16) && (decide (0 ≤ s.Cap ∧ s.Cap ≤ 8) && decide ((s.Backs.length : Int) ≤ 4)))) := by
  intro d
  induction d with
  | zero =>
    intro fuel i hi hf
    obtain ⟨fuel, rfl⟩ : ∃ f, fuel = f + 1 := ⟨fuel - 1, by omega⟩
    rw [L_conf_site_1, List.drop_of_length_le (by omega), List.all_nil, Bool.true_and]
    unfold L_conf_site_2
    refine stDF (by omega) (stB (to_eq N _ _) ?_)
    rw [to_eq]
    by_cases a : 0 ≤ s.Weight ∧ s.Weight ≤ 16
    · rw [decide_eq_true a]
      by_cases b : 0 ≤ s.Cap ∧ s.Cap ≤ 8
      · rw [decide_eq_true b]; rfl
      · rw [decide_eq_false b]; rfl
    · rw [decide_eq_false a]; rfl
  | succ d ih =>
    intro fuel i hi hf
    obtain ⟨fuel, rfl⟩ : ∃ f, fuel = f + 1 := ⟨fuel - 1, by omega⟩
    rw [L_conf_site_1, drop_at (show i < s.Backs.length by omega), List.all_cons, Int.toNat_natCast, w64 (n := (i : Int) + 1) (by omega) (by omega)]
    refine stDT (by omega) (stIf (by omega) (stB (to_eq N _ _) ?_))
    by_cases a : 0 ≤ (s.Backs.getD i default).Weight ∧ (s.Backs.getD i default).Weight ≤ 16
    · rw [decide_eq_true a, show backOk (s.Backs.getD i default) = true from decide_eq_true a, Bool.true_and]
      exact ih fuel (i + 1) (by omega) (by omega)
    · rw [decide_eq_false a, show backOk (s.Backs.getD i default) = false from decide_eq_false a]
      rfl
theorem site_eq {N : Nat} (s : GSite) (hs : s.Backs.length ≤ 140737488355328) (hN : s.Backs.length < N) : L_conf_site N s = some (siteOk s) := site_loop N s hs s.Backs.length N 0 (by omega) hN
def confOk (c : GConfig) : Bool := c.Sites.all siteOk && (timeOk c.Version && decide ((c.Sites.length : Int) ≤ 3))
theorem conf_loop {N : Nat} (v : Int) (ss : List GSite) (hs : ss.length ≤ 140737488355328) (hb : ∀ y ∈ ss, y.Backs.length ≤ 140737488355328 ∧ y.Backs.length < N) : ∀ (d fuel i : Nat), ss.length = i + d → d < fuel →
    L_conf_May_1 N fuel v ss (ss.length : Int) (i : Int) = some ((ss.drop i).all siteOk && (timeOk v && decide ((ss.length : Int) ≤ 3))) := by
  intro d
  induction d with
  | zero =>
    intro fuel i hi hf
    obtain ⟨fuel, rfl⟩ : ∃ f, fuel = f + 1 := ⟨fuel - 1, by omega⟩
    rw [L_conf_May_1, List.drop_of_length_le (by omega), List.all_nil, Bool.true_and]
    unfold L_conf_May_2
    refine stDF (by omega) (stB (Time_eq N v) ?_)
    cases timeOk v <;> rfl
  | succ d ih =>
    intro fuel i hi hf
    obtain ⟨fuel, rfl⟩ : ∃ f, fuel = f + 1 := ⟨fuel - 1, by omega⟩
    have hil : i < ss.length := by omega
    have hm : ss.getD i default ∈ ss := by rw [List.getD_eq_getElem?_getD, List.getElem?_eq_getElem hil]; exact List.getElem_mem _
    obtain ⟨b1, b2⟩ := hb _ hm
    rw [L_conf_May_1, drop_at hil, List.all_cons, Int.toNat_natCast, w64 (n := (i : Int) + 1) (by omega) (by omega)]
    refine stDT (by omega) (stIf (by omega) (stB (site_eq _ b1 b2) ?_))
    cases siteOk (ss.getD i default) with
    | true => rw [Bool.true_and]; exact ih fuel (i + 1) (by omega) (by omega)
    | false => rfl
def BdC (c : GConfig) : Prop := c.Sites.length ≤ 140737488355328 ∧ ∀ y ∈ c.Sites, y.Backs.length ≤ 140737488355328
theorem ConfMay_eq {N : Nat} (hN : 140737488355328 < N) (c : GConfig) (h : BdC c) : L_conf_May N c = some (confOk c) :=
  conf_loop c.Version c.Sites h.1 (fun y hy => ⟨h.2 y hy, Nat.lt_of_le_of_lt (h.2 y hy) hN⟩) c.Sites.length N 0 (by omega) (by have := h.1; omega)
def hOk (h : GHealth) : Bool := decide (0 ≤ h.Count ∧ h.Count < 3)
theorem HMay_eq (N : Nat) (h : GHealth) : L_health_May N h = some (hOk h) := by
  have ht : L_health_turns N h = some 3 := by unfold L_health_turns; cases h.Up <;> rfl
  unfold L_health_May L_health_May_1 hOk
  rw [ht, Option.bind_some, bifS]
  congr 1
  by_cases a : h.Count ≥ 0 <;> by_cases b : h.Count < 3 <;> simp [a, b] <;> omega
def hsOk (hs : List GHealth) (n : Int) : Bool := hs.all hOk && ((hs.length : Int) == n)
theorem hs_loop (N : Nat) (hs : List GHealth) (n : Int) (hb : hs.length ≤ 140737488355328) : ∀ (d fuel i : Nat), hs.length = i + d → d < fuel →
    L_health_All_1 N fuel hs n hs (hs.length : Int) (i : Int) = some ((hs.drop i).all hOk && ((hs.length : Int) == n)) := by
  intro d
  induction d with
  | zero =>
    intro fuel i hi hf
    obtain ⟨fuel, rfl⟩ : ∃ f, fuel = f + 1 := ⟨fuel - 1, by omega⟩
    rw [L_health_All_1, List.drop_of_length_le (by omega), List.all_nil, Bool.true_and]
    exact stDF (by omega) rfl
  | succ d ih =>
    intro fuel i hi hf
    obtain ⟨fuel, rfl⟩ : ∃ f, fuel = f + 1 := ⟨fuel - 1, by omega⟩
    rw [L_health_All_1, drop_at (show i < hs.length by omega), List.all_cons, Int.toNat_natCast, w64 (n := (i : Int) + 1) (by omega) (by omega)]
    refine stDT (by omega) (stIf (by omega) (stB (HMay_eq N _) ?_))
    cases hOk (hs.getD i default) with
    | true => rw [Bool.true_and]; exact ih fuel (i + 1) (by omega) (by omega)
    | false => rfl
theorem HAll_eq {N : Nat} (hN : 140737488355328 < N) (hs : List GHealth) (n : Int) (hb : hs.length ≤ 140737488355328) : L_health_All N hs n = some (hsOk hs n) := hs_loop N hs n hb hs.length N 0 (by omega) (by omega)
def eqF (a b : GFlow) : Bool := (a.Src == b.Src) && ((a.Dst == b.Dst) && ((a.Proto == b.Proto) && ((a.Sport == b.Sport) && ((a.Dport == b.Dport) && true))))
theorem eqF_iff {a b : GFlow} : eqF a b = true ↔ a = b := by
  obtain ⟨a1, a2, a3, a4, a5⟩ := a
  obtain ⟨b1, b2, b3, b4, b5⟩ := b
  unfold eqF
  simp only [Bool.and_eq_true, beq_iff_eq, Bool.and_true, GFlow.mk.injEq]
theorem eqF_rfl (a : GFlow) : eqF a a = true := eqF_iff.2 rfl
theorem phase_eq (N : Nat) (p : Int) : L_track_May N p = some (decide (0 ≤ p ∧ p ≤ 2)) := by
  unfold L_track_May L_track_May_1
  rw [bifS]
  congr 1
  by_cases a : p ≥ 0 <;> by_cases b : p ≤ 2 <;> simp [a, b] <;> omega
def entOk (e : GEntry) : Bool := mayF e.Flow && (decide (0 ≤ e.To ∧ e.To < 256) && (decide (0 ≤ e.Phase ∧ e.Phase ≤ 2) && timeOk e.Used))
theorem EMay_eq (N : Nat) (e : GEntry) : L_entry_May N e = some (entOk e) := by
  unfold L_entry_May L_entry_May_1 entOk
  rw [FlowMay_eq, in8, phase_eq, Time_eq, Option.bind_some]
  cases mayF e.Flow with
  | false => rfl
  | true =>
    cases decide (0 ≤ e.To ∧ e.To < 256) with
    | false => rfl
    | true => cases decide (0 ≤ e.Phase ∧ e.Phase ≤ 2) <;> rfl
def at_ (f : GFlow) : List GEntry → Nat → Int
  | [], _ => -1
  | e :: es, i => if eqF e.Flow f = true then (i : Int) else at_ f es (i + 1)
theorem at_loop (N : Nat) (es : List GEntry) (f : GFlow) (hb : es.length ≤ 140737488355328) : ∀ (d fuel i : Nat), es.length = i + d → d < fuel →
    L_slices_IndexFunc_api_Entry_api_Entry_1 N fuel es f.Src f.Dst f.Proto f.Sport f.Dport (es.length : Int) (i : Int) = some (at_ f (es.drop i) i) := by
  intro d
  induction d with
  | zero =>
    intro fuel i hi hf
    obtain ⟨fuel, rfl⟩ : ∃ f, fuel = f + 1 := ⟨fuel - 1, by omega⟩
    rw [L_slices_IndexFunc_api_Entry_api_Entry_1, List.drop_of_length_le (by omega)]
    exact stDF (by omega) rfl
  | succ d ih =>
    intro fuel i hi hf
    obtain ⟨fuel, rfl⟩ : ∃ f, fuel = f + 1 := ⟨fuel - 1, by omega⟩
    rw [L_slices_IndexFunc_api_Entry_api_Entry_1, drop_at (show i < es.length by omega), Int.toNat_natCast, w64 (n := (i : Int) + 1) (by omega) (by omega)]
    unfold at_
    refine stDT (by omega) (stIf (by omega) (stB (x := eqF (es.getD i default).Flow f) rfl ?_))
    cases eqF (es.getD i default).Flow f with
    | true => rfl
    | false => rw [if_neg (by decide)]; exact ih fuel (i + 1) (by omega) (by omega)
theorem At_eq {N : Nat} (hN : 140737488355328 < N) (es : List GEntry) (f : GFlow) (hb : es.length ≤ 140737488355328) : L_cache_at N es f = some (at_ f es 0) :=
  stB (at_loop N es f hb es.length N 0 (by omega) (by omega)) rfl
def goodAt (es : List GEntry) (i : Nat) : Bool := entOk (es.getD i default) && !(at_ (es.getD i default).Flow es 0 != (i : Int))
def cacheOk (es : List GEntry) : Bool := ((List.range' 0 es.length).all (goodAt es)) && decide ((es.length : Int) ≤ 8)
theorem cache_loop {N : Nat} (hN : 140737488355328 < N) (es : List GEntry) (hb : es.length ≤ 140737488355328) : ∀ (d fuel i : Nat), es.length = i + d → d < fuel →
    L_cache_May_1 N fuel es es (es.length : Int) (i : Int) = some ((List.range' i d).all (goodAt es) && decide ((es.length : Int) ≤ 8)) := by
  intro d
  induction d with
  | zero =>
    intro fuel i hi hf
    obtain ⟨fuel, rfl⟩ : ∃ f, fuel = f + 1 := ⟨fuel - 1, by omega⟩
    rw [L_cache_May_1, List.range'_zero, List.all_nil, Bool.true_and]
    exact stDF (by omega) rfl
  | succ d ih =>
    intro fuel i hi hf
    obtain ⟨fuel, rfl⟩ : ∃ f, fuel = f + 1 := ⟨fuel - 1, by omega⟩
    rw [L_cache_May_1, List.range'_succ, List.all_cons, Int.toNat_natCast]
    unfold L_cache_May_2
    refine stDT (by omega) (stIf (by omega) (stB (EMay_eq N _) ?_))
    rw [w64 (n := (i : Int) + 1) (by omega) (by omega), At_eq hN es _ hb]
    unfold goodAt
    cases entOk (es.getD i default) with
    | false => rfl
    | true =>
      refine stNTT (stB rfl ?_)
      cases at_ (es.getD i default).Flow es 0 != (i : Int) with
      | true => rfl
      | false => exact ih fuel (i + 1) (by omega) (by omega)
theorem CMay_eq {N : Nat} (hN : 140737488355328 < N) (es : List GEntry) (hb : es.length ≤ 140737488355328) : L_cache_May N es = some (cacheOk es) := cache_loop hN es hb es.length N 0 (by omega) (by omega)
end Go.Proofs.YtmhlgpdoedbedaaGreat.Pu
