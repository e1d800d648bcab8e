import Derived.Test.YtmhlgpdoedbedaaGreatE3
set_option linter.unusedVariables false
set_option linter.unusedSimpArgs false
namespace Go.Proofs.YtmhlgpdoedbedaaGreat.Pu
open Go Go.RowKit Go.Proofs.YtmhlgpdoedbedaaGreat.Sv Go.Proofs.YtmhlgpdoedbedaaGreat.Lf
theorem getI_src (s : ByteArray) : (0 ≤ (getI s).1.Src ∧ (getI s).1.Src < 4294967296) ∧ (0 ≤ (getI s).1.Dst ∧ (getI s).1.Dst < 4294967296) := by
  have a := N4_range s 12
  have b := N4_range s 16
  unfold getI badI
  repeat' split
  all_goals first
    | exact ⟨a, b⟩
    | exact ⟨by decide, by decide⟩
theorem getS_may (p : Int) (b : ByteArray) (src dst : Int) (h : (getS p b src dst).2 = 0) : mayS (getS p b src dst).1 = true := by
  have ho : ∀ proto s un g, (okS proto s src dst true un g).2 = 0 → mayS (okS proto s src dst true un g).1 = true := by
    intro proto s un g
    unfold okS badS
    split
    · rename_i q; exact fun _ => q.2.1
    · intro h; simp at h
  unfold getS at h ⊢
  split at h
  · rename_i e
    rw [if_pos e]
    split at h
    · unfold badS at h; simp at h
    · rename_i e2
      rw [if_neg e2]; exact ho _ _ _ _ h
  · rename_i e
    rw [if_neg e]
    split at h
    · rename_i e1
      rw [if_pos e1]
      split at h
      · unfold badS at h; simp at h
      · rename_i e2
        rw [if_neg e2]; exact ho _ _ _ _ h
    · unfold badS at h; simp at h
theorem ofF_ok {s : ByteArray} (h : (ofF s).2.2 = 0) : mayF (ofF s).1 = true ∧ 0 ≤ (ofF s).2.1.Flags ∧ (ofF s).2.1.Flags < 64 := by
  have hr := getI_src s
  unfold ofF at h ⊢
  split at h
  · rename_i e; exact absurd h e
  rename_i e; rw [if_neg e]
  split at h
  · simp [noF] at h
  rename_i e2; rw [if_neg e2]
  split at h
  · simp [noF] at h
  rename_i e3; rw [if_neg e3]
  have hm := getS_may _ _ _ _ (Decidable.not_not.1 e3)
  generalize (getS (getI s).1.Proto (getI s).1.Body (getI s).1.Src (getI s).1.Dst).1 = g at *
  unfold mayS kindS at hm
  have hp := of_decide_eq_true hm
  dsimp only
  refine ⟨?_, ?_⟩
  · unfold mayF
    refine decide_eq_true ⟨hr.1, hr.2, ?_, hp.1.1, hp.1.2.1⟩
    show (getI s).1.Proto = 6 ∨ (getI s).1.Proto = 17
    omega
  · rcases hp.2 with q | q <;> omega
def holds (e : GEdge) (f : GFlow) (now : Int) : Bool :=
  (findE e.Flows f now).2 && (decide (0 ≤ (findE e.Flows f now).1.To ∧ (findE e.Flows f now).1.To < (e.Config.Sites.length : Int)) && (e.Health.getD (findE e.Flows f now).1.To.toNat default).Up)
theorem HasS_eq {N : Nat} (hN : 140737488355328 < N) {c : GConfig} (hc : confOk c = true) (i : Int) : L_conf_Has N c i (-1) = some (decide (0 ≤ i ∧ i < (c.Sites.length : Int))) := by
  obtain ⟨s1, s2⟩ := confOk_small hc
  have hs : ∃ r, L_conf_Site N c i = some r ∧ r.2 = decide (0 ≤ i ∧ i < (c.Sites.length : Int)) := by
    unfold L_conf_Site L_conf_Site_1
    by_cases a : i < 0
    · exact ⟨_, stDT a rfl, by rw [decide_eq_false (show ¬ (0 ≤ i ∧ i < (c.Sites.length : Int)) by omega)]⟩
    · by_cases b : i ≥ (c.Sites.length : Int)
      · refine ⟨(⟨0, false, 0, []⟩, false), stDF a ?_, ?_⟩
        · rw [decide_eq_true b]; rfl
        · rw [decide_eq_false (show ¬ (0 ≤ i ∧ i < (c.Sites.length : Int)) by omega)]
      · refine ⟨(c.Sites.getD i.toNat default, true), stDF a ?_, ?_⟩
        · rw [decide_eq_false b]
          exact stFF (stIf (by omega) rfl)
        · rw [decide_eq_true (show 0 ≤ i ∧ i < (c.Sites.length : Int) by omega)]
  obtain ⟨r, r1, r2⟩ := hs
  unfold L_conf_Has L_conf_Has_1
  refine stB r1 (stB (ConfMay_eq hN c ⟨by omega, fun y hy => by have := (s2 y hy).2; omega⟩) ?_)
  rw [hc, r2]
  cases decide (0 ≤ i ∧ i < (c.Sites.length : Int)) <;> rfl
theorem find_mem {es : List GEntry} {f : GFlow} {now : Int} (h : (findE es f now).2 = true) : (findE es f now).1 ∈ es ∧ (findE es f now).1.Flow = f ∧ ranE (findE es f now).1 now = false ∧ findE es f now = (es.getD (at_ f es 0).toNat default, true) := by
  unfold findE at h ⊢
  split at h
  · cases h
  rename_i e; rw [if_neg e]
  split at h
  · cases h
  rename_i e2; rw [if_neg e2]
  rcases at_cases f es 0 with ⟨q, _⟩ | ⟨i, q1, q2, q3⟩
  · omega
  · rw [q2, show (((0 + i : Nat) : Int)).toNat = i by omega] at e2 ⊢
    exact ⟨getD_mem q1, eqF_iff.1 q3, by simpa using e2, rfl⟩
end Go.Proofs.YtmhlgpdoedbedaaGreat.Pu
