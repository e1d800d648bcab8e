/- Plain laws: EdgeForms. -/
import Derived.Test.YtmhlgpdoedbedaaGreatE6
namespace Go.Proofs.YtmhlgpdoedbedaaGreat.Pu
set_option linter.unusedSimpArgs false
set_option linter.unusedVariables false
open Go Go.RowKit Go.Proofs.YtmhlgpdoedbedaaGreat.Sv Go.Proofs.YtmhlgpdoedbedaaGreat.Lf
def givenC : GConfig := ⟨3, [⟨2, false, 2, [⟨1, false⟩, ⟨3, false⟩]⟩, ⟨1, false, 4, [⟨1, false⟩]⟩]⟩
def newsH : List GHealth := [⟨true, 0⟩, ⟨true, 0⟩, ⟨true, 0⟩]
def gE : GEdge := ⟨0, givenC, newsH, []⟩
theorem repeatH : L_slices_Repeat_api_Health_api_Health 281474976710656 [⟨true, 0⟩] 3 = some newsH := by kernel_rfl
theorem confOk_time {c : GConfig} (h : confOk c = true) : 0 ≤ c.Version := by
  unfold confOk timeOk at h
  simp only [Bool.and_eq_true, decide_eq_true_eq] at h
  exact h.2.1.1
theorem New_eq {id : Int} {c : GConfig} (hs : c.Sites.length ≤ 100) (hb : ∀ y ∈ c.Sites, y.Backs.length ≤ 100) : L_edge_New 281474976710656 id c = some (if edgeOk ⟨id, c, newsH, []⟩ = true then (⟨id, c, newsH, []⟩, 0) else (zEdge, 1900)) := by
  unfold L_edge_New
  have h1 := CopyC_eq (N := 281474976710656) (by decide) c hs hb
  have h2 : L_health_New 281474976710656 = some ⟨true, 0⟩ := rfl
  have h3 := EdgeMay_eq (N := 281474976710656) (by decide) ⟨id, c, newsH, []⟩ ⟨⟨Nat.le_trans hs (by decide), fun y hy => Nat.le_trans (hb y hy) (by decide)⟩, show newsH.length ≤ 140737488355328 by decide, Nat.zero_le _⟩
  refine stB h1 (stB h2 (stB repeatH (stB h3 ?_)))
  cases edgeOk ⟨id, c, newsH, []⟩ with
  | true => rfl
  | false => rfl
theorem given_ok : ∀ y ∈ givenC.Sites, y.Backs.length ≤ 100 := by
  intro y hy
  simp only [givenC, List.mem_cons, List.not_mem_nil, or_false] at hy
  rcases hy with rfl | rfl <;> decide
theorem forms_2 (b : GEdge) (hb : BdE b) (h : edgeOk b = false) (d : Int) (h0 : 1 ≤ d) (h1 : d ≤ 1024) :
    L_law19_EdgeForms_2 281474976710656 d gE.Id gE.Config.Version gE.Config.Sites gE.Health gE.Flows b.Id b.Config.Version b.Config.Sites b.Health b.Flows = some true := by
  have hne : ¬ EdgeOk b := fun q => by have := (edgeOk_iff b).2 q; rw [h] at this; cases this
  obtain ⟨s, hs⟩ := Option.isSome_iff_exists.1 (show (L_law19_said 281474976710656 1 0 ByteArray.empty).isSome = true by decide +kernel)
  have hg : BdE gE := ⟨⟨by decide, fun y hy => Nat.le_trans (given_ok y hy) (by decide)⟩, by decide, by decide⟩
  obtain ⟨r, r1, r2⟩ := Take_eq hb 0 s
  obtain ⟨q, q1, q2⟩ := Take_eq hg (1048576 + d) s
  have er : r = (zEdge, ⟨[], []⟩, 1900) := by
    cases r2 with
    | bad => rfl
    | odd k => exact absurd k hne
    | none k => exact absurd k hne
    | big k => exact absurd k hne
    | sent k => exact absurd k hne
  have ht : ¬ timeOk (1048576 + d) = true := by unfold timeOk; rw [decide_eq_true_eq]; omega
  have eq : q.2.2 = 1900 := by
    cases q2 with
    | bad => rfl
    | odd _ k => exact absurd k ht
    | none _ k => exact absurd k ht
    | big _ k => exact absurd k ht
    | sent _ k => exact absurd k ht
  subst er
  have n1 := New_eq (id := 0 - d) (c := givenC) (by decide) given_ok
  have e1 : edgeOk ⟨0 - d, givenC, newsH, []⟩ = false := by
    rw [← Bool.not_eq_true, edgeOk_iff]
    intro k; have := k.id; dsimp only at this; omega
  rw [e1, if_neg (by decide)] at n1
  have n2 := New_eq (id := 0) (c := ⟨0 - d, []⟩) (Nat.zero_le _) (fun y hy => by simp at hy)
  have e2 : edgeOk ⟨0, ⟨0 - d, []⟩, newsH, []⟩ = false := by
    rw [← Bool.not_eq_true, edgeOk_iff]
    intro k; have := confOk_time k.conf; dsimp only at this; omega
  rw [e2, if_neg (by decide)] at n2
  have m1 := EdgeMay_eq (N := 281474976710656) (by decide) b hb
  rw [h] at m1
  have m2 := EdgeMay_eq (N := 281474976710656) (by decide) gE hg
  rw [show edgeOk gE = true by decide +kernel] at m2
  have so : L_law0_SameOut 281474976710656 ⟨[], []⟩ ⟨[], []⟩ = some true := by kernel_rfl
  have se : L_law0_SameEdge 281474976710656 zEdge ⟨0, ⟨0, []⟩, [], []⟩ = some true := by kernel_rfl
  unfold L_law19_EdgeForms_2 L_law19_EdgeForms_3
  rw [w64 (n := (1048576 : Int) + d) (by omega) (by omega), w64 (n := 0 - d) (by omega) (by omega)]
  refine stB hs (stB r1 (stB hs (stB q1 (stB (x := givenC) rfl (stB n1 (stB n2 (stB m1 (stNFF (stB m2 (stTT (stB se (stTT (stB so (stTT (stB rfl (stET rfl (stB rfl (stET eq (stB rfl (stET rfl (stB rfl ?_)))))))))))))))))))))
  rfl
theorem EdgeForms (which x : Int) : L_law19_EdgeForms 281474976710656 which x = some true := by
  have hd : 1 ≤ 1 + x % 1024 ∧ 1 + x % 1024 ≤ 1024 := by omega
  unfold L_law19_EdgeForms
  rw [and_1023, w64 (n := (1 : Int) + x % 1024) (by omega) (by omega)]
  generalize 1 + x % 1024 = d at *
  have n0 := New_eq (id := 0) (c := givenC) (by decide) given_ok
  rw [show edgeOk ⟨0, givenC, newsH, []⟩ = true by decide +kernel, if_pos rfl] at n0
  have hcopy : L_law0_CopyEdge_v1 281474976710656 gE = some gE := by kernel_rfl
  have nh : ∀ {b : GEdge}, ¬ EdgeOk b → edgeOk b = false := fun {b} h => by rw [← Bool.not_eq_true, edgeOk_iff]; exact h
  have bd : ∀ {i v : Int} {hs : List GHealth} {fl : List GEntry}, hs.length ≤ 100 → fl.length ≤ 100 → BdE ⟨i, ⟨v, givenC.Sites⟩, hs, fl⟩ := fun {i v hs fl} a b =>
    ⟨⟨show givenC.Sites.length ≤ 140737488355328 by decide, fun y hy => Nat.le_trans (given_ok y hy) (by decide)⟩, Nat.le_trans a (by decide), Nat.le_trans b (by decide)⟩
  refine stB awake19 (stNTT (stVia (stB (x := givenC) rfl (stB n0 (stB rfl (stNT rfl ?_))))))
  unfold L_law19_EdgeForms_1
  rw [show (((⟨0, givenC, newsH, []⟩ : GEdge).Health.length : Int) != 3) = false by decide, w64 (n := 0 - d) (by omega) (by omega), w64 (n := (1 : Int) + d) (by omega) (by omega)]
  refine stFF (stB hcopy ?_)
  by_cases c0 : (IntKind.u64.wrap which).tmod 8 = 0
  · exact stET c0 (forms_2 ⟨0 - d, givenC, newsH, []⟩ (bd (by decide) (by decide)) (nh fun k => by have := k.id; dsimp only at this; omega) d hd.1 hd.2)
  refine stEF c0 ?_
  by_cases c1 : (IntKind.u64.wrap which).tmod 8 = 1
  · exact stET c1 (forms_2 ⟨1 + d, givenC, newsH, []⟩ (bd (by decide) (by decide)) (nh fun k => by have := k.id; dsimp only at this; omega) d hd.1 hd.2)
  refine stEF c1 ?_
  by_cases c2 : (IntKind.u64.wrap which).tmod 8 = 2
  · exact stET c2 (forms_2 ⟨0, ⟨0 - d, givenC.Sites⟩, newsH, []⟩ (bd (by decide) (by decide)) (nh fun k => by have := confOk_time k.conf; dsimp only at this; omega) d hd.1 hd.2)
  refine stEF c2 ?_
  by_cases c3 : (IntKind.u64.wrap which).tmod 8 = 3
  · exact stET c3 (stIf (by decide) (forms_2 ⟨0, givenC, [⟨true, 0⟩, ⟨true, 0⟩], []⟩ (bd (by decide) (by decide)) (nh fun k => absurd k.hs (by decide)) d hd.1 hd.2))
  refine stEF c3 ?_
  by_cases c4 : (IntKind.u64.wrap which).tmod 8 = 4
  · exact stET c4 (stIf (by decide) (forms_2 ⟨0, givenC, [⟨true, 0⟩, ⟨true, 3⟩, ⟨true, 0⟩], []⟩ (bd (by decide) (by decide)) (nh fun k => absurd k.hs (by decide)) d hd.1 hd.2))
  refine stEF c4 ?_
  by_cases c5 : (IntKind.u64.wrap which).tmod 8 = 5
  · exact stET c5 (forms_2 ⟨0, givenC, newsH, [⟨⟨0, 167772161, 17, 0, 0⟩, 0, true, 0, 0⟩]⟩ (bd (by decide) (by decide)) (nh fun k => by have := (k.pin _ (List.mem_singleton.2 rfl)).1; cases this) d hd.1 hd.2)
  refine stEF c5 ?_
  by_cases c6 : (IntKind.u64.wrap which).tmod 8 = 6
  · exact stET c6 (forms_2 ⟨0, givenC, newsH, [⟨⟨0, 167772161, 17, 0, 0⟩, 3, false, 0, 0⟩]⟩ (bd (by decide) (by decide)) (nh fun k => by have := (k.pin _ (List.mem_singleton.2 rfl)).2.2; dsimp only at this; omega) d hd.1 hd.2)
  · exact stEF c6 (forms_2 ⟨0, givenC, newsH, [⟨⟨0, 167772161, 17, 0, 0⟩, 0, false, 0, 0⟩, ⟨⟨0, 167772161, 17, 0, 0⟩, 0, false, 0, 0⟩]⟩ (bd (by decide) (by decide)) (nh fun k => absurd k.cache (by decide +kernel)) d hd.1 hd.2)
end Go.Proofs.YtmhlgpdoedbedaaGreat.Pu
