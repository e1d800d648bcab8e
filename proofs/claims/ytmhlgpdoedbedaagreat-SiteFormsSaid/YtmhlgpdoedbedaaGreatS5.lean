/- Plain laws: SiteForms. -/
import Derived.Test.YtmhlgpdoedbedaaGreatS4
namespace Go.Proofs.YtmhlgpdoedbedaaGreat.Pu
set_option linter.unusedSimpArgs false
set_option linter.unusedVariables false
open Go Go.RowKit Go.Proofs.YtmhlgpdoedbedaaGreat.Sv Go.Proofs.YtmhlgpdoedbedaaGreat.Lf
theorem site_forms_2 (b : GNode) (hb : BdN b) (h : nodeOk b = false) (d : Int) (h0 : 1 ≤ d) (h1 : d ≤ 1024) :
    L_law20_SiteForms_2 281474976710656 d nG.Id nG.Config.Version nG.Config.Sites nG.Health nG.Seen nG.Flows nG.Serial b.Id b.Config.Version b.Config.Sites b.Health b.Seen b.Flows b.Serial = some true := by
  have hs := Said20_eq 1 0 ByteArray.empty
  have hsz := say_size 1 0 ByteArray.empty
  generalize sayS 1 0 ByteArray.empty = s at *
  have hp := Pushed20_eq (to := 0) (by decide) (s := s) (by omega)
  have r1 := SiteTake_eq hb 0 (pushI (toSite 0 s))
  rw [h, if_neg (fun k => by cases k.1)] at r1
  have r2 := SiteReport_eq hb
  rw [h, if_neg (by decide)] at r2
  have hg : BdN nG := okN_bd nG_ok
  have r3 := SiteTake_eq hg (0 - d) ByteArray.empty
  rw [if_neg (fun k => by have := k.2; unfold timeOk at this; rw [decide_eq_true_eq] at this; omega)] at r3
  have n1 := SiteNew_eq (id := 0 - d) (c := givenC) (by decide) given_ok
  rw [if_neg (fun k => by have := ((nodeOk_iff _).1 k).id; dsimp only at this; omega)] at n1
  have m1 := NodeMay_eq (N := 281474976710656) (by decide) b hb
  rw [h] at m1
  have m2 := NodeMay_eq (N := 281474976710656) (by decide) nG hg
  rw [show nodeOk nG = true by decide +kernel] at m2
  have so : L_law0_SameOut 281474976710656 ⟨[], []⟩ ⟨[], []⟩ = some true := by kernel_rfl
  have se : L_law0_SameNode 281474976710656 zN ⟨0, ⟨0, []⟩, [], [], [], 0⟩ = some true := by kernel_rfl
  unfold L_law20_SiteForms_2 L_law20_SiteForms_3
  rw [w64 (n := 0 - d) (by omega) (by omega)]
  refine stB hs (stB hp (stB r1 (stB r2 (stB r3 (stB (x := givenC) rfl (stB n1 (stB m1 (stNFF (stB m2 (stTT (stB se (stTT (stB so (stTT (stB rfl (stET rfl ?_))))))))))))))))
  refine stVia (stTT ?_)
  refine stB rfl (stET rfl (stB rfl (stET rfl (stB rfl ?_))))
  rfl
theorem SiteForms (which x : Int) : L_law20_SiteForms 281474976710656 which x = some true := by
  have hd : 1 ≤ 1 + x % 1024 ∧ 1 + x % 1024 ≤ 1024 := by omega
  unfold L_law20_SiteForms
  rw [and_1023, w64 (n := (1 : Int) + x % 1024) (by omega) (by omega)]
  generalize 1 + x % 1024 = d at *
  have hcopy : L_law0_CopyNode 281474976710656 nG = some nG := by kernel_rfl
  have nh : ∀ {b : GNode}, ¬ NodeOk b → nodeOk b = false := fun {b} h => by rw [← Bool.not_eq_true, nodeOk_iff]; exact h
  have bd : ∀ {i v sr : Int} {hs : List GHealth} {vs : List GSeen} {fl : List GEntry}, hs.length ≤ 100 → vs.length ≤ 100 → fl.length ≤ 100 → BdN ⟨i, ⟨v, givenC.Sites⟩, hs, vs, fl, sr⟩ := fun {i v sr hs vs fl} a b c =>
    ⟨⟨show givenC.Sites.length ≤ 140737488355328 by decide, fun y hy => Nat.le_trans (given_ok y hy) (by decide)⟩, Nat.le_trans a (by decide), Nat.le_trans b (by decide), Nat.le_trans c (by decide)⟩
  refine stB awake20 (stNTT (stVia (stB (x := givenC) rfl (stB newG (stB rfl (stNT rfl (stNT rfl ?_)))))))
  unfold L_law20_SiteForms_1
  rw [show ((nG.Seen.length : Int) != 3) = false by decide, w64 (n := 0 - d) (by omega) (by omega), w64 (n := (2 : Int) + d) (by omega) (by omega), w64 (n := (-1 : Int) - d) (by omega) (by omega), w64 (n := (65535 : Int) + d) (by omega) (by omega)]
  refine stFF (stB hcopy ?_)
  have go := fun (b : GNode) (hb : BdN b) (h : nodeOk b = false) => site_forms_2 b hb h d hd.1 hd.2
  by_cases c0 : (IntKind.u64.wrap which).tmod 10 = 0
  · exact stET c0 (go ⟨0 - d, givenC, newsB, newV, [], 0⟩ (bd (by decide) (by decide) (by decide)) (nh fun k => by have := k.id; dsimp only at this; omega))
  refine stEF c0 ?_
  by_cases c1 : (IntKind.u64.wrap which).tmod 10 = 1
  · exact stET c1 (go ⟨2 + d, givenC, newsB, newV, [], 0⟩ (bd (by decide) (by decide) (by decide)) (nh fun k => by have := k.id; dsimp only at this; omega))
  refine stEF c1 ?_
  by_cases c2 : (IntKind.u64.wrap which).tmod 10 = 2
  · exact stET c2 (go ⟨0, ⟨0 - d, givenC.Sites⟩, newsB, newV, [], 0⟩ (bd (by decide) (by decide) (by decide)) (nh fun k => by have := confOk_time k.conf; dsimp only at this; omega))
  refine stEF c2 ?_
  by_cases c3 : (IntKind.u64.wrap which).tmod 10 = 3
  · exact stET c3 (stIf (by decide) (go ⟨0, givenC, [⟨true, 0⟩, ⟨true, 0⟩, ⟨true, 0⟩], newV, [], 0⟩ (bd (by decide) (by decide) (by decide)) (nh fun k => absurd k.hs (by decide))))
  refine stEF c3 ?_
  by_cases c4 : (IntKind.u64.wrap which).tmod 10 = 4
  · exact stET c4 (stIf (by decide) (go ⟨0, givenC, newsB, [⟨zR, -1 - d⟩, ⟨zR, -1⟩, ⟨zR, -1⟩], [], 0⟩ (bd (by decide) (show 3 ≤ 100 by decide) (by decide)) (nh fun k => by
      have := viewOk_at k.view (i := 0) (by decide)
      unfold seenOk timeOk at this
      simp at this
      omega)))
  refine stEF c4 ?_
  by_cases c5 : (IntKind.u64.wrap which).tmod 10 = 5
  · exact stET c5 (go ⟨0, givenC, newsB, newV, [⟨⟨0, 167772161, 17, 0, 0⟩, 0, true, 0, 0⟩], 0⟩ (bd (by decide) (by decide) (by decide)) (by decide +kernel))
  refine stEF c5 ?_
  by_cases c6 : (IntKind.u64.wrap which).tmod 10 = 6
  · exact stET c6 (go ⟨0, givenC, newsB, newV, [⟨⟨0, 167772161, 17, 0, 0⟩, 3, true, 0, 0⟩], 0⟩ (bd (by decide) (by decide) (by decide)) (by decide +kernel))
  refine stEF c6 ?_
  by_cases c7 : (IntKind.u64.wrap which).tmod 10 = 7
  · exact stET c7 (go ⟨0, givenC, newsB, newV, [⟨⟨0, 167772161, 17, 0, 0⟩, 4, false, 0, 0⟩], 0⟩ (bd (by decide) (by decide) (by decide)) (by decide +kernel))
  refine stEF c7 ?_
  by_cases c8 : (IntKind.u64.wrap which).tmod 10 = 8
  · exact stET c8 (go ⟨0, givenC, newsB, newV, [], 0 - d⟩ (bd (by decide) (by decide) (by decide)) (nh fun k => by have := k.serial; dsimp only at this; omega))
  · exact stEF c8 (go ⟨0, givenC, newsB, newV, [], 65535 + d⟩ (bd (by decide) (by decide) (by decide)) (nh fun k => by have := k.serial; dsimp only at this; omega))
end Go.Proofs.YtmhlgpdoedbedaaGreat.Pu
