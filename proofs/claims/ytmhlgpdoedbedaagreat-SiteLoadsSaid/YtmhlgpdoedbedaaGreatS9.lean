/- Plain laws: SiteLoads. -/
import Derived.Test.YtmhlgpdoedbedaaGreatS8
namespace Go.Proofs.YtmhlgpdoedbedaaGreat.Pu
set_option linter.unusedSimpArgs false
set_option linter.unusedVariables false
open Go Go.RowKit Go.Proofs.YtmhlgpdoedbedaaGreat.Sv Go.Proofs.YtmhlgpdoedbedaaGreat.Lf
theorem backsL {f : GFlow} (hf : mayF f = true) : chosen (backs givenC 1 newsB) 1 f = (0, true) := by
  have hb : backs givenC 1 newsB = [⟨0, 1⟩] := by kernel_rfl
  have hs := chosen_spec (cs := [⟨0, 1⟩]) (by decide +kernel) hf 1 (by decide)
  rw [hb]
  have h2 : (chosen [⟨0, 1⟩] 1 f).2 = true := by
    cases q : (chosen [⟨0, 1⟩] 1 f).2 with
    | true => rfl
    | false => exact absurd (hs.2.2 q) (by simp)
  obtain ⟨c, c1, c2⟩ := hs.2.1 h2
  rw [List.mem_singleton] at c1
  rw [c1] at c2
  exact Prod.ext c2.symm h2
theorem awayL {n : GNode} {f : GFlow} (h : targN n 1 = []) (hok : NodeOk n) (hf : mayF f = true) : (awayN n 1 f).2 = false := by
  unfold awayN
  cases fullN n with
  | false => rfl
  | true =>
    rw [cond_true, h]
    have hs := chosen_spec (cs := []) (by decide +kernel) hf 2 (by decide)
    cases q : (chosen [] 2 f).2 with
    | false => rfl
    | true => obtain ⟨c, c1, _⟩ := hs.2.1 q; simp at c1
theorem pinL {is : List Nat} {sr : Int} (hok : NodeOk (nL is sr)) {i : Nat} (hi : i < 16) (h : ∀ j ∈ is, j < 16) : ∃ e, pinN (nL is sr) 1 (flowI i) false = (e, true) ∧ useE e 0 1 = entL i := by
  have hm : mayF (flowI i) = true := (say_ok i 0 ByteArray.empty).1
  unfold pinN
  cases q : (findE (nL is sr).Flows (flowI i) 1).2 with
  | true =>
    obtain ⟨m1, m2, _⟩ := find_mem q
    obtain ⟨j, j1, j2⟩ := List.mem_map.1 (show (findE (is.map entL) (flowI i) 1).1 ∈ is.map entL from m1)
    have hj : j = i := flowI_inj (h j j1) hi (by rw [← m2]; show _ = (findE (is.map entL) (flowI i) 1).1.Flow; rw [← j2]; rfl)
    subst hj
    rw [show (findE (nL is sr).Flows (flowI j) 1).1 = entL j from j2.symm]
    exact ⟨entL j, rfl, rfl⟩
  | false =>
    refine ⟨⟨flowI i, 0, false, 0, 0⟩, ?_, rfl⟩
    rw [Bool.false_and, cond_false]
    unfold newN
    rw [awayL rfl hok hm, show chosen (backs (nL is sr).Config (nL is sr).Id (nL is sr).Health) 1 (flowI i) = (0, true) from backsL hm]
    rfl
theorem stepL {is : List Nat} {sr : Int} (hok : NodeOk (nL is sr)) {i : Nat} (hi : i < 16) (h : ∀ j ∈ is, j < 16) (hl : is.length ≤ 6) (b : ByteArray) :
    ∃ g ev, L_site_Take 281474976710656 (nL is sr) 1 (pushI (toSite 1 (sayS i 0 b))) = some (nL (joined is i) sr, ⟨[g], ev⟩, 0) ∧ NodeOk (nL (joined is i) sr) := by
  obtain ⟨e, hp, hu⟩ := pinL hok hi h
  have hsz := say_size i 0 b
  have hmay : mayF (flowI i) = true := (say_ok i 0 b).1
  have hps := pushI_size (toSite 1 (sayS i 0 b))
  rw [show (toSite 1 (sayS i 0 b)).Body = sayS i 0 b from rfl] at hps
  have htk := takeN_sent (n := nL is sr) (now := 1) (o := toSite 1 (sayS i 0 b)) (pop_push (toSite_may (to := 1) (by decide) (by omega)) (by show (sayS i 0 b).size ≤ 324; omega)) rfl (by show (1 : Int) ≠ 4; decide) (inside_to 1 1 _) (say_of i 0 b) rfl hp
  have hbs : (headN 1 e (pushI (toSite 1 (sayS i 0 b))) (sayS i 0 b)).Body.size ≤ 324 := by
    unfold headN
    cases e.Away with
    | true => show (pushI _).size ≤ 324; omega
    | false => show (sayS i 0 b).size ≤ 324; omega
  rw [say_flags, show (nL is sr).Id = 1 from rfl, sentF_small hbs, hu] at htk
  dsimp only at htk
  rw [show (nL is sr).Flows = is.map entL from rfl, put_joined hi h hl] at htk
  have hok2 := takeN_ok hok (now := 1) (by decide) (pushI (toSite 1 (sayS i 0 b)))
  rw [htk] at hok2
  have hT := SiteTake_eq (okN_bd hok) 1 (pushI (toSite 1 (sayS i 0 b)))
  rw [if_pos ⟨(nodeOk_iff _).2 hok, by decide⟩, htk] at hT
  exact ⟨_, _, hT, hok2⟩
theorem loadL {is : List Nat} {sr : Int} : loadN (nL is sr) = (is.length : Int) := by
  unfold loadN
  show (((is.map entL).filter fun x => !x.Away).length : Int) = _
  rw [List.filter_eq_self.2 (by
    intro x hx
    obtain ⟨j, _, rfl⟩ := List.mem_map.1 hx
    rfl), List.length_map]
/-- The end. -/
theorem loads_end {is : List Nat} {x1 : Int} (hok : NodeOk (nL is (x1 % 65536))) (hn : is.Nodup) (h : ∀ j ∈ is, j < 16) (fuel : Nat) (hf : 17 ≤ fuel) :
    L_law20_SiteLoads_4 281474976710656 fuel x1 1 3 givenC.Sites newsB newV (is.map entL) (x1 % 65536) (marks is) 0 0 = some true := by
  have h4 := loads_4 x1 1 3 givenC.Sites newsB newV (is.map entL) (x1 % 65536) (marks is) (marks_len is) 16 fuel 0 0 (by omega) (by omega) (by omega)
  have hle := ((cacheOk_iff _).1 hok.cache).2.2
  rw [show ((0 : Nat) : Int) = 0 from rfl, List.drop_zero, countT_marks hn h, Nat.zero_add] at h4
  rw [h4, L_law20_SiteLoads_4]
  unfold L_law20_SiteLoads_6
  have r1 := SiteReport_eq (okN_bd hok)
  rw [if_pos ((nodeOk_iff _).2 hok)] at r1
  have hok1 : NodeOk (tellN (nL is (x1 % 65536))).1 := { hok with serial := by show 0 ≤ (x1 % 65536 + 1) % 65536 ∧ (x1 % 65536 + 1) % 65536 < 65536; omega }
  have r2 := SiteReport_eq (okN_bd hok1)
  rw [if_pos ((nodeOk_iff _).2 hok1)] at r2
  rw [show bAnd .i64 x1 65535 = x1 % 65536 from and_65535 x1, w64 (n := x1 % 65536 + 1) (by omega) (by omega), w64 (n := x1 % 65536 + 2) (by omega) (by omega)]
  refine stDF (by decide) (stB r1 (stB r2 (stB (x := 0) rfl (stET rfl (stB (x := 0) rfl (stET rfl (stVia ?_)))))))
  have hld : (tellN (nL is (x1 % 65536))).2.Load = (is.length : Int) := loadL
  rw [show (tellN (nL is (x1 % 65536))).2.Site = 1 from rfl, show (tellN (nL is (x1 % 65536))).2.Serial = x1 % 65536 from rfl, show (tellN (nL is (x1 % 65536))).2.Cap = 4 from rfl, hld]
  simp only [beq_self_eq_true, Bool.true_and]
  refine stTT (stVia (stET (by show (x1 % 65536 + 1) % 65536 = (x1 % 65536 + 1).tmod 65536; rw [Int.tmod_eq_emod_of_nonneg (by omega)]) (stVia (stET ?_ ?_))))
  · show ((x1 % 65536 + 1) % 65536 + 1) % 65536 = (x1 % 65536 + 2).tmod 65536
    rw [Int.tmod_eq_emod_of_nonneg (by omega)]
    omega
  · have hE : L_law0_SameEntrys 281474976710656 (is.map entL) (is.map entL) = some true := by
      unfold L_law0_SameEntrys
      exact stNT rfl (SameEntrys_loop _ _ (by show (is.map entL).length ≤ 100; have : (is.map entL).length ≤ 8 := hle; omega) (is.map entL).length _ 0 (by omega) (by have : (is.map entL).length ≤ 8 := hle; omega))
    exact stB hE rfl
theorem loads_1 (t0 : List Int) (x1 : Int) (ht : t0.length ≤ 140737488355328) : ∀ (d fuel k : Nat) (is : List Nat), 7 = k + d → d < fuel → NodeOk (nL is (x1 % 65536)) → is.Nodup → (∀ j ∈ is, j < 16) → is.length ≤ k →
    L_law20_SiteLoads_1 281474976710656 fuel t0 x1 1 3 givenC.Sites newsB newV (is.map entL) (x1 % 65536) (marks is) k = some true := by
  intro d
  induction d with
  | zero =>
    intro fuel k is hk hf hok hn h hl
    obtain ⟨fuel, rfl⟩ : ∃ f, fuel = f + 1 := ⟨fuel - 1, by omega⟩
    rw [L_law20_SiteLoads_1]
    unfold L_law20_SiteLoads_2
    by_cases c : (k : Int) < (t0.length : Int)
    · exact stDT c (stDF (by omega) (loads_end hok hn h _ (by decide)))
    · exact stDF c (stFF (loads_end hok hn h _ (by decide)))
  | succ d ih =>
    intro fuel k is hk hf hok hn h hl
    obtain ⟨fuel, rfl⟩ : ∃ f, fuel = f + 1 := ⟨fuel - 1, by omega⟩
    rw [L_law20_SiteLoads_1]
    unfold L_law20_SiteLoads_2
    by_cases c : (k : Int) < (t0.length : Int)
    · refine stDT c (stDT (by omega) (stIf (by omega) ?_))
      rw [Int.toNat_natCast, show bAnd .i64 (t0.getD k default) 15 = t0.getD k default % 16 from and_mask 4 (by decide) _]
      have hi0 : 0 ≤ t0.getD k default % 16 ∧ t0.getD k default % 16 < 16 := by omega
      obtain ⟨i, hi⟩ : ∃ i : Nat, t0.getD k default % 16 = (i : Int) := ⟨(t0.getD k default % 16).toNat, by omega⟩
      rw [hi] at hi0 ⊢
      have hi16 : i < 16 := by omega
      obtain ⟨g, ev, hT, hok2⟩ := stepL hok hi16 h (by omega) (ByteArray.mk #[108])
      have hsz := say_size i 0 (ByteArray.mk #[108])
      refine stB (Said20_eq i 0 (ByteArray.mk #[108])) (stB (Pushed20_eq (to := 1) (by decide) (by omega)) (stB hT (stB (x := 0) rfl (stNT rfl ?_))))
      unfold L_law20_SiteLoads_3
      refine stNT rfl ?_
      rw [Int.toNat_natCast, show bAnd .i64 (t0.getD k default) 15 = t0.getD k default % 16 from and_mask 4 (by decide) _, hi, Int.toNat_natCast, w64 (n := (k : Int) + 1) (by omega) (by omega), marks_set hi16]
      refine stIf (by omega) (stIf (by omega) (stIf (by rw [marks_len]; omega) ?_))
      have hj := @joined_len is i
      exact ih fuel (k + 1) (joined is i) (by omega) (by omega) hok2 (joined_nodup hn) (joined_sub hi16 h) (by omega)
    · exact stDF c (stFF (loads_end hok hn h _ (by decide)))
theorem SiteLoads (t0 : List Int) (x1 : Int) (ht : t0.length ≤ 140737488355328) : L_law20_SiteLoads 281474976710656 t0 x1 = some true := by
  have hn := SiteNew_eq (id := 1) (c := givenC) (by decide) given_ok
  rw [if_pos (show nodeOk ⟨1, givenC, newsB, newV, [], 0⟩ = true by decide +kernel)] at hn
  have h0 : NodeOk ⟨1, givenC, newsB, newV, [], 0⟩ := (nodeOk_iff _).1 (by decide +kernel)
  have hok : NodeOk (nL [] (x1 % 65536)) := { h0 with serial := by show 0 ≤ x1 % 65536 ∧ x1 % 65536 < 65536; omega }
  unfold L_law20_SiteLoads
  rw [show bAnd .i64 x1 65535 = x1 % 65536 from and_65535 x1]
  exact stB awake20 (stNTT (stB (x := givenC) rfl (stB hn (stB (x := 0) rfl (stNT rfl (loads_1 t0 x1 ht 7 281474976710656 0 [] (by omega) (by decide) hok (by simp) (by simp) (by simp)))))))
end Go.Proofs.YtmhlgpdoedbedaaGreat.Pu
