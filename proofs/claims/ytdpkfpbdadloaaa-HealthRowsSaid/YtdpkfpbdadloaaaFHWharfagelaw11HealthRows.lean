-- printed by a program of this session (myprint.py) out of the translation
import Derived.Test.YtdpkfpbdadloaaaFH0
import Derived.Test.YtdpkfpbdadloaaaFHHealthProbe
import Derived.Test.YtdpkfpbdadloaaaFHWharfagelaw0Num
import Derived.Test.YtdpkfpbdadloaaaFHHealthNew
import Derived.Test.YtdpkfpbdadloaaaFHWharfagelaw11Awake
namespace Go.Proofs.Ytdpkfpbdadloaaa.PH
open Go.RowKit Go.Proofs.YtdpkfpbdadloaaaW.PrintWords Go.Proofs.YtdpkfpbdadloaaaW.PrintLast Go.Proofs.YtdpkfpbdadloaaaW.PrintMore
attribute [local go_sem] max2_int min2_int max_two min_two max_three min_three max_four min_four   -- for this text's walks alone
set_option linter.unusedVariables false
set_option linter.unusedSimpArgs false

/-! ### wharfagelaw11_HealthRows: function 5 -/
mutual
def wharfagelaw11_HealthRows.l0 : Nat → List Int → Bool → Int → Int → Bool → Int → Option (Bool)
  | 0, _, _, _, _, _, _ => none
  | k + 1, x0, x4, x5, x6, x164000, x164001 => if x6 < (x0.length : Int) then (wharfagelaw11_HealthRows.j1 k x0 x4 x5 x6 (decide (x6 < 40)) x164000 x164001) else (wharfagelaw11_HealthRows.j1 k x0 x4 x5 x6 false x164000 x164001)
def wharfagelaw11_HealthRows.j1 : Nat → List Int → Bool → Int → Int → Bool → Bool → Int → Option (Bool)
  | 0, _, _, _, _, _, _, _ => none
  | k + 1, x0, x4, x5, x6, x20, x164000, x164001 => if x20 = true then (if 0 ≤ x6 then (if x6 < (x0.length : Int) then ((health_Probe.f x164000 x164001 ((Go.bits .and .i64 (rd x0 x6) 1) == 1)).bind fun bt165 => ((wharfagelaw0_Num.f bt165.2.2).bind fun t169 => (if t169 = 0 then (if (((Go.bits .and .i64 (rd x0 x6) 1) == 1) == x4) = true then (if 0 = 3 then (if (bt165.1 != (!x4)) = true then (none) else (if bt165.2.1 = 0 then (wharfagelaw11_HealthRows.l0 k x0 (!x4) 0 (wrap64 (x6 + 1)) bt165.1 bt165.2.1) else (none))) else (if (bt165.1 != x4) = true then (none) else (if bt165.2.1 = 0 then (wharfagelaw11_HealthRows.l0 k x0 x4 0 (wrap64 (x6 + 1)) bt165.1 bt165.2.1) else (none)))) else (if (wrap64 (x5 + 1)) = 3 then (if (bt165.1 != (!x4)) = true then (none) else (if bt165.2.1 = 0 then (wharfagelaw11_HealthRows.l0 k x0 (!x4) 0 (wrap64 (x6 + 1)) bt165.1 bt165.2.1) else (none))) else (if (bt165.1 != x4) = true then (none) else (if bt165.2.1 = (wrap64 (x5 + 1)) then (wharfagelaw11_HealthRows.l0 k x0 x4 (wrap64 (x5 + 1)) (wrap64 (x6 + 1)) bt165.1 bt165.2.1) else (none))))) else (none)))) else (none)) else (none)) else (some true)
end
def wharfagelaw11_HealthRows.f (k : Nat) (l0 : List Int) : Option (Bool) := (wharfagelaw11_awake.f).bind fun t160 => (if t160 = true then ((health_New.f).bind fun bt161 => (wharfagelaw11_HealthRows.l0 k l0 true 0 0 bt161.1 bt161.2)) else (none))
theorem wharfagelaw11_HealthRows.mono_l : ∀ k, (∀ y0 y1 y2 y3 y4 y5, LeO (wharfagelaw11_HealthRows.l0 k y0 y1 y2 y3 y4 y5) (wharfagelaw11_HealthRows.l0 (k + 1) y0 y1 y2 y3 y4 y5)) ∧ (∀ y0 y1 y2 y3 y4 y5 y6, LeO (wharfagelaw11_HealthRows.j1 k y0 y1 y2 y3 y4 y5 y6) (wharfagelaw11_HealthRows.j1 (k + 1) y0 y1 y2 y3 y4 y5 y6))
  | 0 => ⟨fun _ _ _ _ _ _ r h => by simp [wharfagelaw11_HealthRows.l0] at h, fun _ _ _ _ _ _ _ r h => by simp [wharfagelaw11_HealthRows.j1] at h⟩
  | k + 1 => by
    obtain ⟨ih0, ih1⟩ := wharfagelaw11_HealthRows.mono_l k
    refine ⟨?_, ?_⟩
    · intro y0 y1 y2 y3 y4 y5
      unfold wharfagelaw11_HealthRows.l0
      repeat' first
      | (with_reducible exact ih0 _ _ _ _ _ _)
      | (with_reducible exact ih1 _ _ _ _ _ _ _)
      | (with_reducible exact LeO.refl _)
      | (with_reducible exact LeO.none _)
      | (with_reducible refine LeO.ite ?_ ?_)
      | (with_reducible refine LeO.bind ?_ (fun _ => ?_))
      | exact ih0 _ _ _ _ _ _
      | exact ih1 _ _ _ _ _ _ _
      | exact LeO.none _
      | refine LeO.ite ?_ ?_
      | refine LeO.bind ?_ (fun _ => ?_)
    · intro y0 y1 y2 y3 y4 y5 y6
      unfold wharfagelaw11_HealthRows.j1
      repeat' first
      | (with_reducible exact ih0 _ _ _ _ _ _)
      | (with_reducible exact ih1 _ _ _ _ _ _ _)
      | (with_reducible exact LeO.refl _)
      | (with_reducible exact LeO.none _)
      | (with_reducible refine LeO.ite ?_ ?_)
      | (with_reducible refine LeO.bind ?_ (fun _ => ?_))
      | exact ih0 _ _ _ _ _ _
      | exact ih1 _ _ _ _ _ _ _
      | exact LeO.none _
      | refine LeO.ite ?_ ?_
      | refine LeO.bind ?_ (fun _ => ?_)
theorem wharfagelaw11_HealthRows.mono : ∀ a0 k, LeO (wharfagelaw11_HealthRows.f k a0) (wharfagelaw11_HealthRows.f (k + 1) a0) := by
  intro a0 k
  obtain ⟨ih0, ih1⟩ := wharfagelaw11_HealthRows.mono_l k
  unfold wharfagelaw11_HealthRows.f
  repeat' first
      | (with_reducible exact ih0 _ _ _ _ _ _)
      | (with_reducible exact ih1 _ _ _ _ _ _ _)
      | (with_reducible exact LeO.refl _)
      | (with_reducible exact LeO.none _)
      | (with_reducible refine LeO.ite ?_ ?_)
      | (with_reducible refine LeO.bind ?_ (fun _ => ?_))
      | exact ih0 _ _ _ _ _ _
      | exact ih1 _ _ _ _ _ _ _
      | exact LeO.none _
      | refine LeO.ite ?_ ?_
      | refine LeO.bind ?_ (fun _ => ?_)
set_option maxHeartbeats 8000000 in
set_option maxRecDepth 100000 in
theorem wharfagelaw11_HealthRows.calls (k : Nat) (A0 : Option Addr) (c0 : Nat) (l0 : List Int) (r : Bool) (w : World) (hr0 : Kd.C (Kd.int .i64) w A0 l0.length l0) (hc0 : l0.length ≤ c0) (h : wharfagelaw11_HealthRows.f k l0 = some r) :
    Calls Try.prog 5 #[.slice A0 l0.length c0] w fun e w' => e = .returned (.bool r) ∧ Below w.heap.size w w' := by
  have hu24 := Try.underlying24
  have HR0 := Aside0.mk hr0
  have HC0 := Aside0.mk hc0
  clear hr0 hc0
  have HB := Aside0.mk (Below.refl w.heap.size w)
  have H : ((wharfagelaw11_awake.f).bind fun t160 => (if t160 = true then ((health_New.f).bind fun bt161 => (wharfagelaw11_HealthRows.l0 k l0 true 0 0 bt161.1 bt161.2)) else (none))) = some r := h
  clear h
  replace H := Option.bind_eq_some_iff.mp H
  obtain ⟨t160, A20, H⟩ := H
  replace H : (if t160 = true then ((health_New.f).bind fun bt161 => (wharfagelaw11_HealthRows.l0 k l0 true 0 0 bt161.1 bt161.2)) else (none)) = some r := H
  have A2 := Aside0.mk A20
  clear A20
  by_cases c3 : t160 = true
  · subst c3
    have H1 : ((health_New.f).bind fun bt161 => (wharfagelaw11_HealthRows.l0 k l0 true 0 0 bt161.1 bt161.2)) = some r := by rw [if_pos rfl] at H; exact H
    clear H
    have H := H1
    clear H1
    replace H := Option.bind_eq_some_iff.mp H
    obtain ⟨⟨t161, t162⟩, A40, H⟩ := H
    replace H : (wharfagelaw11_HealthRows.l0 k l0 true 0 0 t161 t162) = some r := H
    have A4 := Aside0.mk A40
    clear A40
    have H' := Aside0.mk H
    clear H
    go_enter Try.func5, Try.ntmps5
    go_wp2_with (first | ((with_reducible refine gate_callee (f := 32) rfl ?_); refine goesL_ (some 10) rfl rfl Try.func32 (by kernel_rfl) rfl #[] rfl (by (try simp only [List.map_toArray, List.map_cons, List.map_nil]); first | done | rfl | (simp only [List.length_drop, List.length_take]; rfl)) ?_; (with_reducible refine (wharfagelaw11_awake.calls  true _ A2.out).mono ?_); rintro e w5 ⟨rfl, hb⟩; refine ⟨_, rfl, ?_⟩; have n0_ := Aside0.mk (below_step (by repeat (first | (with_reducible first | exact HB.out | apply below_alloc | apply pw_below_drewN | apply below_drew1) | exact HB.out)) hb); clear HB; have HB := n0_; clear n0_; (try clear hb); (try clear hb2); (try clear hk); (try clear hi)) | ((with_reducible refine gate_callee (f := 31) rfl ?_); refine goesL_ (some 12) rfl rfl Try.func31 (by kernel_rfl) rfl #[] rfl (by (try simp only [List.map_toArray, List.map_cons, List.map_nil]); first | done | rfl | (simp only [List.length_drop, List.length_take]; rfl)) ?_; (with_reducible refine (health_New.calls  t161 t162 _ A4.out).mono ?_); rintro e w6 ⟨rfl, hb⟩; refine ⟨_, rfl, ?_⟩; have n0_ := Aside0.mk (below_step (by repeat (first | (with_reducible first | exact HB.out | apply below_alloc | apply pw_below_drewN | apply below_drew1) | exact HB.out)) hb); clear HB; have HB := n0_; clear n0_; (try clear hb); (try clear hb2); (try clear hk); (try clear hi)) | ((with_reducible refine gate_dst (N := 3) rfl ?_); refine box_event ?hg (N := 3) ?hd (cs := #[.bool false, .int .i64 0]) (t := 24) ?hr ?_; (case hd => rfl); (case hg => rfl); (case hr => first | (go_simp; done) | (go_simp; rfl)); intro gb163 hg w7 hbox hb; have n0_ := Aside0.mk (below_step (by repeat (first | (with_reducible first | exact HB.out | apply below_alloc | apply pw_below_drewN | apply below_drew1) | exact HB.out)) hb); have n1_ := Aside0.mk (hbox); have n2_ := Aside0.mk ((by rw [hg]; exact (below_size (by repeat (first | (with_reducible first | exact HB.out | apply below_alloc | apply pw_below_drewN | apply below_drew1) | exact HB.out))) : w.heap.size ≤ gb163)); have n3_ := Aside0.mk ((by rw [hg]; exact (below_size (by repeat (first | (with_reducible first | exact HB.out | apply below_alloc | apply pw_below_drewN | apply below_drew1) | exact HB.out))) : w.heap.size ≤ gb163)); clear HB; have HB := n0_; have BK163 := n1_; have GW163 := n2_; have GE163 := n3_; clear n0_ n1_ n2_ n3_; clear hb hbox hg; have hcz8_0 : w7.cell? ⟨gb163, 0, none⟩ = some (.bool false) := (blk_cell BK163.out 0).trans rfl; have hcz8_1 : w7.cell? ⟨gb163, 1, none⟩ = some (.int .i64 0) := (blk_cell BK163.out 1).trans rfl; have hfz8_0 := blk_frozen BK163.out 0; have hfz8_1 := blk_frozen BK163.out 1))
    go_loopg [4, 5, 6] k (fun kq v4 v5 v6 w' => ∃ (x4_1 : Bool) (x5_1 : Int) (x6_1 : Int) (x164000_1 : Bool) (x164001_1 : Int), v4 = .bool x4_1 ∧ v5 = .int .i64 x5_1 ∧ v6 = .int .i64 x6_1 ∧ Aside0 (wharfagelaw11_HealthRows.l0 kq l0 x4_1 x5_1 x6_1 x164000_1 x164001_1 = some r) ∧ Aside0 (kq ≤ k) ∧ Aside0 (w'.heap[gb163]? = some (.cells #[.bool x164000_1, .int .i64 x164001_1] 24 (0, 0))) ∧ Aside0 (Below w.heap.size w w'))
    case atStart => exact ⟨(true), (0), (0), (t161), (t162), (by first | rfl | (simp; done) | (simp [*]; done)), (by first | rfl | (simp; done) | (simp [*]; done)), (by first | rfl | (simp; done) | (simp [*]; done)), H', ⟨Nat.le_refl _⟩, ⟨by (with_reducible repeat (first | refine blk_drewN ?_ _ | refine blk_drew ?_ | refine blk_alloc ?_ _)); refine blk_put (cs := #[.bool t161, .int .i64 0]) ?_ 1 _ (by first | rfl | (simp [*]; done)); (with_reducible repeat (first | refine blk_drewN ?_ _ | refine blk_drew ?_ | refine blk_alloc ?_ _)); refine blk_put (cs := #[.bool false, .int .i64 0]) ?_ 0 _ (by first | rfl | (simp [*]; done)); (with_reducible repeat (first | refine blk_drewN ?_ _ | refine blk_drew ?_ | refine blk_alloc ?_ _)); exact BK163.out⟩, ⟨by repeat (first | (with_reducible first | exact HB.out | apply below_alloc | apply pw_below_drewN | apply below_drew1 | refine below_set ?_ GE163.out) | exact HB.out)⟩⟩
    case round =>
      clear H'
      try clear p2
      try clear c3
      try clear c5
      try clear hcz8_0
      try clear hcz8_1
      try clear hfz8_0
      try clear hfz8_1
      obtain ⟨x4_1, x5_1, x6_1, x164000_1, x164001_1, rfl, rfl, rfl, HA, HK1, BK163, HB⟩ := hrel
      cases gk with
      | zero => exact absurd HA.out (by simp [wharfagelaw11_HealthRows.l0])
      | succ k1 =>
        have H := HA.out
        clear HA
        simp only [wharfagelaw11_HealthRows.l0] at H
        have HC9 := Aside0.mk H
        clear H
        go_upto_region 7 with (fail)
        go_cut [20] (fun v20 wc => ∃ (kq : Nat) (x20_8 : Bool), v20 = .bool x20_8 ∧ Aside0 (wharfagelaw11_HealthRows.j1 kq l0 x4_1 x5_1 x6_1 x20_8 x164000_1 x164001_1 = some r) ∧ Aside0 (kq ≤ k1) ∧ Aside0 (wc.heap[gb163]? = some (.cells #[.bool x164000_1, .int .i64 x164001_1] 24 (0, 0))) ∧ Aside0 (Below w.heap.size w wc))
        case first =>
          have H := HC9.out
          clear HC9
          by_cases c10 : x6_1 < (l0.length : Int)
          · rw [if_pos c10] at H
            have c10b0 : decide (x6_1 < (l0.length : Int)) = true := decide_eq_true c10
            clear c10
            (first | rw [c10b0] | (simp only [i64_w, i32_w]; rw [c10b0]) | skip)
            have H' := Aside0.mk H
            clear H
            go_wp2
            go_meet
            case rel => exact ⟨_, (decide (x6_1 < 40)), (by first | rfl | (simp; done) | (simp [*]; done)), H', ⟨by have := HK1.out; first | omega | exact Nat.le_refl _⟩, ⟨by (with_reducible repeat (first | refine blk_drewN ?_ _ | refine blk_drew ?_ | refine blk_alloc ?_ _)); exact BK163.out⟩, ⟨by repeat (first | (with_reducible first | exact HB.out | apply below_alloc | apply pw_below_drewN | apply below_drew1 | refine below_set ?_ GE163.out) | exact HB.out)⟩⟩
          · rw [if_neg c10] at H
            have c10b0 : decide (x6_1 < (l0.length : Int)) = false := decide_eq_false c10
            clear c10
            (first | rw [c10b0] | (simp only [i64_w, i32_w]; rw [c10b0]) | skip)
            have H' := Aside0.mk H
            clear H
            go_wp2
            go_meet
            case rel => exact ⟨_, (false), (by first | rfl | (simp; done) | (simp [*]; done)), H', ⟨by have := HK1.out; first | omega | exact Nat.le_refl _⟩, ⟨by (with_reducible repeat (first | refine blk_drewN ?_ _ | refine blk_drew ?_ | refine blk_alloc ?_ _)); exact BK163.out⟩, ⟨by repeat (first | (with_reducible first | exact HB.out | apply below_alloc | apply pw_below_drewN | apply below_drew1 | refine below_set ?_ GE163.out) | exact HB.out)⟩⟩
        case rest =>
          clear HC9
          try clear c1
          try clear p2
          try clear c3
          try clear c5
          try clear c10
          try clear c10b0
          try clear hcz8_0
          try clear hcz8_1
          try clear hfz8_0
          try clear hfz8_1
          try clear p2
          obtain ⟨kq, x20_8, rfl, HA, HJ8, BK163, HB⟩ := hcut
          cases kq with
          | zero => exact absurd HA.out (by simp [wharfagelaw11_HealthRows.j1])
          | succ kj8 =>
            have H := HA.out
            clear HA
            simp only [wharfagelaw11_HealthRows.j1] at H
            by_cases c11 : x20_8 = true
            · subst c11
              have H1 : (if 0 ≤ x6_1 then (if x6_1 < (l0.length : Int) then ((health_Probe.f x164000_1 x164001_1 ((Go.bits .and .i64 (rd l0 x6_1) 1) == 1)).bind fun bt165 => ((wharfagelaw0_Num.f bt165.2.2).bind fun t169 => (if t169 = 0 then (if (((Go.bits .and .i64 (rd l0 x6_1) 1) == 1) == x4_1) = true then (if 0 = 3 then (if (bt165.1 != (!x4_1)) = true then (none) else (if bt165.2.1 = 0 then (wharfagelaw11_HealthRows.l0 kj8 l0 (!x4_1) 0 (wrap64 (x6_1 + 1)) bt165.1 bt165.2.1) else (none))) else (if (bt165.1 != x4_1) = true then (none) else (if bt165.2.1 = 0 then (wharfagelaw11_HealthRows.l0 kj8 l0 x4_1 0 (wrap64 (x6_1 + 1)) bt165.1 bt165.2.1) else (none)))) else (if (wrap64 (x5_1 + 1)) = 3 then (if (bt165.1 != (!x4_1)) = true then (none) else (if bt165.2.1 = 0 then (wharfagelaw11_HealthRows.l0 kj8 l0 (!x4_1) 0 (wrap64 (x6_1 + 1)) bt165.1 bt165.2.1) else (none))) else (if (bt165.1 != x4_1) = true then (none) else (if bt165.2.1 = (wrap64 (x5_1 + 1)) then (wharfagelaw11_HealthRows.l0 kj8 l0 x4_1 (wrap64 (x5_1 + 1)) (wrap64 (x6_1 + 1)) bt165.1 bt165.2.1) else (none))))) else (none)))) else (none)) else (none)) = some r := by rw [if_pos rfl] at H; exact H
              clear H
              have H := H1
              clear H1
              by_cases c12 : 0 ≤ x6_1
              · rw [if_pos c12] at H
                have c12b0 : decide (0 ≤ x6_1) = true := decide_eq_true c12
                clear c12
                by_cases c13 : x6_1 < (l0.length : Int)
                · rw [if_pos c13] at H
                  have c13b0 : decide (x6_1 < (l0.length : Int)) = true := decide_eq_true c13
                  clear c13
                  replace H := Option.bind_eq_some_iff.mp H
                  obtain ⟨⟨t165, t166, t167⟩, A140, H⟩ := H
                  replace H : ((wharfagelaw0_Num.f t167).bind fun t169 => (if t169 = 0 then (if (((Go.bits .and .i64 (rd l0 x6_1) 1) == 1) == x4_1) = true then (if 0 = 3 then (if (t165 != (!x4_1)) = true then (none) else (if t166 = 0 then (wharfagelaw11_HealthRows.l0 kj8 l0 (!x4_1) 0 (wrap64 (x6_1 + 1)) t165 t166) else (none))) else (if (t165 != x4_1) = true then (none) else (if t166 = 0 then (wharfagelaw11_HealthRows.l0 kj8 l0 x4_1 0 (wrap64 (x6_1 + 1)) t165 t166) else (none)))) else (if (wrap64 (x5_1 + 1)) = 3 then (if (t165 != (!x4_1)) = true then (none) else (if t166 = 0 then (wharfagelaw11_HealthRows.l0 kj8 l0 (!x4_1) 0 (wrap64 (x6_1 + 1)) t165 t166) else (none))) else (if (t165 != x4_1) = true then (none) else (if t166 = (wrap64 (x5_1 + 1)) then (wharfagelaw11_HealthRows.l0 kj8 l0 x4_1 (wrap64 (x5_1 + 1)) (wrap64 (x6_1 + 1)) t165 t166) else (none))))) else (none))) = some r := H
                  have A14 := Aside0.mk A140
                  clear A140
                  replace H := Option.bind_eq_some_iff.mp H
                  obtain ⟨t169, A150, H⟩ := H
                  replace H : (if t169 = 0 then (if (((Go.bits .and .i64 (rd l0 x6_1) 1) == 1) == x4_1) = true then (if 0 = 3 then (if (t165 != (!x4_1)) = true then (none) else (if t166 = 0 then (wharfagelaw11_HealthRows.l0 kj8 l0 (!x4_1) 0 (wrap64 (x6_1 + 1)) t165 t166) else (none))) else (if (t165 != x4_1) = true then (none) else (if t166 = 0 then (wharfagelaw11_HealthRows.l0 kj8 l0 x4_1 0 (wrap64 (x6_1 + 1)) t165 t166) else (none)))) else (if (wrap64 (x5_1 + 1)) = 3 then (if (t165 != (!x4_1)) = true then (none) else (if t166 = 0 then (wharfagelaw11_HealthRows.l0 kj8 l0 (!x4_1) 0 (wrap64 (x6_1 + 1)) t165 t166) else (none))) else (if (t165 != x4_1) = true then (none) else (if t166 = (wrap64 (x5_1 + 1)) then (wharfagelaw11_HealthRows.l0 kj8 l0 x4_1 (wrap64 (x5_1 + 1)) (wrap64 (x6_1 + 1)) t165 t166) else (none))))) else (none)) = some r := H
                  have A15 := Aside0.mk A150
                  clear A150
                  by_cases c16 : t169 = 0
                  · rw [if_pos c16] at H
                    have c16b0 : (t169 == 0) = true := beq_iff_eq.mpr c16
                    have c16b1 : (t169 != 0) = false := bne_eq_false_iff_eq.mpr c16
                    clear c16
                    by_cases c17 : (((Go.bits .and .i64 (rd l0 x6_1) 1) == 1) == x4_1) = true
                    · rw [if_pos c17] at H
                      have c17b0 : (((Go.bits .and .i64 (rd l0 x6_1) 1) == 1) == x4_1) = true := c17
                      (try (have c17b1 : decide (((Go.bits .and .i64 (rd l0 x6_1) 1) == 1) = x4_1) = true := by simpa using c17))
                      (try (have c17b2 : (((Go.bits .and .i64 (rd l0 x6_1) 1) == 1) == x4_1) = true := by simpa using c17))
                      clear c17
                      by_cases c18 : 0 = 3
                      · exact absurd c18 (by decide)
                      · rw [if_neg c18] at H
                        have c18b0 : (0 == 3) = false := beq_eq_false_iff_ne.mpr c18
                        have c18b1 : (0 != 3) = true := bne_iff_ne.mpr c18
                        by_cases c27 : (t165 != x4_1) = true
                        · rw [if_pos c27] at H
                          exact absurd H (by simp)
                        · rw [if_neg c27] at H
                          have c27b0 : (t165 != x4_1) = false := by simpa using c27
                          (try (have c27b1 : decide (t165 = x4_1) = true := by simpa using c27))
                          (try (have c27b2 : (t165 == x4_1) = true := by simpa using c27))
                          clear c27
                          by_cases c28 : t166 = 0
                          · rw [if_pos c28] at H
                            have c28b0 : (t166 == 0) = true := beq_iff_eq.mpr c28
                            have c28b1 : (t166 != 0) = false := bne_eq_false_iff_eq.mpr c28
                            clear c28
                            have H' := Aside0.mk H
                            clear H
                            have p164 : 0 ≤ (x6_1 : Int) := of_decide_eq_true (by first | (with_reducible assumption) | assumption)
                            have q164 : x6_1 < (l0.length : Int) := of_decide_eq_true (by first | (with_reducible assumption) | assumption)
                            obtain ⟨ad164, e164, hx164_0⟩ := Kd.at_int HR0.out x6_1 p164 q164
                            cases e164
                            replace hx164_0 := (HB.out.cell (World.block_lt_of_cell? w _ hx164_0)).trans hx164_0
                            replace p164 := eq_true p164
                            replace q164 := eq_true q164
                            have hcz29_0 : wc.cell? ⟨gb163, 0, none⟩ = some (.bool x164000_1) := (blk_cell BK163.out 0).trans rfl
                            have hcz29_1 : wc.cell? ⟨gb163, 1, none⟩ = some (.int .i64 x164001_1) := (blk_cell BK163.out 1).trans rfl
                            have hfz29_0 := blk_frozen BK163.out 0
                            have hfz29_1 := blk_frozen BK163.out 1
                            go_wp2_with (first | ((with_reducible refine gate_callee (f := 26) rfl ?_); refine goesL_ (some 32) rfl rfl Try.func26 (by kernel_rfl) rfl #[.agg #[.bool x164000_1, .int .i64 x164001_1], .bool ((Go.bits .and .i64 (rd l0 x6_1) 1) == 1)] rfl (by (try simp only [List.map_toArray, List.map_cons, List.map_nil]); first | done | rfl | (simp only [List.length_drop, List.length_take]; rfl)) ?_; (with_reducible refine (health_Probe.calls x164000_1 x164001_1 ((Go.bits .and .i64 (rd l0 x6_1) 1) == 1) t165 t166 t167 _ A14.out).mono ?_); rintro e w30 ⟨rfl, hb⟩; refine ⟨_, rfl, ?_⟩; have n0_ := Aside0.mk (blk_below (g := gb163) (o := .cells #[.bool x164000_1, .int .i64 x164001_1] 24 (0, 0)) (by (with_reducible repeat (first | refine blk_drewN ?_ _ | refine blk_drew ?_ | refine blk_alloc ?_ _)); exact BK163.out) hb); have n1_ := Aside0.mk (below_step (by repeat (first | (with_reducible first | exact HB.out | apply below_alloc | apply pw_below_drewN | apply below_drew1 | refine below_set ?_ GE163.out) | exact HB.out)) hb); clear BK163; clear HB; have BK163 := n0_; have HB := n1_; clear n0_ n1_; (try clear hb); (try clear hb2); (try clear hk); (try clear hi)) | ((with_reducible refine gate_dst (N := 8) rfl ?_); refine box_event ?hg (N := 8) ?hd (cs := #[.bool false, .int .i64 0]) (t := 24) ?hr ?_; (case hd => rfl); (case hg => rfl); (case hr => first | (go_simp; done) | (go_simp; rfl)); intro gb168 hg w31 hbox hb; have n0_ := Aside0.mk (blk_below (g := gb163) (o := .cells #[.bool x164000_1, .int .i64 x164001_1] 24 (0, 0)) (by (with_reducible repeat (first | refine blk_drewN ?_ _ | refine blk_drew ?_ | refine blk_alloc ?_ _)); exact BK163.out) hb); have n1_ := Aside0.mk (below_step (by repeat (first | (with_reducible first | exact HB.out | apply below_alloc | apply pw_below_drewN | apply below_drew1 | refine below_set ?_ GE163.out) | exact HB.out)) hb); have n2_ := Aside0.mk (hbox); have n3_ := Aside0.mk ((by rw [hg]; exact (below_size (by repeat (first | (with_reducible first | exact HB.out | apply below_alloc | apply pw_below_drewN | apply below_drew1 | refine below_set ?_ GE163.out) | exact HB.out))) : w.heap.size ≤ gb168)); have n4_ := Aside0.mk ((by rw [hg]; exact (below_size (by repeat (first | (with_reducible first | exact HB.out | apply below_alloc | apply pw_below_drewN | apply below_drew1 | refine below_set ?_ GE163.out) | exact HB.out))) : w.heap.size ≤ gb168)); have n5_ := Aside0.mk ((by rw [hg]; exact Nat.ne_of_lt (blk_lt (g := gb163) (o := .cells #[.bool x164000_1, .int .i64 x164001_1] 24 (0, 0)) (by (with_reducible repeat (first | refine blk_drewN ?_ _ | refine blk_drew ?_ | refine blk_alloc ?_ _)); exact BK163.out)) : gb163 ≠ gb168)); have n6_ := Aside0.mk ((by rw [hg]; exact Nat.ne_of_gt (blk_lt (g := gb163) (o := .cells #[.bool x164000_1, .int .i64 x164001_1] 24 (0, 0)) (by (with_reducible repeat (first | refine blk_drewN ?_ _ | refine blk_drew ?_ | refine blk_alloc ?_ _)); exact BK163.out)) : gb168 ≠ gb163)); clear BK163; clear HB; have BK163 := n0_; have HB := n1_; have BK168 := n2_; have GW168 := n3_; have GE168 := n4_; have NB163_168 := n5_; have NB168_163 := n6_; clear n0_ n1_ n2_ n3_ n4_ n5_ n6_; clear hb hbox hg; have hnb32 := NB168_163.out; have hnc32 := NB163_168.out; have hcz33_0 : w31.cell? ⟨gb168, 0, none⟩ = some (.bool false) := (blk_cell BK168.out 0).trans rfl; have hcz33_1 : w31.cell? ⟨gb168, 1, none⟩ = some (.int .i64 0) := (blk_cell BK168.out 1).trans rfl; have hfz33_0 := blk_frozen BK168.out 0; have hfz33_1 := blk_frozen BK168.out 1) | ((with_reducible refine gate_callee (f := 28) rfl ?_); refine goesL_ (some 36) rfl rfl Try.func28 (by kernel_rfl) rfl #[.int .i64 t167] rfl (by (try simp only [List.map_toArray, List.map_cons, List.map_nil]); first | done | rfl | (simp only [List.length_drop, List.length_take]; rfl)) ?_; (with_reducible refine (wharfagelaw0_Num.calls t167 t169 _ A15.out).mono ?_); rintro e w' ⟨rfl, ⟨nd, rfl⟩⟩; refine ⟨_, rfl, ?_⟩; have hcz34_0 : w31.cell? ⟨gb163, 0, none⟩ = some (.bool x164000_1) := (blk_cell BK163.out 0).trans rfl; have hcz34_1 : w31.cell? ⟨gb163, 1, none⟩ = some (.int .i64 x164001_1) := (blk_cell BK163.out 1).trans rfl; have hfz34_0 := blk_frozen BK163.out 0; have hfz34_1 := blk_frozen BK163.out 1))
                            go_roundg kj8
                            case measure => have := HK1.out; have := HJ8.out; omega
                            case rel => exact ⟨(x4_1), (0), (wrap64 (x6_1 + 1)), (t165), (t166), (by first | rfl | (simp; done) | (simp [*]; done)), (by first | rfl | (simp; done) | (simp [*]; done)), (by first | rfl | (simp; done) | (simp [*]; done)), H', ⟨by have := HK1.out; have := HJ8.out; omega⟩, ⟨by (with_reducible repeat (first | refine blk_drewN ?_ _ | refine blk_drew ?_ | refine blk_alloc ?_ _)); refine blk_put (cs := #[.bool t165, .int .i64 x164001_1]) ?_ 1 _ (by first | rfl | (simp [*]; done)); (with_reducible repeat (first | refine blk_drewN ?_ _ | refine blk_drew ?_ | refine blk_alloc ?_ _)); refine blk_put (cs := #[.bool x164000_1, .int .i64 x164001_1]) ?_ 0 _ (by first | rfl | (simp [*]; done)); (with_reducible repeat (first | refine blk_drewN ?_ _ | refine blk_drew ?_ | refine blk_alloc ?_ _)); refine blk_far ?_ NB163_168.out _; (with_reducible repeat (first | refine blk_drewN ?_ _ | refine blk_drew ?_ | refine blk_alloc ?_ _)); refine blk_far ?_ NB163_168.out _; (with_reducible repeat (first | refine blk_drewN ?_ _ | refine blk_drew ?_ | refine blk_alloc ?_ _)); exact BK163.out⟩, ⟨by repeat (first | (with_reducible first | exact HB.out | apply below_alloc | apply pw_below_drewN | apply below_drew1 | refine below_set ?_ GE163.out | refine below_set ?_ GE168.out) | exact HB.out)⟩⟩
                          · rw [if_neg c28] at H
                            exact absurd H (by simp)
                    · rw [if_neg c17] at H
                      have c17b0 : (((Go.bits .and .i64 (rd l0 x6_1) 1) == 1) == x4_1) = false := by simpa using c17
                      (try (have c17b1 : decide (((Go.bits .and .i64 (rd l0 x6_1) 1) == 1) = x4_1) = false := by simpa using c17))
                      (try (have c17b2 : (((Go.bits .and .i64 (rd l0 x6_1) 1) == 1) == x4_1) = false := by simpa using c17))
                      (try (have c17b3 : ¬ (((Go.bits .and .i64 (rd l0 x6_1) 1) == 1) = x4_1) := by simpa using c17))
                      clear c17
                      by_cases c35 : (wrap64 (x5_1 + 1)) = 3
                      · rw [if_pos c35] at H
                        have c35b0 : ((wrap64 (x5_1 + 1)) == 3) = true := beq_iff_eq.mpr c35
                        have c35b1 : ((wrap64 (x5_1 + 1)) != 3) = false := bne_eq_false_iff_eq.mpr c35
                        clear c35
                        by_cases c36 : (t165 != (!x4_1)) = true
                        · rw [if_pos c36] at H
                          exact absurd H (by simp)
                        · rw [if_neg c36] at H
                          have c36b0 : (t165 != (!x4_1)) = false := by simpa using c36
                          (try (have c36b9 : t165 = (!x4_1) := (bne_eq_false_iff_eq.mp c36b0)))
                          (try (have c36b1 : decide (t165 = (!x4_1)) = true := by simpa using c36))
                          (try (have c36b2 : (t165 == (!x4_1)) = true := by simpa using c36))
                          clear c36
                          by_cases c37 : t166 = 0
                          · rw [if_pos c37] at H
                            have c37b0 : (t166 == 0) = true := beq_iff_eq.mpr c37
                            have c37b1 : (t166 != 0) = false := bne_eq_false_iff_eq.mpr c37
                            clear c37
                            have H' := Aside0.mk H
                            clear H
                            have p164 : 0 ≤ (x6_1 : Int) := of_decide_eq_true (by first | (with_reducible assumption) | assumption)
                            have q164 : x6_1 < (l0.length : Int) := of_decide_eq_true (by first | (with_reducible assumption) | assumption)
                            obtain ⟨ad164, e164, hx164_0⟩ := Kd.at_int HR0.out x6_1 p164 q164
                            cases e164
                            replace hx164_0 := (HB.out.cell (World.block_lt_of_cell? w _ hx164_0)).trans hx164_0
                            replace p164 := eq_true p164
                            replace q164 := eq_true q164
                            have hcz38_0 : wc.cell? ⟨gb163, 0, none⟩ = some (.bool x164000_1) := (blk_cell BK163.out 0).trans rfl
                            have hcz38_1 : wc.cell? ⟨gb163, 1, none⟩ = some (.int .i64 x164001_1) := (blk_cell BK163.out 1).trans rfl
                            have hfz38_0 := blk_frozen BK163.out 0
                            have hfz38_1 := blk_frozen BK163.out 1
                            go_wp2_with (first | ((with_reducible refine gate_callee (f := 26) rfl ?_); refine goesL_ (some 32) rfl rfl Try.func26 (by kernel_rfl) rfl #[.agg #[.bool x164000_1, .int .i64 x164001_1], .bool ((Go.bits .and .i64 (rd l0 x6_1) 1) == 1)] rfl (by (try simp only [List.map_toArray, List.map_cons, List.map_nil]); first | done | rfl | (simp only [List.length_drop, List.length_take]; rfl)) ?_; (with_reducible refine (health_Probe.calls x164000_1 x164001_1 ((Go.bits .and .i64 (rd l0 x6_1) 1) == 1) t165 t166 t167 _ A14.out).mono ?_); rintro e w39 ⟨rfl, hb⟩; refine ⟨_, rfl, ?_⟩; have n0_ := Aside0.mk (blk_below (g := gb163) (o := .cells #[.bool x164000_1, .int .i64 x164001_1] 24 (0, 0)) (by (with_reducible repeat (first | refine blk_drewN ?_ _ | refine blk_drew ?_ | refine blk_alloc ?_ _)); exact BK163.out) hb); have n1_ := Aside0.mk (below_step (by repeat (first | (with_reducible first | exact HB.out | apply below_alloc | apply pw_below_drewN | apply below_drew1 | refine below_set ?_ GE163.out) | exact HB.out)) hb); clear BK163; clear HB; have BK163 := n0_; have HB := n1_; clear n0_ n1_; (try clear hb); (try clear hb2); (try clear hk); (try clear hi)) | ((with_reducible refine gate_dst (N := 8) rfl ?_); refine box_event ?hg (N := 8) ?hd (cs := #[.bool false, .int .i64 0]) (t := 24) ?hr ?_; (case hd => rfl); (case hg => rfl); (case hr => first | (go_simp; done) | (go_simp; rfl)); intro gb168 hg w40 hbox hb; have n0_ := Aside0.mk (blk_below (g := gb163) (o := .cells #[.bool x164000_1, .int .i64 x164001_1] 24 (0, 0)) (by (with_reducible repeat (first | refine blk_drewN ?_ _ | refine blk_drew ?_ | refine blk_alloc ?_ _)); exact BK163.out) hb); have n1_ := Aside0.mk (below_step (by repeat (first | (with_reducible first | exact HB.out | apply below_alloc | apply pw_below_drewN | apply below_drew1 | refine below_set ?_ GE163.out) | exact HB.out)) hb); have n2_ := Aside0.mk (hbox); have n3_ := Aside0.mk ((by rw [hg]; exact (below_size (by repeat (first | (with_reducible first | exact HB.out | apply below_alloc | apply pw_below_drewN | apply below_drew1 | refine below_set ?_ GE163.out) | exact HB.out))) : w.heap.size ≤ gb168)); have n4_ := Aside0.mk ((by rw [hg]; exact (below_size (by repeat (first | (with_reducible first | exact HB.out | apply below_alloc | apply pw_below_drewN | apply below_drew1 | refine below_set ?_ GE163.out) | exact HB.out))) : w.heap.size ≤ gb168)); have n5_ := Aside0.mk ((by rw [hg]; exact Nat.ne_of_lt (blk_lt (g := gb163) (o := .cells #[.bool x164000_1, .int .i64 x164001_1] 24 (0, 0)) (by (with_reducible repeat (first | refine blk_drewN ?_ _ | refine blk_drew ?_ | refine blk_alloc ?_ _)); exact BK163.out)) : gb163 ≠ gb168)); have n6_ := Aside0.mk ((by rw [hg]; exact Nat.ne_of_gt (blk_lt (g := gb163) (o := .cells #[.bool x164000_1, .int .i64 x164001_1] 24 (0, 0)) (by (with_reducible repeat (first | refine blk_drewN ?_ _ | refine blk_drew ?_ | refine blk_alloc ?_ _)); exact BK163.out)) : gb168 ≠ gb163)); clear BK163; clear HB; have BK163 := n0_; have HB := n1_; have BK168 := n2_; have GW168 := n3_; have GE168 := n4_; have NB163_168 := n5_; have NB168_163 := n6_; clear n0_ n1_ n2_ n3_ n4_ n5_ n6_; clear hb hbox hg; have hnb41 := NB168_163.out; have hnc41 := NB163_168.out; have hcz42_0 : w40.cell? ⟨gb168, 0, none⟩ = some (.bool false) := (blk_cell BK168.out 0).trans rfl; have hcz42_1 : w40.cell? ⟨gb168, 1, none⟩ = some (.int .i64 0) := (blk_cell BK168.out 1).trans rfl; have hfz42_0 := blk_frozen BK168.out 0; have hfz42_1 := blk_frozen BK168.out 1) | ((with_reducible refine gate_callee (f := 28) rfl ?_); refine goesL_ (some 36) rfl rfl Try.func28 (by kernel_rfl) rfl #[.int .i64 t167] rfl (by (try simp only [List.map_toArray, List.map_cons, List.map_nil]); first | done | rfl | (simp only [List.length_drop, List.length_take]; rfl)) ?_; (with_reducible refine (wharfagelaw0_Num.calls t167 t169 _ A15.out).mono ?_); rintro e w' ⟨rfl, ⟨nd, rfl⟩⟩; refine ⟨_, rfl, ?_⟩; have hcz43_0 : w40.cell? ⟨gb163, 0, none⟩ = some (.bool x164000_1) := (blk_cell BK163.out 0).trans rfl; have hcz43_1 : w40.cell? ⟨gb163, 1, none⟩ = some (.int .i64 x164001_1) := (blk_cell BK163.out 1).trans rfl; have hfz43_0 := blk_frozen BK163.out 0; have hfz43_1 := blk_frozen BK163.out 1))
                            go_roundg kj8
                            case measure => have := HK1.out; have := HJ8.out; omega
                            case rel => exact ⟨(!x4_1), (0), (wrap64 (x6_1 + 1)), (t165), (t166), (by first | rfl | (simp; done) | (simp [*]; done)), (by first | rfl | (simp; done) | (simp [*]; done)), (by first | rfl | (simp; done) | (simp [*]; done)), H', ⟨by have := HK1.out; have := HJ8.out; omega⟩, ⟨by (with_reducible repeat (first | refine blk_drewN ?_ _ | refine blk_drew ?_ | refine blk_alloc ?_ _)); refine blk_put (cs := #[.bool t165, .int .i64 x164001_1]) ?_ 1 _ (by first | rfl | (simp [*]; done)); (with_reducible repeat (first | refine blk_drewN ?_ _ | refine blk_drew ?_ | refine blk_alloc ?_ _)); refine blk_put (cs := #[.bool x164000_1, .int .i64 x164001_1]) ?_ 0 _ (by first | rfl | (simp [*]; done)); (with_reducible repeat (first | refine blk_drewN ?_ _ | refine blk_drew ?_ | refine blk_alloc ?_ _)); refine blk_far ?_ NB163_168.out _; (with_reducible repeat (first | refine blk_drewN ?_ _ | refine blk_drew ?_ | refine blk_alloc ?_ _)); refine blk_far ?_ NB163_168.out _; (with_reducible repeat (first | refine blk_drewN ?_ _ | refine blk_drew ?_ | refine blk_alloc ?_ _)); exact BK163.out⟩, ⟨by repeat (first | (with_reducible first | exact HB.out | apply below_alloc | apply pw_below_drewN | apply below_drew1 | refine below_set ?_ GE163.out | refine below_set ?_ GE168.out) | exact HB.out)⟩⟩
                          · rw [if_neg c37] at H
                            exact absurd H (by simp)
                      · rw [if_neg c35] at H
                        have c35b0 : ((wrap64 (x5_1 + 1)) == 3) = false := beq_eq_false_iff_ne.mpr c35
                        have c35b1 : ((wrap64 (x5_1 + 1)) != 3) = true := bne_iff_ne.mpr c35
                        by_cases c44 : (t165 != x4_1) = true
                        · rw [if_pos c44] at H
                          exact absurd H (by simp)
                        · rw [if_neg c44] at H
                          have c44b0 : (t165 != x4_1) = false := by simpa using c44
                          (try (have c44b1 : decide (t165 = x4_1) = true := by simpa using c44))
                          (try (have c44b2 : (t165 == x4_1) = true := by simpa using c44))
                          clear c44
                          by_cases c45 : t166 = (wrap64 (x5_1 + 1))
                          · rw [if_pos c45] at H
                            have c45b0 : (t166 == (wrap64 (x5_1 + 1))) = true := beq_iff_eq.mpr c45
                            have c45b1 : (t166 != (wrap64 (x5_1 + 1))) = false := bne_eq_false_iff_eq.mpr c45
                            clear c45
                            have H' := Aside0.mk H
                            clear H
                            have p164 : 0 ≤ (x6_1 : Int) := of_decide_eq_true (by first | (with_reducible assumption) | assumption)
                            have q164 : x6_1 < (l0.length : Int) := of_decide_eq_true (by first | (with_reducible assumption) | assumption)
                            obtain ⟨ad164, e164, hx164_0⟩ := Kd.at_int HR0.out x6_1 p164 q164
                            cases e164
                            replace hx164_0 := (HB.out.cell (World.block_lt_of_cell? w _ hx164_0)).trans hx164_0
                            replace p164 := eq_true p164
                            replace q164 := eq_true q164
                            have hcz46_0 : wc.cell? ⟨gb163, 0, none⟩ = some (.bool x164000_1) := (blk_cell BK163.out 0).trans rfl
                            have hcz46_1 : wc.cell? ⟨gb163, 1, none⟩ = some (.int .i64 x164001_1) := (blk_cell BK163.out 1).trans rfl
                            have hfz46_0 := blk_frozen BK163.out 0
                            have hfz46_1 := blk_frozen BK163.out 1
                            go_wp2_with (first | ((with_reducible refine gate_callee (f := 26) rfl ?_); refine goesL_ (some 32) rfl rfl Try.func26 (by kernel_rfl) rfl #[.agg #[.bool x164000_1, .int .i64 x164001_1], .bool ((Go.bits .and .i64 (rd l0 x6_1) 1) == 1)] rfl (by (try simp only [List.map_toArray, List.map_cons, List.map_nil]); first | done | rfl | (simp only [List.length_drop, List.length_take]; rfl)) ?_; (with_reducible refine (health_Probe.calls x164000_1 x164001_1 ((Go.bits .and .i64 (rd l0 x6_1) 1) == 1) t165 t166 t167 _ A14.out).mono ?_); rintro e w47 ⟨rfl, hb⟩; refine ⟨_, rfl, ?_⟩; have n0_ := Aside0.mk (blk_below (g := gb163) (o := .cells #[.bool x164000_1, .int .i64 x164001_1] 24 (0, 0)) (by (with_reducible repeat (first | refine blk_drewN ?_ _ | refine blk_drew ?_ | refine blk_alloc ?_ _)); exact BK163.out) hb); have n1_ := Aside0.mk (below_step (by repeat (first | (with_reducible first | exact HB.out | apply below_alloc | apply pw_below_drewN | apply below_drew1 | refine below_set ?_ GE163.out) | exact HB.out)) hb); clear BK163; clear HB; have BK163 := n0_; have HB := n1_; clear n0_ n1_; (try clear hb); (try clear hb2); (try clear hk); (try clear hi)) | ((with_reducible refine gate_dst (N := 8) rfl ?_); refine box_event ?hg (N := 8) ?hd (cs := #[.bool false, .int .i64 0]) (t := 24) ?hr ?_; (case hd => rfl); (case hg => rfl); (case hr => first | (go_simp; done) | (go_simp; rfl)); intro gb168 hg w48 hbox hb; have n0_ := Aside0.mk (blk_below (g := gb163) (o := .cells #[.bool x164000_1, .int .i64 x164001_1] 24 (0, 0)) (by (with_reducible repeat (first | refine blk_drewN ?_ _ | refine blk_drew ?_ | refine blk_alloc ?_ _)); exact BK163.out) hb); have n1_ := Aside0.mk (below_step (by repeat (first | (with_reducible first | exact HB.out | apply below_alloc | apply pw_below_drewN | apply below_drew1 | refine below_set ?_ GE163.out) | exact HB.out)) hb); have n2_ := Aside0.mk (hbox); have n3_ := Aside0.mk ((by rw [hg]; exact (below_size (by repeat (first | (with_reducible first | exact HB.out | apply below_alloc | apply pw_below_drewN | apply below_drew1 | refine below_set ?_ GE163.out) | exact HB.out))) : w.heap.size ≤ gb168)); have n4_ := Aside0.mk ((by rw [hg]; exact (below_size (by repeat (first | (with_reducible first | exact HB.out | apply below_alloc | apply pw_below_drewN | apply below_drew1 | refine below_set ?_ GE163.out) | exact HB.out))) : w.heap.size ≤ gb168)); have n5_ := Aside0.mk ((by rw [hg]; exact Nat.ne_of_lt (blk_lt (g := gb163) (o := .cells #[.bool x164000_1, .int .i64 x164001_1] 24 (0, 0)) (by (with_reducible repeat (first | refine blk_drewN ?_ _ | refine blk_drew ?_ | refine blk_alloc ?_ _)); exact BK163.out)) : gb163 ≠ gb168)); have n6_ := Aside0.mk ((by rw [hg]; exact Nat.ne_of_gt (blk_lt (g := gb163) (o := .cells #[.bool x164000_1, .int .i64 x164001_1] 24 (0, 0)) (by (with_reducible repeat (first | refine blk_drewN ?_ _ | refine blk_drew ?_ | refine blk_alloc ?_ _)); exact BK163.out)) : gb168 ≠ gb163)); clear BK163; clear HB; have BK163 := n0_; have HB := n1_; have BK168 := n2_; have GW168 := n3_; have GE168 := n4_; have NB163_168 := n5_; have NB168_163 := n6_; clear n0_ n1_ n2_ n3_ n4_ n5_ n6_; clear hb hbox hg; have hnb49 := NB168_163.out; have hnc49 := NB163_168.out; have hcz50_0 : w48.cell? ⟨gb168, 0, none⟩ = some (.bool false) := (blk_cell BK168.out 0).trans rfl; have hcz50_1 : w48.cell? ⟨gb168, 1, none⟩ = some (.int .i64 0) := (blk_cell BK168.out 1).trans rfl; have hfz50_0 := blk_frozen BK168.out 0; have hfz50_1 := blk_frozen BK168.out 1) | ((with_reducible refine gate_callee (f := 28) rfl ?_); refine goesL_ (some 36) rfl rfl Try.func28 (by kernel_rfl) rfl #[.int .i64 t167] rfl (by (try simp only [List.map_toArray, List.map_cons, List.map_nil]); first | done | rfl | (simp only [List.length_drop, List.length_take]; rfl)) ?_; (with_reducible refine (wharfagelaw0_Num.calls t167 t169 _ A15.out).mono ?_); rintro e w' ⟨rfl, ⟨nd, rfl⟩⟩; refine ⟨_, rfl, ?_⟩; have hcz51_0 : w48.cell? ⟨gb163, 0, none⟩ = some (.bool x164000_1) := (blk_cell BK163.out 0).trans rfl; have hcz51_1 : w48.cell? ⟨gb163, 1, none⟩ = some (.int .i64 x164001_1) := (blk_cell BK163.out 1).trans rfl; have hfz51_0 := blk_frozen BK163.out 0; have hfz51_1 := blk_frozen BK163.out 1))
                            go_roundg kj8
                            case measure => have := HK1.out; have := HJ8.out; omega
                            case rel => exact ⟨(x4_1), (wrap64 (x5_1 + 1)), (wrap64 (x6_1 + 1)), (t165), (t166), (by first | rfl | (simp; done) | (simp [*]; done)), (by first | rfl | (simp; done) | (simp [*]; done)), (by first | rfl | (simp; done) | (simp [*]; done)), H', ⟨by have := HK1.out; have := HJ8.out; omega⟩, ⟨by (with_reducible repeat (first | refine blk_drewN ?_ _ | refine blk_drew ?_ | refine blk_alloc ?_ _)); refine blk_put (cs := #[.bool t165, .int .i64 x164001_1]) ?_ 1 _ (by first | rfl | (simp [*]; done)); (with_reducible repeat (first | refine blk_drewN ?_ _ | refine blk_drew ?_ | refine blk_alloc ?_ _)); refine blk_put (cs := #[.bool x164000_1, .int .i64 x164001_1]) ?_ 0 _ (by first | rfl | (simp [*]; done)); (with_reducible repeat (first | refine blk_drewN ?_ _ | refine blk_drew ?_ | refine blk_alloc ?_ _)); refine blk_far ?_ NB163_168.out _; (with_reducible repeat (first | refine blk_drewN ?_ _ | refine blk_drew ?_ | refine blk_alloc ?_ _)); refine blk_far ?_ NB163_168.out _; (with_reducible repeat (first | refine blk_drewN ?_ _ | refine blk_drew ?_ | refine blk_alloc ?_ _)); exact BK163.out⟩, ⟨by repeat (first | (with_reducible first | exact HB.out | apply below_alloc | apply pw_below_drewN | apply below_drew1 | refine below_set ?_ GE163.out | refine below_set ?_ GE168.out) | exact HB.out)⟩⟩
                          · rw [if_neg c45] at H
                            exact absurd H (by simp)
                  · rw [if_neg c16] at H
                    exact absurd H (by simp)
                · rw [if_neg c13] at H
                  exact absurd H (by simp)
              · rw [if_neg c12] at H
                exact absurd H (by simp)
            · replace c11 := Bool.eq_false_iff.mpr c11
              subst c11
              have H1 : (some true) = some r := by rw [if_neg (show ¬ (false = true) by decide)] at H; exact H
              clear H
              have H := H1
              clear H1
              obtain rfl := Option.some.inj H
              go_wp2
              go_ret
              exact ⟨by first | rfl | (simp [errW_none, errW_some] <;> rfl) | (simp [*, errW_none, errW_some] <;> rfl), by repeat (first | (with_reducible first | exact HB.out | apply below_alloc | apply pw_below_drewN | apply below_drew1 | refine below_set ?_ GE163.out) | exact HB.out)⟩
  · replace c3 := Bool.eq_false_iff.mpr c3
    subst c3
    have H1 : (none) = some r := by rw [if_neg (show ¬ (false = true) by decide)] at H; exact H
    clear H
    have H := H1
    clear H1
    exact absurd H (by simp)

/-- THE ONE PURE STATEMENT of wharfagelaw11_HealthRows: yours. -/
def wharfagelaw11_HealthRows.Pure : Prop := ∀ (l0 : List Int), l0.length ≤ maxLen → l0.length * 8 ≤ 140737488351232 → (∀ x ∈ l0, (Lit.int .i64 x).wf = true) → ∃ k, wharfagelaw11_HealthRows.f k l0 = some true
theorem wharfagelaw11_HealthRows.walk (P : wharfagelaw11_HealthRows.Pure) (a0 : Option Addr) (len0 cap0 : Nat) (z0 : List Int) (w : World) (w0 : (a0 = none ∧ len0 = 0 ∧ cap0 = 0 ∧ z0 = []) ∨ ∃ x, a0 = some x ∧ len0 ≤ cap0 ∧ cap0 ≤ maxLen ∧ z0.length = cap0 ∧ (∀ i, i < z0.length → w.cell? (x.add i) = some (.int .i64 (z0.getD i 0))) ∧ ∀ n ∈ z0, (Lit.int .i64 n).wf = true) (y0 : len0 * 8 ≤ 140737488351232) :
    Calls Try.prog 5 #[.slice a0 len0 cap0] w fun e w' => e = .returned (.bool true) ∧ Below w.heap.size w w' := by
  obtain ⟨l0, rfl, hr0, hm0, hw0, hc0⟩ := ReadsInt.ofRowC w0
  obtain ⟨k, h⟩ := P l0 hm0 y0 hw0
  refine (wharfagelaw11_HealthRows.calls k _ _ l0 true w (Kd.C_of_reads (d := (0 : Int)) (h1 := fun _ => rfl) hr0) hc0 h).mono ?_
  rintro e w' ⟨rfl, hd⟩
  exact ⟨rfl, hd⟩

end Go.Proofs.Ytdpkfpbdadloaaa.PH
