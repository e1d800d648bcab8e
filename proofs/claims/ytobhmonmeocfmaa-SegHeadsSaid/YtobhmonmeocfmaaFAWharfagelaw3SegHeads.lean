-- printed by a program of this session (myprint.py) out of the translation
import Derived.Test.YtobhmonmeocfmaaFAM0
import Derived.Test.YtobhmonmeocfmaaFASegPut
import Derived.Test.YtobhmonmeocfmaaFAWharfagelaw3Awake
namespace Go.Proofs.Ytobhmonmeocfmaa.PA
open Go.RowKit Go.Proofs.YtobhmonmeocfmaaW.PrintWords Go.Proofs.YtobhmonmeocfmaaW.PrintLast Go.Proofs.YtobhmonmeocfmaaW.PrintMore
attribute [local go_sem] max2_int min2_int max_two min_two max_three min_three max_four min_four   -- for this text's walks alone
set_option linter.unusedVariables false
set_option linter.unusedSimpArgs false

/-! ### wharfagelaw3_SegHeads: function 13 -/
mutual
def wharfagelaw3_SegHeads.j0 : Nat → ByteArray → Bool → Int → Int → Int → Int → Int → Int → ByteArray → Option (Bool)
  | 0, _, _, _, _, _, _, _, _, _ => none
  | k + 1, x7, x27, x660000, x660001, x660002, x660003, x660004, x660005, x660006 => if x27 = true then (some (x7.toList == ([] : List UInt8))) else (if 0 < (x7.size : Int) then (if 1 < (x7.size : Int) then (if (Go.bits .or .i64 (wrap64 ((wrap64 (bt x7 0)) * 256)) (wrap64 (bt x7 1))) = x660001 then (if 2 < (x7.size : Int) then (if 3 < (x7.size : Int) then (wharfagelaw3_SegHeads.j1 k x7 ((Go.bits .or .i64 (wrap64 ((wrap64 (bt x7 2)) * 256)) (wrap64 (bt x7 3))) != x660002) x660000 x660001 x660002 x660003 x660004 x660005 x660006) else (none)) else (none)) else (wharfagelaw3_SegHeads.j1 k x7 true x660000 x660001 x660002 x660003 x660004 x660005 x660006)) else (none)) else (none))
def wharfagelaw3_SegHeads.j1 : Nat → ByteArray → Bool → Int → Int → Int → Int → Int → Int → ByteArray → Option (Bool)
  | 0, _, _, _, _, _, _, _, _, _ => none
  | k + 1, x7, x53, x660000, x660001, x660002, x660003, x660004, x660005, x660006 => if x53 = true then (none) else (if x660000 = 17 then (if 4 < (x7.size : Int) then (if 5 < (x7.size : Int) then (if (Go.bits .or .i64 (wrap64 ((wrap64 (bt x7 4)) * 256)) (wrap64 (bt x7 5))) = (x7.size : Int) then (if 8 ≤ (x7.size : Int) then (some ((x7.extract 8 x7.size).toList == x660006.toList)) else (none)) else (none)) else (none)) else (none)) else (if (x7.size : Int) ≥ 20 then (if 4 < (x7.size : Int) then (if 5 < (x7.size : Int) then (if 6 < (x7.size : Int) then (if 7 < (x7.size : Int) then (if (Go.bits .or .i64 (Go.bits .or .i64 (Go.bits .or .i64 (wrap64 ((wrap64 (bt x7 4)) * 16777216)) (wrap64 ((wrap64 (bt x7 5)) * 65536))) (wrap64 ((wrap64 (bt x7 6)) * 256))) (wrap64 (bt x7 7))) = x660003 then (if 8 < (x7.size : Int) then (if 9 < (x7.size : Int) then (if 10 < (x7.size : Int) then (if 11 < (x7.size : Int) then (if (Go.bits .or .i64 (Go.bits .or .i64 (Go.bits .or .i64 (wrap64 ((wrap64 (bt x7 8)) * 16777216)) (wrap64 ((wrap64 (bt x7 9)) * 65536))) (wrap64 ((wrap64 (bt x7 10)) * 256))) (wrap64 (bt x7 11))) = x660004 then (if 12 < (x7.size : Int) then (if (bt x7 12) = 80 then (if 13 < (x7.size : Int) then (if (wrap64 (bt x7 13)) = x660005 then (if 14 ≤ 16 then (if 16 ≤ (x7.size : Int) then (if (x7.extract 14 16).toList = ([4, 0] : List UInt8) then (if 18 ≤ 20 then (if 20 ≤ (x7.size : Int) then (if (x7.extract 18 20).toList = ([0, 0] : List UInt8) then (some ((x7.extract 20 x7.size).toList == x660006.toList)) else (none)) else (none)) else (none)) else (none)) else (none)) else (none)) else (none)) else (none)) else (none)) else (none)) else (none)) else (none)) else (none)) else (none)) else (none)) else (none)) else (none)) else (none)) else (none)) else (none)) else (none)))
end
def wharfagelaw3_SegHeads.f (k : Nat) (a0_0 : Int) (a0_1 : Int) (a0_2 : Int) (a0_3 : Int) (a0_4 : Int) (a0_5 : Int) (a0_6 : ByteArray) (a1 : Int) (a2 : Int) : Option (Bool) := (wharfagelaw3_awake.f k).bind fun t660 => (if t660 = true then ((seg_Put.f k a0_0 a0_1 a0_2 a0_3 a0_4 a0_5 a0_6 (Go.bits .and .i64 a1 65535) (Go.bits .and .i64 a2 65535)).bind fun bt661 => ((wharfagelaw0_Num.f bt661.2).bind fun t663 => (if t663 = 0 then (wharfagelaw3_SegHeads.j0 k bt661.1 (decide ((bt661.1.size : Int) < 8)) a0_0 a0_1 a0_2 a0_3 a0_4 a0_5 a0_6) else (wharfagelaw3_SegHeads.j0 k bt661.1 true a0_0 a0_1 a0_2 a0_3 a0_4 a0_5 a0_6)))) else (none))
theorem wharfagelaw3_SegHeads.mono_l : ∀ k, (∀ y0 y1 y2 y3 y4 y5 y6 y7 y8, LeO (wharfagelaw3_SegHeads.j0 k y0 y1 y2 y3 y4 y5 y6 y7 y8) (wharfagelaw3_SegHeads.j0 (k + 1) y0 y1 y2 y3 y4 y5 y6 y7 y8)) ∧ (∀ y0 y1 y2 y3 y4 y5 y6 y7 y8, LeO (wharfagelaw3_SegHeads.j1 k y0 y1 y2 y3 y4 y5 y6 y7 y8) (wharfagelaw3_SegHeads.j1 (k + 1) y0 y1 y2 y3 y4 y5 y6 y7 y8))
  | 0 => ⟨fun _ _ _ _ _ _ _ _ _ r h => by simp [wharfagelaw3_SegHeads.j0] at h, fun _ _ _ _ _ _ _ _ _ r h => by simp [wharfagelaw3_SegHeads.j1] at h⟩
  | k + 1 => by
    obtain ⟨ih0, ih1⟩ := wharfagelaw3_SegHeads.mono_l k
    refine ⟨?_, ?_⟩
    · intro y0 y1 y2 y3 y4 y5 y6 y7 y8
      unfold wharfagelaw3_SegHeads.j0
      repeat' first
      | (with_reducible exact ih0 _ _ _ _ _ _ _ _ _)
      | (with_reducible exact ih1 _ _ _ _ _ _ _ _ _)
      | (with_reducible exact seg_Put.mono _ _ _ _ _ _ _ _ _ _)
      | (with_reducible exact wharfagelaw3_awake.mono _)
      | (with_reducible exact LeO.refl _)
      | (with_reducible exact LeO.none _)
      | (with_reducible refine LeO.ite ?_ ?_)
      | (with_reducible refine LeO.bind ?_ (fun _ => ?_))
      | exact ih0 _ _ _ _ _ _ _ _ _
      | exact ih1 _ _ _ _ _ _ _ _ _
      | exact seg_Put.mono _ _ _ _ _ _ _ _ _ _
      | exact wharfagelaw3_awake.mono _
      | exact LeO.none _
      | refine LeO.ite ?_ ?_
      | refine LeO.bind ?_ (fun _ => ?_)
    · intro y0 y1 y2 y3 y4 y5 y6 y7 y8
      unfold wharfagelaw3_SegHeads.j1
      repeat' first
      | (with_reducible exact ih0 _ _ _ _ _ _ _ _ _)
      | (with_reducible exact ih1 _ _ _ _ _ _ _ _ _)
      | (with_reducible exact seg_Put.mono _ _ _ _ _ _ _ _ _ _)
      | (with_reducible exact wharfagelaw3_awake.mono _)
      | (with_reducible exact LeO.refl _)
      | (with_reducible exact LeO.none _)
      | (with_reducible refine LeO.ite ?_ ?_)
      | (with_reducible refine LeO.bind ?_ (fun _ => ?_))
      | exact ih0 _ _ _ _ _ _ _ _ _
      | exact ih1 _ _ _ _ _ _ _ _ _
      | exact seg_Put.mono _ _ _ _ _ _ _ _ _ _
      | exact wharfagelaw3_awake.mono _
      | exact LeO.none _
      | refine LeO.ite ?_ ?_
      | refine LeO.bind ?_ (fun _ => ?_)
theorem wharfagelaw3_SegHeads.mono : ∀ a0 a1 a2 a3 a4 a5 a6 a7 a8 k, LeO (wharfagelaw3_SegHeads.f k a0 a1 a2 a3 a4 a5 a6 a7 a8) (wharfagelaw3_SegHeads.f (k + 1) a0 a1 a2 a3 a4 a5 a6 a7 a8) := by
  intro a0 a1 a2 a3 a4 a5 a6 a7 a8 k
  obtain ⟨ih0, ih1⟩ := wharfagelaw3_SegHeads.mono_l k
  unfold wharfagelaw3_SegHeads.f
  repeat' first
      | (with_reducible exact ih0 _ _ _ _ _ _ _ _ _)
      | (with_reducible exact ih1 _ _ _ _ _ _ _ _ _)
      | (with_reducible exact seg_Put.mono _ _ _ _ _ _ _ _ _ _)
      | (with_reducible exact wharfagelaw3_awake.mono _)
      | (with_reducible exact LeO.refl _)
      | (with_reducible exact LeO.none _)
      | (with_reducible refine LeO.ite ?_ ?_)
      | (with_reducible refine LeO.bind ?_ (fun _ => ?_))
      | exact ih0 _ _ _ _ _ _ _ _ _
      | exact ih1 _ _ _ _ _ _ _ _ _
      | exact seg_Put.mono _ _ _ _ _ _ _ _ _ _
      | exact wharfagelaw3_awake.mono _
      | exact LeO.none _
      | refine LeO.ite ?_ ?_
      | refine LeO.bind ?_ (fun _ => ?_)
set_option maxHeartbeats 8000000 in
set_option maxRecDepth 100000 in
theorem wharfagelaw3_SegHeads.calls (k : Nat) (a0_0 : Int) (a0_1 : Int) (a0_2 : Int) (a0_3 : Int) (a0_4 : Int) (a0_5 : Int) (a0_6 : ByteArray) (a1 : Int) (a2 : Int) (r : Bool) (w : World) (h : wharfagelaw3_SegHeads.f k a0_0 a0_1 a0_2 a0_3 a0_4 a0_5 a0_6 a1 a2 = some r) :
    Calls Try.prog 13 #[.agg #[.int .i64 a0_0, .int .i64 a0_1, .int .i64 a0_2, .int .i64 a0_3, .int .i64 a0_4, .int .i64 a0_5, .string a0_6], .int .i64 a1, .int .i64 a2] w fun e w' => e = .returned (.bool r) ∧ Below w.heap.size w w' := by
  have hu44 := Try.underlying44
  have HB := Aside0.mk (Below.refl w.heap.size w)
  have H : ((wharfagelaw3_awake.f k).bind fun t660 => (if t660 = true then ((seg_Put.f k a0_0 a0_1 a0_2 a0_3 a0_4 a0_5 a0_6 (Go.bits .and .i64 a1 65535) (Go.bits .and .i64 a2 65535)).bind fun bt661 => ((wharfagelaw0_Num.f bt661.2).bind fun t663 => (if t663 = 0 then (wharfagelaw3_SegHeads.j0 k bt661.1 (decide ((bt661.1.size : Int) < 8)) a0_0 a0_1 a0_2 a0_3 a0_4 a0_5 a0_6) else (wharfagelaw3_SegHeads.j0 k bt661.1 true a0_0 a0_1 a0_2 a0_3 a0_4 a0_5 a0_6)))) else (none))) = some r := h
  clear h
  replace H := Option.bind_eq_some_iff.mp H
  obtain ⟨t660, A40, H⟩ := H
  replace H : (if t660 = true then ((seg_Put.f k a0_0 a0_1 a0_2 a0_3 a0_4 a0_5 a0_6 (Go.bits .and .i64 a1 65535) (Go.bits .and .i64 a2 65535)).bind fun bt661 => ((wharfagelaw0_Num.f bt661.2).bind fun t663 => (if t663 = 0 then (wharfagelaw3_SegHeads.j0 k bt661.1 (decide ((bt661.1.size : Int) < 8)) a0_0 a0_1 a0_2 a0_3 a0_4 a0_5 a0_6) else (wharfagelaw3_SegHeads.j0 k bt661.1 true a0_0 a0_1 a0_2 a0_3 a0_4 a0_5 a0_6)))) else (none)) = some r := H
  have A4 := Aside0.mk A40
  clear A40
  by_cases c5 : t660 = true
  · subst c5
    have H1 : ((seg_Put.f k a0_0 a0_1 a0_2 a0_3 a0_4 a0_5 a0_6 (Go.bits .and .i64 a1 65535) (Go.bits .and .i64 a2 65535)).bind fun bt661 => ((wharfagelaw0_Num.f bt661.2).bind fun t663 => (if t663 = 0 then (wharfagelaw3_SegHeads.j0 k bt661.1 (decide ((bt661.1.size : Int) < 8)) a0_0 a0_1 a0_2 a0_3 a0_4 a0_5 a0_6) else (wharfagelaw3_SegHeads.j0 k bt661.1 true a0_0 a0_1 a0_2 a0_3 a0_4 a0_5 a0_6)))) = some r := by rw [if_pos rfl] at H; exact H
    clear H
    have H := H1
    clear H1
    replace H := Option.bind_eq_some_iff.mp H
    obtain ⟨⟨t661, t662⟩, A60, H⟩ := H
    replace H : ((wharfagelaw0_Num.f t662).bind fun t663 => (if t663 = 0 then (wharfagelaw3_SegHeads.j0 k t661 (decide ((t661.size : Int) < 8)) a0_0 a0_1 a0_2 a0_3 a0_4 a0_5 a0_6) else (wharfagelaw3_SegHeads.j0 k t661 true a0_0 a0_1 a0_2 a0_3 a0_4 a0_5 a0_6))) = some r := H
    have A6 := Aside0.mk A60
    clear A60
    have HC7 := Aside0.mk H
    clear H
    go_enter Try.func13, Try.ntmps13
    go_upto_region 4 with (first | ((with_reducible refine gate_dst (N := 3) rfl ?_); (try (refine gate_guard (by rfl) ?_; dsimp only)); refine box_event ?hg (N := 3) ?hd (cs := #[.int .i64 a0_0, .int .i64 a0_1, .int .i64 a0_2, .int .i64 a0_3, .int .i64 a0_4, .int .i64 a0_5, .string a0_6]) (t := 44) ?hr ?_; (case hd => rfl); (case hg => rfl); (case hr => first | (go_simp; done) | (go_simp; rfl)); intro gb659 hg w8 hbox hb; have n0_ := Aside0.mk (below_step (by repeat (first | (with_reducible first | exact HB.out | apply below_alloc | apply pw_below_drewN | apply below_drew1) | exact HB.out)) hb); have n1_ := Aside0.mk (hbox); have n2_ := Aside0.mk ((by rw [hg]; exact (below_size (by repeat (first | (with_reducible first | exact HB.out | apply below_alloc | apply pw_below_drewN | apply below_drew1) | exact HB.out))) : w.heap.size ≤ gb659)); have n3_ := Aside0.mk ((by rw [hg]; exact (below_size (by repeat (first | (with_reducible first | exact HB.out | apply below_alloc | apply pw_below_drewN | apply below_drew1) | exact HB.out))) : w.heap.size ≤ gb659)); clear HB; have HB := n0_; have BK659 := n1_; have GW659 := n2_; have GE659 := n3_; clear n0_ n1_ n2_ n3_; clear hb hbox hg) | (go_at_call 35; (with_reducible refine (wharfagelaw3_awake.calls k  true _ A4.out).mono ?_); rintro e w9 ⟨rfl, hb⟩; have n0_ := Aside0.mk (blk_below (g := gb659) (o := .cells #[.int .i64 a0_0, .int .i64 a0_1, .int .i64 a0_2, .int .i64 a0_3, .int .i64 a0_4, .int .i64 a0_5, .string a0_6] 44 (0, 0)) (by (with_reducible repeat (first | refine blk_drewN ?_ _ | refine blk_drew ?_ | refine blk_alloc ?_ _)); exact BK659.out) hb); have n1_ := Aside0.mk (below_step (by repeat (first | (with_reducible first | exact HB.out | apply below_alloc | apply pw_below_drewN | apply below_drew1 | refine below_set ?_ GE659.out) | exact HB.out)) hb); clear BK659; clear HB; have BK659 := n0_; have HB := n1_; clear n0_ n1_; (try clear hb); (try clear hb2); (try clear hk); (try clear hi); have hcz10_0 : w9.cell? ⟨gb659, 0, none⟩ = some (.int .i64 a0_0) := (blk_cell BK659.out 0).trans rfl; have hcz10_1 : w9.cell? ⟨gb659, 1, none⟩ = some (.int .i64 a0_1) := (blk_cell BK659.out 1).trans rfl; have hcz10_2 : w9.cell? ⟨gb659, 2, none⟩ = some (.int .i64 a0_2) := (blk_cell BK659.out 2).trans rfl; have hcz10_3 : w9.cell? ⟨gb659, 3, none⟩ = some (.int .i64 a0_3) := (blk_cell BK659.out 3).trans rfl; have hcz10_4 : w9.cell? ⟨gb659, 4, none⟩ = some (.int .i64 a0_4) := (blk_cell BK659.out 4).trans rfl; have hcz10_5 : w9.cell? ⟨gb659, 5, none⟩ = some (.int .i64 a0_5) := (blk_cell BK659.out 5).trans rfl; have hcz10_6 : w9.cell? ⟨gb659, 6, none⟩ = some (.string a0_6) := (blk_cell BK659.out 6).trans rfl; have hfz10_0 := blk_frozen BK659.out 0; have hfz10_1 := blk_frozen BK659.out 1; have hfz10_2 := blk_frozen BK659.out 2; have hfz10_3 := blk_frozen BK659.out 3; have hfz10_4 := blk_frozen BK659.out 4; have hfz10_5 := blk_frozen BK659.out 5; have hfz10_6 := blk_frozen BK659.out 6) | (go_at_call 29; (with_reducible refine (seg_Put.calls k a0_0 a0_1 a0_2 a0_3 a0_4 a0_5 a0_6 (Go.bits .and .i64 a1 65535) (Go.bits .and .i64 a2 65535) t661 t662 _ A6.out).mono ?_); rintro e w11 ⟨rfl, hb⟩; have n0_ := Aside0.mk (blk_below (g := gb659) (o := .cells #[.int .i64 a0_0, .int .i64 a0_1, .int .i64 a0_2, .int .i64 a0_3, .int .i64 a0_4, .int .i64 a0_5, .string a0_6] 44 (0, 0)) (by (with_reducible repeat (first | refine blk_drewN ?_ _ | refine blk_drew ?_ | refine blk_alloc ?_ _)); exact BK659.out) hb); have n1_ := Aside0.mk (below_step (by repeat (first | (with_reducible first | exact HB.out | apply below_alloc | apply pw_below_drewN | apply below_drew1 | refine below_set ?_ GE659.out) | exact HB.out)) hb); clear BK659; clear HB; have BK659 := n0_; have HB := n1_; clear n0_ n1_; (try clear hb); (try clear hb2); (try clear hk); (try clear hi)))
    repeat (go_quiet (first | ((with_reducible refine gate_dst (N := 3) rfl ?_); (try (refine gate_guard (by rfl) ?_; dsimp only)); refine box_event ?hg (N := 3) ?hd (cs := #[.int .i64 a0_0, .int .i64 a0_1, .int .i64 a0_2, .int .i64 a0_3, .int .i64 a0_4, .int .i64 a0_5, .string a0_6]) (t := 44) ?hr ?_; (case hd => rfl); (case hg => rfl); (case hr => first | (go_simp; done) | (go_simp; rfl)); intro gb659 hg w8 hbox hb; have n0_ := Aside0.mk (below_step (by repeat (first | (with_reducible first | exact HB.out | apply below_alloc | apply pw_below_drewN | apply below_drew1) | exact HB.out)) hb); have n1_ := Aside0.mk (hbox); have n2_ := Aside0.mk ((by rw [hg]; exact (below_size (by repeat (first | (with_reducible first | exact HB.out | apply below_alloc | apply pw_below_drewN | apply below_drew1) | exact HB.out))) : w.heap.size ≤ gb659)); have n3_ := Aside0.mk ((by rw [hg]; exact (below_size (by repeat (first | (with_reducible first | exact HB.out | apply below_alloc | apply pw_below_drewN | apply below_drew1) | exact HB.out))) : w.heap.size ≤ gb659)); clear HB; have HB := n0_; have BK659 := n1_; have GW659 := n2_; have GE659 := n3_; clear n0_ n1_ n2_ n3_; clear hb hbox hg) | (go_at_call 35; (with_reducible refine (wharfagelaw3_awake.calls k  true _ A4.out).mono ?_); rintro e w9 ⟨rfl, hb⟩; have n0_ := Aside0.mk (blk_below (g := gb659) (o := .cells #[.int .i64 a0_0, .int .i64 a0_1, .int .i64 a0_2, .int .i64 a0_3, .int .i64 a0_4, .int .i64 a0_5, .string a0_6] 44 (0, 0)) (by (with_reducible repeat (first | refine blk_drewN ?_ _ | refine blk_drew ?_ | refine blk_alloc ?_ _)); exact BK659.out) hb); have n1_ := Aside0.mk (below_step (by repeat (first | (with_reducible first | exact HB.out | apply below_alloc | apply pw_below_drewN | apply below_drew1 | refine below_set ?_ GE659.out) | exact HB.out)) hb); clear BK659; clear HB; have BK659 := n0_; have HB := n1_; clear n0_ n1_; (try clear hb); (try clear hb2); (try clear hk); (try clear hi); have hcz10_0 : w9.cell? ⟨gb659, 0, none⟩ = some (.int .i64 a0_0) := (blk_cell BK659.out 0).trans rfl; have hcz10_1 : w9.cell? ⟨gb659, 1, none⟩ = some (.int .i64 a0_1) := (blk_cell BK659.out 1).trans rfl; have hcz10_2 : w9.cell? ⟨gb659, 2, none⟩ = some (.int .i64 a0_2) := (blk_cell BK659.out 2).trans rfl; have hcz10_3 : w9.cell? ⟨gb659, 3, none⟩ = some (.int .i64 a0_3) := (blk_cell BK659.out 3).trans rfl; have hcz10_4 : w9.cell? ⟨gb659, 4, none⟩ = some (.int .i64 a0_4) := (blk_cell BK659.out 4).trans rfl; have hcz10_5 : w9.cell? ⟨gb659, 5, none⟩ = some (.int .i64 a0_5) := (blk_cell BK659.out 5).trans rfl; have hcz10_6 : w9.cell? ⟨gb659, 6, none⟩ = some (.string a0_6) := (blk_cell BK659.out 6).trans rfl; have hfz10_0 := blk_frozen BK659.out 0; have hfz10_1 := blk_frozen BK659.out 1; have hfz10_2 := blk_frozen BK659.out 2; have hfz10_3 := blk_frozen BK659.out 3; have hfz10_4 := blk_frozen BK659.out 4; have hfz10_5 := blk_frozen BK659.out 5; have hfz10_6 := blk_frozen BK659.out 6) | (go_at_call 29; (with_reducible refine (seg_Put.calls k a0_0 a0_1 a0_2 a0_3 a0_4 a0_5 a0_6 (Go.bits .and .i64 a1 65535) (Go.bits .and .i64 a2 65535) t661 t662 _ A6.out).mono ?_); rintro e w11 ⟨rfl, hb⟩; have n0_ := Aside0.mk (blk_below (g := gb659) (o := .cells #[.int .i64 a0_0, .int .i64 a0_1, .int .i64 a0_2, .int .i64 a0_3, .int .i64 a0_4, .int .i64 a0_5, .string a0_6] 44 (0, 0)) (by (with_reducible repeat (first | refine blk_drewN ?_ _ | refine blk_drew ?_ | refine blk_alloc ?_ _)); exact BK659.out) hb); have n1_ := Aside0.mk (below_step (by repeat (first | (with_reducible first | exact HB.out | apply below_alloc | apply pw_below_drewN | apply below_drew1 | refine below_set ?_ GE659.out) | exact HB.out)) hb); clear BK659; clear HB; have BK659 := n0_; have HB := n1_; clear n0_ n1_; (try clear hb); (try clear hb2); (try clear hk); (try clear hi))); go_upto_region 4 with (first | ((with_reducible refine gate_dst (N := 3) rfl ?_); (try (refine gate_guard (by rfl) ?_; dsimp only)); refine box_event ?hg (N := 3) ?hd (cs := #[.int .i64 a0_0, .int .i64 a0_1, .int .i64 a0_2, .int .i64 a0_3, .int .i64 a0_4, .int .i64 a0_5, .string a0_6]) (t := 44) ?hr ?_; (case hd => rfl); (case hg => rfl); (case hr => first | (go_simp; done) | (go_simp; rfl)); intro gb659 hg w8 hbox hb; have n0_ := Aside0.mk (below_step (by repeat (first | (with_reducible first | exact HB.out | apply below_alloc | apply pw_below_drewN | apply below_drew1) | exact HB.out)) hb); have n1_ := Aside0.mk (hbox); have n2_ := Aside0.mk ((by rw [hg]; exact (below_size (by repeat (first | (with_reducible first | exact HB.out | apply below_alloc | apply pw_below_drewN | apply below_drew1) | exact HB.out))) : w.heap.size ≤ gb659)); have n3_ := Aside0.mk ((by rw [hg]; exact (below_size (by repeat (first | (with_reducible first | exact HB.out | apply below_alloc | apply pw_below_drewN | apply below_drew1) | exact HB.out))) : w.heap.size ≤ gb659)); clear HB; have HB := n0_; have BK659 := n1_; have GW659 := n2_; have GE659 := n3_; clear n0_ n1_ n2_ n3_; clear hb hbox hg) | (go_at_call 35; (with_reducible refine (wharfagelaw3_awake.calls k  true _ A4.out).mono ?_); rintro e w9 ⟨rfl, hb⟩; have n0_ := Aside0.mk (blk_below (g := gb659) (o := .cells #[.int .i64 a0_0, .int .i64 a0_1, .int .i64 a0_2, .int .i64 a0_3, .int .i64 a0_4, .int .i64 a0_5, .string a0_6] 44 (0, 0)) (by (with_reducible repeat (first | refine blk_drewN ?_ _ | refine blk_drew ?_ | refine blk_alloc ?_ _)); exact BK659.out) hb); have n1_ := Aside0.mk (below_step (by repeat (first | (with_reducible first | exact HB.out | apply below_alloc | apply pw_below_drewN | apply below_drew1 | refine below_set ?_ GE659.out) | exact HB.out)) hb); clear BK659; clear HB; have BK659 := n0_; have HB := n1_; clear n0_ n1_; (try clear hb); (try clear hb2); (try clear hk); (try clear hi); have hcz10_0 : w9.cell? ⟨gb659, 0, none⟩ = some (.int .i64 a0_0) := (blk_cell BK659.out 0).trans rfl; have hcz10_1 : w9.cell? ⟨gb659, 1, none⟩ = some (.int .i64 a0_1) := (blk_cell BK659.out 1).trans rfl; have hcz10_2 : w9.cell? ⟨gb659, 2, none⟩ = some (.int .i64 a0_2) := (blk_cell BK659.out 2).trans rfl; have hcz10_3 : w9.cell? ⟨gb659, 3, none⟩ = some (.int .i64 a0_3) := (blk_cell BK659.out 3).trans rfl; have hcz10_4 : w9.cell? ⟨gb659, 4, none⟩ = some (.int .i64 a0_4) := (blk_cell BK659.out 4).trans rfl; have hcz10_5 : w9.cell? ⟨gb659, 5, none⟩ = some (.int .i64 a0_5) := (blk_cell BK659.out 5).trans rfl; have hcz10_6 : w9.cell? ⟨gb659, 6, none⟩ = some (.string a0_6) := (blk_cell BK659.out 6).trans rfl; have hfz10_0 := blk_frozen BK659.out 0; have hfz10_1 := blk_frozen BK659.out 1; have hfz10_2 := blk_frozen BK659.out 2; have hfz10_3 := blk_frozen BK659.out 3; have hfz10_4 := blk_frozen BK659.out 4; have hfz10_5 := blk_frozen BK659.out 5; have hfz10_6 := blk_frozen BK659.out 6) | (go_at_call 29; (with_reducible refine (seg_Put.calls k a0_0 a0_1 a0_2 a0_3 a0_4 a0_5 a0_6 (Go.bits .and .i64 a1 65535) (Go.bits .and .i64 a2 65535) t661 t662 _ A6.out).mono ?_); rintro e w11 ⟨rfl, hb⟩; have n0_ := Aside0.mk (blk_below (g := gb659) (o := .cells #[.int .i64 a0_0, .int .i64 a0_1, .int .i64 a0_2, .int .i64 a0_3, .int .i64 a0_4, .int .i64 a0_5, .string a0_6] 44 (0, 0)) (by (with_reducible repeat (first | refine blk_drewN ?_ _ | refine blk_drew ?_ | refine blk_alloc ?_ _)); exact BK659.out) hb); have n1_ := Aside0.mk (below_step (by repeat (first | (with_reducible first | exact HB.out | apply below_alloc | apply pw_below_drewN | apply below_drew1 | refine below_set ?_ GE659.out) | exact HB.out)) hb); clear BK659; clear HB; have BK659 := n0_; have HB := n1_; clear n0_ n1_; (try clear hb); (try clear hb2); (try clear hk); (try clear hi))))
    (try simp only [Act.put, List.setIfInBounds_toArray, List.set_cons_zero, List.set_cons_succ])
    go_cut [27] (fun v27 wc => ∃ (kq : Nat) (x27_6 : Bool), v27 = .bool x27_6 ∧ Aside0 (wharfagelaw3_SegHeads.j0 kq t661 x27_6 a0_0 a0_1 a0_2 a0_3 a0_4 a0_5 a0_6 = some r) ∧ Aside0 (kq ≤ k) ∧ Aside0 (wc.heap[gb659]? = some (.cells #[.int .i64 a0_0, .int .i64 a0_1, .int .i64 a0_2, .int .i64 a0_3, .int .i64 a0_4, .int .i64 a0_5, .string a0_6] 44 (0, 0))) ∧ Aside0 (Below w.heap.size w wc))
    case first =>
      have H := HC7.out
      clear HC7
      replace H := Option.bind_eq_some_iff.mp H
      obtain ⟨t663, A120, H⟩ := H
      replace H : (if t663 = 0 then (wharfagelaw3_SegHeads.j0 k t661 (decide ((t661.size : Int) < 8)) a0_0 a0_1 a0_2 a0_3 a0_4 a0_5 a0_6) else (wharfagelaw3_SegHeads.j0 k t661 true a0_0 a0_1 a0_2 a0_3 a0_4 a0_5 a0_6)) = some r := H
      have A12 := Aside0.mk A120
      clear A120
      by_cases c13 : t663 = 0
      · rw [if_pos c13] at H
        have c13b0 : (t663 == 0) = true := beq_iff_eq.mpr c13
        have c13b1 : (t663 != 0) = false := bne_eq_false_iff_eq.mpr c13
        clear c13
        (first | rw [c13b0] | (simp only [i64_w, i32_w]; rw [c13b0]) | skip)
        have H' := Aside0.mk H
        clear H
        go_wp2_with (first | (go_at_call 25; (with_reducible refine (wharfagelaw0_Num.calls t662 t663 _ A12.out).mono ?_); rintro e w' ⟨rfl, ⟨nd, rfl⟩⟩; (try first | exact ⟨rfl, _, World.drewN_drewN _ _ _⟩ | exact ⟨rfl, _, Eq.trans (World.drewN_drewN _ _ _) (congrArg (World.drewN _) (Nat.add_assoc _ _ _))⟩)))
        repeat (go_quiet (first | (go_at_call 25; (with_reducible refine (wharfagelaw0_Num.calls t662 t663 _ A12.out).mono ?_); rintro e w' ⟨rfl, ⟨nd, rfl⟩⟩; (try first | exact ⟨rfl, _, World.drewN_drewN _ _ _⟩ | exact ⟨rfl, _, Eq.trans (World.drewN_drewN _ _ _) (congrArg (World.drewN _) (Nat.add_assoc _ _ _))⟩))); try go_wp2_with (first | (go_at_call 25; (with_reducible refine (wharfagelaw0_Num.calls t662 t663 _ A12.out).mono ?_); rintro e w' ⟨rfl, ⟨nd, rfl⟩⟩; (try first | exact ⟨rfl, _, World.drewN_drewN _ _ _⟩ | exact ⟨rfl, _, Eq.trans (World.drewN_drewN _ _ _) (congrArg (World.drewN _) (Nat.add_assoc _ _ _))⟩))))
        go_meet
        case rel => exact ⟨_, (decide ((t661.size : Int) < 8)), (by first | rfl | (simp; done) | (simp [*]; done)), H', ⟨by first | omega | exact Nat.le_refl _⟩, ⟨by (with_reducible repeat (first | refine blk_drewN ?_ _ | refine blk_drew ?_ | refine blk_alloc ?_ _)); exact BK659.out⟩, ⟨by repeat (first | (with_reducible first | exact HB.out | apply below_alloc | apply pw_below_drewN | apply below_drew1 | refine below_set ?_ GE659.out) | exact HB.out)⟩⟩
      · rw [if_neg c13] at H
        have c13b0 : (t663 == 0) = false := beq_eq_false_iff_ne.mpr c13
        have c13b1 : (t663 != 0) = true := bne_iff_ne.mpr c13
        (first | rw [c13b0] | (simp only [i64_w, i32_w]; rw [c13b0]) | skip)
        have H' := Aside0.mk H
        clear H
        go_wp2_with (first | (go_at_call 25; (with_reducible refine (wharfagelaw0_Num.calls t662 t663 _ A12.out).mono ?_); rintro e w' ⟨rfl, ⟨nd, rfl⟩⟩; (try first | exact ⟨rfl, _, World.drewN_drewN _ _ _⟩ | exact ⟨rfl, _, Eq.trans (World.drewN_drewN _ _ _) (congrArg (World.drewN _) (Nat.add_assoc _ _ _))⟩)))
        repeat (go_quiet (first | (go_at_call 25; (with_reducible refine (wharfagelaw0_Num.calls t662 t663 _ A12.out).mono ?_); rintro e w' ⟨rfl, ⟨nd, rfl⟩⟩; (try first | exact ⟨rfl, _, World.drewN_drewN _ _ _⟩ | exact ⟨rfl, _, Eq.trans (World.drewN_drewN _ _ _) (congrArg (World.drewN _) (Nat.add_assoc _ _ _))⟩))); try go_wp2_with (first | (go_at_call 25; (with_reducible refine (wharfagelaw0_Num.calls t662 t663 _ A12.out).mono ?_); rintro e w' ⟨rfl, ⟨nd, rfl⟩⟩; (try first | exact ⟨rfl, _, World.drewN_drewN _ _ _⟩ | exact ⟨rfl, _, Eq.trans (World.drewN_drewN _ _ _) (congrArg (World.drewN _) (Nat.add_assoc _ _ _))⟩))))
        go_meet
        case rel => exact ⟨_, (true), (by first | rfl | (simp; done) | (simp [*]; done)), H', ⟨by first | omega | exact Nat.le_refl _⟩, ⟨by (with_reducible repeat (first | refine blk_drewN ?_ _ | refine blk_drew ?_ | refine blk_alloc ?_ _)); exact BK659.out⟩, ⟨by repeat (first | (with_reducible first | exact HB.out | apply below_alloc | apply pw_below_drewN | apply below_drew1 | refine below_set ?_ GE659.out) | exact HB.out)⟩⟩
    case rest =>
      clear HC7
      try clear c1
      try clear p2
      try clear c5
      try clear c13
      try clear c13b0
      try clear c13b1
      try clear hcz10_0
      try clear hcz10_1
      try clear hcz10_2
      try clear hcz10_3
      try clear hcz10_4
      try clear hcz10_5
      try clear hcz10_6
      try clear hfz10_0
      try clear hfz10_1
      try clear hfz10_2
      try clear hfz10_3
      try clear hfz10_4
      try clear hfz10_5
      try clear hfz10_6
      obtain ⟨kq, x27_6, rfl, HA, HJ6, BK659, HB⟩ := hcut
      cases kq with
      | zero => exact absurd HA.out (by simp [wharfagelaw3_SegHeads.j0])
      | succ kj6 =>
        have H := HA.out
        clear HA
        simp only [wharfagelaw3_SegHeads.j0] at H
        by_cases c14 : x27_6 = true
        · subst c14
          have H1 : (some (t661.toList == ([] : List UInt8))) = some r := by rw [if_pos rfl] at H; exact H
          clear H
          have H := H1
          clear H1
          obtain rfl := Option.some.inj H
          go_wp2
          repeat (go_quiet (fail); try go_wp2)
          go_ret
          exact ⟨by first | rfl | (simp [errW_none, errW_some] <;> rfl) | (simp [*, errW_none, errW_some] <;> rfl), by repeat (first | (with_reducible first | exact HB.out | apply below_alloc | apply pw_below_drewN | apply below_drew1 | refine below_set ?_ GE659.out) | exact HB.out)⟩
        · replace c14 := Bool.eq_false_iff.mpr c14
          subst c14
          have H1 : (if 0 < (t661.size : Int) then (if 1 < (t661.size : Int) then (if (Go.bits .or .i64 (wrap64 ((wrap64 (bt t661 0)) * 256)) (wrap64 (bt t661 1))) = a0_1 then (if 2 < (t661.size : Int) then (if 3 < (t661.size : Int) then (wharfagelaw3_SegHeads.j1 kj6 t661 ((Go.bits .or .i64 (wrap64 ((wrap64 (bt t661 2)) * 256)) (wrap64 (bt t661 3))) != a0_2) a0_0 a0_1 a0_2 a0_3 a0_4 a0_5 a0_6) else (none)) else (none)) else (wharfagelaw3_SegHeads.j1 kj6 t661 true a0_0 a0_1 a0_2 a0_3 a0_4 a0_5 a0_6)) else (none)) else (none)) = some r := by rw [if_neg (show ¬ (false = true) by decide)] at H; exact H
          clear H
          have H := H1
          clear H1
          have HC15 := Aside0.mk H
          clear H
          go_upto_region 6 with (fail)
          repeat (go_quiet (fail); go_upto_region 6 with (fail))
          go_cut [53] (fun v53 wc => ∃ (kq : Nat) (x53_14 : Bool), v53 = .bool x53_14 ∧ Aside0 (wharfagelaw3_SegHeads.j1 kq t661 x53_14 a0_0 a0_1 a0_2 a0_3 a0_4 a0_5 a0_6 = some r) ∧ Aside0 (kq ≤ kj6) ∧ Aside0 (wc.heap[gb659]? = some (.cells #[.int .i64 a0_0, .int .i64 a0_1, .int .i64 a0_2, .int .i64 a0_3, .int .i64 a0_4, .int .i64 a0_5, .string a0_6] 44 (0, 0))) ∧ Aside0 (Below w.heap.size w wc))
          case first =>
            have H := HC15.out
            clear HC15
            by_cases c16 : 0 < (t661.size : Int)
            · rw [if_pos c16] at H
              have c16b0 : decide (0 < (t661.size : Int)) = true := decide_eq_true c16
              have c16b1 : decide (0 < t661.size) = true := decide_eq_true (by omega)
              clear c16
              (first | rw [c16b0] | (simp only [i64_w, i32_w]; rw [c16b0]) | skip)
              by_cases c18 : 1 < (t661.size : Int)
              · rw [if_pos c18] at H
                have c18b0 : decide (1 < (t661.size : Int)) = true := decide_eq_true c18
                have c18b1 : decide (1 < t661.size) = true := decide_eq_true (by omega)
                clear c18
                by_cases c20 : (Go.bits .or .i64 (wrap64 ((wrap64 (bt t661 0)) * 256)) (wrap64 (bt t661 1))) = a0_1
                · rw [if_pos c20] at H
                  have c20b0 : ((Go.bits .or .i64 (wrap64 ((wrap64 (bt t661 0)) * 256)) (wrap64 (bt t661 1))) == a0_1) = true := beq_iff_eq.mpr c20
                  have c20b1 : ((Go.bits .or .i64 (wrap64 ((wrap64 (bt t661 0)) * 256)) (wrap64 (bt t661 1))) != a0_1) = false := bne_eq_false_iff_eq.mpr c20
                  clear c20
                  by_cases c21 : 2 < (t661.size : Int)
                  · rw [if_pos c21] at H
                    have c21b0 : decide (2 < (t661.size : Int)) = true := decide_eq_true c21
                    have c21b1 : decide (2 < t661.size) = true := decide_eq_true (by omega)
                    clear c21
                    by_cases c23 : 3 < (t661.size : Int)
                    · rw [if_pos c23] at H
                      have c23b0 : decide (3 < (t661.size : Int)) = true := decide_eq_true c23
                      have c23b1 : decide (3 < t661.size) = true := decide_eq_true (by omega)
                      clear c23
                      have H' := Aside0.mk H
                      clear H
                      have p17 : 0 ≤ (0 : Int) := (by omega)
                      have q17 : 0 < t661.size := (by have : (0 : Int) < (t661.size : Int) := of_decide_eq_true (by first | (with_reducible assumption) | assumption); omega)
                      have hx17 : ∀ h : 0 < t661.size, ((t661[0]'h).toNat : Int) = bt t661 0 := bt_at t661 0
                      clear p17
                      have qi17 : (0 < (t661.size : Int)) = True := eq_true (of_decide_eq_true (by first | (with_reducible assumption) | assumption))
                      replace q17 := eq_true q17
                      have p19 : 0 ≤ (1 : Int) := (by omega)
                      have q19 : 1 < t661.size := (by have : (1 : Int) < (t661.size : Int) := of_decide_eq_true (by first | (with_reducible assumption) | assumption); omega)
                      have hx19 : ∀ h : 1 < t661.size, ((t661[1]'h).toNat : Int) = bt t661 1 := bt_at t661 1
                      clear p19
                      have qi19 : (1 < (t661.size : Int)) = True := eq_true (of_decide_eq_true (by first | (with_reducible assumption) | assumption))
                      replace q19 := eq_true q19
                      have hcz25_0 : wc.cell? ⟨gb659, 0, none⟩ = some (.int .i64 a0_0) := (blk_cell BK659.out 0).trans rfl
                      have hcz25_1 : wc.cell? ⟨gb659, 1, none⟩ = some (.int .i64 a0_1) := (blk_cell BK659.out 1).trans rfl
                      have hcz25_2 : wc.cell? ⟨gb659, 2, none⟩ = some (.int .i64 a0_2) := (blk_cell BK659.out 2).trans rfl
                      have hcz25_3 : wc.cell? ⟨gb659, 3, none⟩ = some (.int .i64 a0_3) := (blk_cell BK659.out 3).trans rfl
                      have hcz25_4 : wc.cell? ⟨gb659, 4, none⟩ = some (.int .i64 a0_4) := (blk_cell BK659.out 4).trans rfl
                      have hcz25_5 : wc.cell? ⟨gb659, 5, none⟩ = some (.int .i64 a0_5) := (blk_cell BK659.out 5).trans rfl
                      have hcz25_6 : wc.cell? ⟨gb659, 6, none⟩ = some (.string a0_6) := (blk_cell BK659.out 6).trans rfl
                      have hfz25_0 := blk_frozen BK659.out 0
                      have hfz25_1 := blk_frozen BK659.out 1
                      have hfz25_2 := blk_frozen BK659.out 2
                      have hfz25_3 := blk_frozen BK659.out 3
                      have hfz25_4 := blk_frozen BK659.out 4
                      have hfz25_5 := blk_frozen BK659.out 5
                      have hfz25_6 := blk_frozen BK659.out 6
                      have p22 : 0 ≤ (2 : Int) := (by omega)
                      have q22 : 2 < t661.size := (by have : (2 : Int) < (t661.size : Int) := of_decide_eq_true (by first | (with_reducible assumption) | assumption); omega)
                      have hx22 : ∀ h : 2 < t661.size, ((t661[2]'h).toNat : Int) = bt t661 2 := bt_at t661 2
                      clear p22
                      have qi22 : (2 < (t661.size : Int)) = True := eq_true (of_decide_eq_true (by first | (with_reducible assumption) | assumption))
                      replace q22 := eq_true q22
                      have p24 : 0 ≤ (3 : Int) := (by omega)
                      have q24 : 3 < t661.size := (by have : (3 : Int) < (t661.size : Int) := of_decide_eq_true (by first | (with_reducible assumption) | assumption); omega)
                      have hx24 : ∀ h : 3 < t661.size, ((t661[3]'h).toNat : Int) = bt t661 3 := bt_at t661 3
                      clear p24
                      have qi24 : (3 < (t661.size : Int)) = True := eq_true (of_decide_eq_true (by first | (with_reducible assumption) | assumption))
                      replace q24 := eq_true q24
                      go_wp2
                      repeat (go_quiet (fail); try go_wp2)
                      go_meet
                      case rel => exact ⟨_, (((Go.bits .or .i64 (wrap64 ((wrap64 (bt t661 2)) * 256)) (wrap64 (bt t661 3))) != a0_2)), (by first | rfl | (simp; done) | (simp [*]; done)), H', ⟨by have := HJ6.out; first | omega | exact Nat.le_refl _⟩, ⟨by (with_reducible repeat (first | refine blk_drewN ?_ _ | refine blk_drew ?_ | refine blk_alloc ?_ _)); exact BK659.out⟩, ⟨by repeat (first | (with_reducible first | exact HB.out | apply below_alloc | apply pw_below_drewN | apply below_drew1 | refine below_set ?_ GE659.out) | exact HB.out)⟩⟩
                    · rw [if_neg c23] at H
                      exact absurd H (by simp)
                  · rw [if_neg c21] at H
                    exact absurd H (by simp)
                · rw [if_neg c20] at H
                  have c20b0 : ((Go.bits .or .i64 (wrap64 ((wrap64 (bt t661 0)) * 256)) (wrap64 (bt t661 1))) == a0_1) = false := beq_eq_false_iff_ne.mpr c20
                  have c20b1 : ((Go.bits .or .i64 (wrap64 ((wrap64 (bt t661 0)) * 256)) (wrap64 (bt t661 1))) != a0_1) = true := bne_iff_ne.mpr c20
                  have H' := Aside0.mk H
                  clear H
                  have p17 : 0 ≤ (0 : Int) := (by omega)
                  have q17 : 0 < t661.size := (by have : (0 : Int) < (t661.size : Int) := of_decide_eq_true (by first | (with_reducible assumption) | assumption); omega)
                  have hx17 : ∀ h : 0 < t661.size, ((t661[0]'h).toNat : Int) = bt t661 0 := bt_at t661 0
                  clear p17
                  have qi17 : (0 < (t661.size : Int)) = True := eq_true (of_decide_eq_true (by first | (with_reducible assumption) | assumption))
                  replace q17 := eq_true q17
                  have p19 : 0 ≤ (1 : Int) := (by omega)
                  have q19 : 1 < t661.size := (by have : (1 : Int) < (t661.size : Int) := of_decide_eq_true (by first | (with_reducible assumption) | assumption); omega)
                  have hx19 : ∀ h : 1 < t661.size, ((t661[1]'h).toNat : Int) = bt t661 1 := bt_at t661 1
                  clear p19
                  have qi19 : (1 < (t661.size : Int)) = True := eq_true (of_decide_eq_true (by first | (with_reducible assumption) | assumption))
                  replace q19 := eq_true q19
                  have hcz26_0 : wc.cell? ⟨gb659, 0, none⟩ = some (.int .i64 a0_0) := (blk_cell BK659.out 0).trans rfl
                  have hcz26_1 : wc.cell? ⟨gb659, 1, none⟩ = some (.int .i64 a0_1) := (blk_cell BK659.out 1).trans rfl
                  have hcz26_2 : wc.cell? ⟨gb659, 2, none⟩ = some (.int .i64 a0_2) := (blk_cell BK659.out 2).trans rfl
                  have hcz26_3 : wc.cell? ⟨gb659, 3, none⟩ = some (.int .i64 a0_3) := (blk_cell BK659.out 3).trans rfl
                  have hcz26_4 : wc.cell? ⟨gb659, 4, none⟩ = some (.int .i64 a0_4) := (blk_cell BK659.out 4).trans rfl
                  have hcz26_5 : wc.cell? ⟨gb659, 5, none⟩ = some (.int .i64 a0_5) := (blk_cell BK659.out 5).trans rfl
                  have hcz26_6 : wc.cell? ⟨gb659, 6, none⟩ = some (.string a0_6) := (blk_cell BK659.out 6).trans rfl
                  have hfz26_0 := blk_frozen BK659.out 0
                  have hfz26_1 := blk_frozen BK659.out 1
                  have hfz26_2 := blk_frozen BK659.out 2
                  have hfz26_3 := blk_frozen BK659.out 3
                  have hfz26_4 := blk_frozen BK659.out 4
                  have hfz26_5 := blk_frozen BK659.out 5
                  have hfz26_6 := blk_frozen BK659.out 6
                  go_wp2
                  repeat (go_quiet (fail); try go_wp2)
                  go_meet
                  case rel => exact ⟨_, (true), (by first | rfl | (simp; done) | (simp [*]; done)), H', ⟨by have := HJ6.out; first | omega | exact Nat.le_refl _⟩, ⟨by (with_reducible repeat (first | refine blk_drewN ?_ _ | refine blk_drew ?_ | refine blk_alloc ?_ _)); exact BK659.out⟩, ⟨by repeat (first | (with_reducible first | exact HB.out | apply below_alloc | apply pw_below_drewN | apply below_drew1 | refine below_set ?_ GE659.out) | exact HB.out)⟩⟩
              · rw [if_neg c18] at H
                exact absurd H (by simp)
            · rw [if_neg c16] at H
              exact absurd H (by simp)
          case rest =>
            clear HC15
            try clear c1
            try clear p1
            try clear q1
            try clear hx1
            try clear qi1
            try clear c2
            try clear p2
            try clear q2
            try clear hx2
            try clear qi2
            try clear c5
            try clear p6
            try clear c13
            try clear c13b0
            try clear c13b1
            try clear c14
            try clear c16
            try clear c16b0
            try clear c16b1
            try clear p17
            try clear q17
            try clear hx17
            try clear qi17
            try clear c18
            try clear c18b0
            try clear c18b1
            try clear p19
            try clear q19
            try clear hx19
            try clear qi19
            try clear c20
            try clear c20b0
            try clear c20b1
            try clear c21
            try clear c21b0
            try clear c21b1
            try clear p22
            try clear q22
            try clear hx22
            try clear qi22
            try clear c23
            try clear c23b0
            try clear c23b1
            try clear p24
            try clear q24
            try clear hx24
            try clear qi24
            try clear hcz10_0
            try clear hcz10_1
            try clear hcz10_2
            try clear hcz10_3
            try clear hcz10_4
            try clear hcz10_5
            try clear hcz10_6
            try clear hcz25_0
            try clear hcz25_1
            try clear hcz25_2
            try clear hcz25_3
            try clear hcz25_4
            try clear hcz25_5
            try clear hcz25_6
            try clear hcz26_0
            try clear hcz26_1
            try clear hcz26_2
            try clear hcz26_3
            try clear hcz26_4
            try clear hcz26_5
            try clear hcz26_6
            try clear hfz10_0
            try clear hfz10_1
            try clear hfz10_2
            try clear hfz10_3
            try clear hfz10_4
            try clear hfz10_5
            try clear hfz10_6
            try clear hfz25_0
            try clear hfz25_1
            try clear hfz25_2
            try clear hfz25_3
            try clear hfz25_4
            try clear hfz25_5
            try clear hfz25_6
            try clear hfz26_0
            try clear hfz26_1
            try clear hfz26_2
            try clear hfz26_3
            try clear hfz26_4
            try clear hfz26_5
            try clear hfz26_6
            try clear p17
            try clear p19
            try clear p2
            try clear p22
            try clear p24
            try clear q17
            try clear q19
            try clear q22
            try clear q24
            obtain ⟨kq, x53_14, rfl, HA, HJ14, BK659, HB⟩ := hcut
            cases kq with
            | zero => exact absurd HA.out (by simp [wharfagelaw3_SegHeads.j1])
            | succ kj14 =>
              have H := HA.out
              clear HA
              simp only [wharfagelaw3_SegHeads.j1] at H
              by_cases c27 : x53_14 = true
              · subst c27
                have H1 : (none) = some r := by rw [if_pos rfl] at H; exact H
                clear H
                have H := H1
                clear H1
                exact absurd H (by simp)
              · replace c27 := Bool.eq_false_iff.mpr c27
                subst c27
                have H1 : (if a0_0 = 17 then (if 4 < (t661.size : Int) then (if 5 < (t661.size : Int) then (if (Go.bits .or .i64 (wrap64 ((wrap64 (bt t661 4)) * 256)) (wrap64 (bt t661 5))) = (t661.size : Int) then (if 8 ≤ (t661.size : Int) then (some ((t661.extract 8 t661.size).toList == a0_6.toList)) else (none)) else (none)) else (none)) else (none)) else (if (t661.size : Int) ≥ 20 then (if 4 < (t661.size : Int) then (if 5 < (t661.size : Int) then (if 6 < (t661.size : Int) then (if 7 < (t661.size : Int) then (if (Go.bits .or .i64 (Go.bits .or .i64 (Go.bits .or .i64 (wrap64 ((wrap64 (bt t661 4)) * 16777216)) (wrap64 ((wrap64 (bt t661 5)) * 65536))) (wrap64 ((wrap64 (bt t661 6)) * 256))) (wrap64 (bt t661 7))) = a0_3 then (if 8 < (t661.size : Int) then (if 9 < (t661.size : Int) then (if 10 < (t661.size : Int) then (if 11 < (t661.size : Int) then (if (Go.bits .or .i64 (Go.bits .or .i64 (Go.bits .or .i64 (wrap64 ((wrap64 (bt t661 8)) * 16777216)) (wrap64 ((wrap64 (bt t661 9)) * 65536))) (wrap64 ((wrap64 (bt t661 10)) * 256))) (wrap64 (bt t661 11))) = a0_4 then (if 12 < (t661.size : Int) then (if (bt t661 12) = 80 then (if 13 < (t661.size : Int) then (if (wrap64 (bt t661 13)) = a0_5 then (if 14 ≤ 16 then (if 16 ≤ (t661.size : Int) then (if (t661.extract 14 16).toList = ([4, 0] : List UInt8) then (if 18 ≤ 20 then (if 20 ≤ (t661.size : Int) then (if (t661.extract 18 20).toList = ([0, 0] : List UInt8) then (some ((t661.extract 20 t661.size).toList == a0_6.toList)) else (none)) else (none)) else (none)) else (none)) else (none)) else (none)) else (none)) else (none)) else (none)) else (none)) else (none)) else (none)) else (none)) else (none)) else (none)) else (none)) else (none)) else (none)) else (none)) else (none)) else (none))) = some r := by rw [if_neg (show ¬ (false = true) by decide)] at H; exact H
                clear H
                have H := H1
                clear H1
                by_cases c28 : a0_0 = 17
                · rw [if_pos c28] at H
                  have c28b0 : (a0_0 == 17) = true := beq_iff_eq.mpr c28
                  have c28b1 : (a0_0 != 17) = false := bne_eq_false_iff_eq.mpr c28
                  clear c28
                  by_cases c29 : 4 < (t661.size : Int)
                  · rw [if_pos c29] at H
                    have c29b0 : decide (4 < (t661.size : Int)) = true := decide_eq_true c29
                    have c29b1 : decide (4 < t661.size) = true := decide_eq_true (by omega)
                    clear c29
                    by_cases c31 : 5 < (t661.size : Int)
                    · rw [if_pos c31] at H
                      have c31b0 : decide (5 < (t661.size : Int)) = true := decide_eq_true c31
                      have c31b1 : decide (5 < t661.size) = true := decide_eq_true (by omega)
                      clear c31
                      by_cases c33 : (Go.bits .or .i64 (wrap64 ((wrap64 (bt t661 4)) * 256)) (wrap64 (bt t661 5))) = (t661.size : Int)
                      · rw [if_pos c33] at H
                        have c33b0 : ((Go.bits .or .i64 (wrap64 ((wrap64 (bt t661 4)) * 256)) (wrap64 (bt t661 5))) == (t661.size : Int)) = true := beq_iff_eq.mpr c33
                        have c33b1 : ((Go.bits .or .i64 (wrap64 ((wrap64 (bt t661 4)) * 256)) (wrap64 (bt t661 5))) != (t661.size : Int)) = false := bne_eq_false_iff_eq.mpr c33
                        clear c33
                        by_cases c34 : 8 ≤ (t661.size : Int)
                        · rw [if_pos c34] at H
                          have c34b0 := eq_true c34
                          have c34b1 : decide (8 ≤ (t661.size : Int)) = true := decide_eq_true c34
                          clear c34
                          obtain rfl := Option.some.inj H
                          have hcz35_0 : wc.cell? ⟨gb659, 0, none⟩ = some (.int .i64 a0_0) := (blk_cell BK659.out 0).trans rfl
                          have hcz35_1 : wc.cell? ⟨gb659, 1, none⟩ = some (.int .i64 a0_1) := (blk_cell BK659.out 1).trans rfl
                          have hcz35_2 : wc.cell? ⟨gb659, 2, none⟩ = some (.int .i64 a0_2) := (blk_cell BK659.out 2).trans rfl
                          have hcz35_3 : wc.cell? ⟨gb659, 3, none⟩ = some (.int .i64 a0_3) := (blk_cell BK659.out 3).trans rfl
                          have hcz35_4 : wc.cell? ⟨gb659, 4, none⟩ = some (.int .i64 a0_4) := (blk_cell BK659.out 4).trans rfl
                          have hcz35_5 : wc.cell? ⟨gb659, 5, none⟩ = some (.int .i64 a0_5) := (blk_cell BK659.out 5).trans rfl
                          have hcz35_6 : wc.cell? ⟨gb659, 6, none⟩ = some (.string a0_6) := (blk_cell BK659.out 6).trans rfl
                          have hfz35_0 := blk_frozen BK659.out 0
                          have hfz35_1 := blk_frozen BK659.out 1
                          have hfz35_2 := blk_frozen BK659.out 2
                          have hfz35_3 := blk_frozen BK659.out 3
                          have hfz35_4 := blk_frozen BK659.out 4
                          have hfz35_5 := blk_frozen BK659.out 5
                          have hfz35_6 := blk_frozen BK659.out 6
                          have p30 : 0 ≤ (4 : Int) := (by omega)
                          have q30 : 4 < t661.size := (by have : (4 : Int) < (t661.size : Int) := of_decide_eq_true (by first | (with_reducible assumption) | assumption); omega)
                          have hx30 : ∀ h : 4 < t661.size, ((t661[4]'h).toNat : Int) = bt t661 4 := bt_at t661 4
                          clear p30
                          have qi30 : (4 < (t661.size : Int)) = True := eq_true (of_decide_eq_true (by first | (with_reducible assumption) | assumption))
                          replace q30 := eq_true q30
                          have p32 : 0 ≤ (5 : Int) := (by omega)
                          have q32 : 5 < t661.size := (by have : (5 : Int) < (t661.size : Int) := of_decide_eq_true (by first | (with_reducible assumption) | assumption); omega)
                          have hx32 : ∀ h : 5 < t661.size, ((t661[5]'h).toNat : Int) = bt t661 5 := bt_at t661 5
                          clear p32
                          have qi32 : (5 < (t661.size : Int)) = True := eq_true (of_decide_eq_true (by first | (with_reducible assumption) | assumption))
                          replace q32 := eq_true q32
                          go_wp2
                          repeat (go_quiet (fail); try go_wp2)
                          go_ret
                          exact ⟨by first | rfl | (simp [errW_none, errW_some] <;> rfl) | (simp [*, errW_none, errW_some] <;> rfl), by repeat (first | (with_reducible first | exact HB.out | apply below_alloc | apply pw_below_drewN | apply below_drew1 | refine below_set ?_ GE659.out) | exact HB.out)⟩
                        · rw [if_neg c34] at H
                          exact absurd H (by simp)
                      · rw [if_neg c33] at H
                        exact absurd H (by simp)
                    · rw [if_neg c31] at H
                      exact absurd H (by simp)
                  · rw [if_neg c29] at H
                    exact absurd H (by simp)
                · rw [if_neg c28] at H
                  have c28b0 : (a0_0 == 17) = false := beq_eq_false_iff_ne.mpr c28
                  have c28b1 : (a0_0 != 17) = true := bne_iff_ne.mpr c28
                  by_cases c36 : (t661.size : Int) ≥ 20
                  · rw [if_pos c36] at H
                    have c36b0 : decide (20 ≤ (t661.size : Int)) = true := decide_eq_true c36
                    have c36b1 : decide (20 ≤ t661.size) = true := decide_eq_true (by omega)
                    clear c36
                    by_cases c37 : 4 < (t661.size : Int)
                    · rw [if_pos c37] at H
                      have c37b0 : decide (4 < (t661.size : Int)) = true := decide_eq_true c37
                      have c37b1 : decide (4 < t661.size) = true := decide_eq_true (by omega)
                      clear c37
                      by_cases c39 : 5 < (t661.size : Int)
                      · rw [if_pos c39] at H
                        have c39b0 : decide (5 < (t661.size : Int)) = true := decide_eq_true c39
                        have c39b1 : decide (5 < t661.size) = true := decide_eq_true (by omega)
                        clear c39
                        by_cases c41 : 6 < (t661.size : Int)
                        · rw [if_pos c41] at H
                          have c41b0 : decide (6 < (t661.size : Int)) = true := decide_eq_true c41
                          have c41b1 : decide (6 < t661.size) = true := decide_eq_true (by omega)
                          clear c41
                          by_cases c43 : 7 < (t661.size : Int)
                          · rw [if_pos c43] at H
                            have c43b0 : decide (7 < (t661.size : Int)) = true := decide_eq_true c43
                            have c43b1 : decide (7 < t661.size) = true := decide_eq_true (by omega)
                            clear c43
                            by_cases c45 : (Go.bits .or .i64 (Go.bits .or .i64 (Go.bits .or .i64 (wrap64 ((wrap64 (bt t661 4)) * 16777216)) (wrap64 ((wrap64 (bt t661 5)) * 65536))) (wrap64 ((wrap64 (bt t661 6)) * 256))) (wrap64 (bt t661 7))) = a0_3
                            · rw [if_pos c45] at H
                              have c45b0 : ((Go.bits .or .i64 (Go.bits .or .i64 (Go.bits .or .i64 (wrap64 ((wrap64 (bt t661 4)) * 16777216)) (wrap64 ((wrap64 (bt t661 5)) * 65536))) (wrap64 ((wrap64 (bt t661 6)) * 256))) (wrap64 (bt t661 7))) == a0_3) = true := beq_iff_eq.mpr c45
                              have c45b1 : ((Go.bits .or .i64 (Go.bits .or .i64 (Go.bits .or .i64 (wrap64 ((wrap64 (bt t661 4)) * 16777216)) (wrap64 ((wrap64 (bt t661 5)) * 65536))) (wrap64 ((wrap64 (bt t661 6)) * 256))) (wrap64 (bt t661 7))) != a0_3) = false := bne_eq_false_iff_eq.mpr c45
                              clear c45
                              by_cases c46 : 8 < (t661.size : Int)
                              · rw [if_pos c46] at H
                                have c46b0 : decide (8 < (t661.size : Int)) = true := decide_eq_true c46
                                have c46b1 : decide (8 < t661.size) = true := decide_eq_true (by omega)
                                clear c46
                                by_cases c48 : 9 < (t661.size : Int)
                                · rw [if_pos c48] at H
                                  have c48b0 : decide (9 < (t661.size : Int)) = true := decide_eq_true c48
                                  have c48b1 : decide (9 < t661.size) = true := decide_eq_true (by omega)
                                  clear c48
                                  by_cases c50 : 10 < (t661.size : Int)
                                  · rw [if_pos c50] at H
                                    have c50b0 : decide (10 < (t661.size : Int)) = true := decide_eq_true c50
                                    have c50b1 : decide (10 < t661.size) = true := decide_eq_true (by omega)
                                    clear c50
                                    by_cases c52 : 11 < (t661.size : Int)
                                    · rw [if_pos c52] at H
                                      have c52b0 : decide (11 < (t661.size : Int)) = true := decide_eq_true c52
                                      have c52b1 : decide (11 < t661.size) = true := decide_eq_true (by omega)
                                      clear c52
                                      by_cases c54 : (Go.bits .or .i64 (Go.bits .or .i64 (Go.bits .or .i64 (wrap64 ((wrap64 (bt t661 8)) * 16777216)) (wrap64 ((wrap64 (bt t661 9)) * 65536))) (wrap64 ((wrap64 (bt t661 10)) * 256))) (wrap64 (bt t661 11))) = a0_4
                                      · rw [if_pos c54] at H
                                        have c54b0 : ((Go.bits .or .i64 (Go.bits .or .i64 (Go.bits .or .i64 (wrap64 ((wrap64 (bt t661 8)) * 16777216)) (wrap64 ((wrap64 (bt t661 9)) * 65536))) (wrap64 ((wrap64 (bt t661 10)) * 256))) (wrap64 (bt t661 11))) == a0_4) = true := beq_iff_eq.mpr c54
                                        have c54b1 : ((Go.bits .or .i64 (Go.bits .or .i64 (Go.bits .or .i64 (wrap64 ((wrap64 (bt t661 8)) * 16777216)) (wrap64 ((wrap64 (bt t661 9)) * 65536))) (wrap64 ((wrap64 (bt t661 10)) * 256))) (wrap64 (bt t661 11))) != a0_4) = false := bne_eq_false_iff_eq.mpr c54
                                        clear c54
                                        by_cases c55 : 12 < (t661.size : Int)
                                        · rw [if_pos c55] at H
                                          have c55b0 : decide (12 < (t661.size : Int)) = true := decide_eq_true c55
                                          have c55b1 : decide (12 < t661.size) = true := decide_eq_true (by omega)
                                          clear c55
                                          by_cases c57 : (bt t661 12) = 80
                                          · rw [if_pos c57] at H
                                            have c57b0 : ((bt t661 12) == 80) = true := beq_iff_eq.mpr c57
                                            have c57b1 : ((bt t661 12) != 80) = false := bne_eq_false_iff_eq.mpr c57
                                            clear c57
                                            by_cases c58 : 13 < (t661.size : Int)
                                            · rw [if_pos c58] at H
                                              have c58b0 : decide (13 < (t661.size : Int)) = true := decide_eq_true c58
                                              have c58b1 : decide (13 < t661.size) = true := decide_eq_true (by omega)
                                              clear c58
                                              by_cases c60 : (wrap64 (bt t661 13)) = a0_5
                                              · rw [if_pos c60] at H
                                                have c60b0 : ((wrap64 (bt t661 13)) == a0_5) = true := beq_iff_eq.mpr c60
                                                have c60b1 : ((wrap64 (bt t661 13)) != a0_5) = false := bne_eq_false_iff_eq.mpr c60
                                                clear c60
                                                by_cases c61 : 14 ≤ 16
                                                · rw [if_pos c61] at H
                                                  have c61b0 := eq_true c61
                                                  have c61b1 : decide (14 ≤ 16) = true := decide_eq_true c61
                                                  clear c61
                                                  by_cases c62 : 16 ≤ (t661.size : Int)
                                                  · rw [if_pos c62] at H
                                                    have c62b0 := eq_true c62
                                                    have c62b1 : decide (16 ≤ (t661.size : Int)) = true := decide_eq_true c62
                                                    clear c62
                                                    by_cases c63 : (t661.extract 14 16).toList = ([4, 0] : List UInt8)
                                                    · rw [if_pos c63] at H
                                                      have c63b0 : ((t661.extract 14 16).toList == ([4, 0] : List UInt8)) = true := beq_iff_eq.mpr c63
                                                      have c63b1 : ((t661.extract 14 16).toList != ([4, 0] : List UInt8)) = false := bne_eq_false_iff_eq.mpr c63
                                                      clear c63
                                                      by_cases c64 : 18 ≤ 20
                                                      · rw [if_pos c64] at H
                                                        have c64b0 := eq_true c64
                                                        have c64b1 : decide (18 ≤ 20) = true := decide_eq_true c64
                                                        clear c64
                                                        by_cases c65 : 20 ≤ (t661.size : Int)
                                                        · rw [if_pos c65] at H
                                                          have c65b0 := eq_true c65
                                                          have c65b1 : decide (20 ≤ (t661.size : Int)) = true := decide_eq_true c65
                                                          clear c65
                                                          by_cases c66 : (t661.extract 18 20).toList = ([0, 0] : List UInt8)
                                                          · rw [if_pos c66] at H
                                                            have c66b0 : ((t661.extract 18 20).toList == ([0, 0] : List UInt8)) = true := beq_iff_eq.mpr c66
                                                            have c66b1 : ((t661.extract 18 20).toList != ([0, 0] : List UInt8)) = false := bne_eq_false_iff_eq.mpr c66
                                                            clear c66
                                                            have c67b0 := eq_true (of_decide_eq_true (by first | (with_reducible assumption) | assumption) : 20 ≤ (t661.size : Int))
                                                            obtain rfl := Option.some.inj H
                                                            have hcz68_0 : wc.cell? ⟨gb659, 0, none⟩ = some (.int .i64 a0_0) := (blk_cell BK659.out 0).trans rfl
                                                            have hcz68_1 : wc.cell? ⟨gb659, 1, none⟩ = some (.int .i64 a0_1) := (blk_cell BK659.out 1).trans rfl
                                                            have hcz68_2 : wc.cell? ⟨gb659, 2, none⟩ = some (.int .i64 a0_2) := (blk_cell BK659.out 2).trans rfl
                                                            have hcz68_3 : wc.cell? ⟨gb659, 3, none⟩ = some (.int .i64 a0_3) := (blk_cell BK659.out 3).trans rfl
                                                            have hcz68_4 : wc.cell? ⟨gb659, 4, none⟩ = some (.int .i64 a0_4) := (blk_cell BK659.out 4).trans rfl
                                                            have hcz68_5 : wc.cell? ⟨gb659, 5, none⟩ = some (.int .i64 a0_5) := (blk_cell BK659.out 5).trans rfl
                                                            have hcz68_6 : wc.cell? ⟨gb659, 6, none⟩ = some (.string a0_6) := (blk_cell BK659.out 6).trans rfl
                                                            have hfz68_0 := blk_frozen BK659.out 0
                                                            have hfz68_1 := blk_frozen BK659.out 1
                                                            have hfz68_2 := blk_frozen BK659.out 2
                                                            have hfz68_3 := blk_frozen BK659.out 3
                                                            have hfz68_4 := blk_frozen BK659.out 4
                                                            have hfz68_5 := blk_frozen BK659.out 5
                                                            have hfz68_6 := blk_frozen BK659.out 6
                                                            have p38 : 0 ≤ (4 : Int) := (by omega)
                                                            have q38 : 4 < t661.size := (by have : (4 : Int) < (t661.size : Int) := of_decide_eq_true (by first | (with_reducible assumption) | assumption); omega)
                                                            have hx38 : ∀ h : 4 < t661.size, ((t661[4]'h).toNat : Int) = bt t661 4 := bt_at t661 4
                                                            clear p38
                                                            have qi38 : (4 < (t661.size : Int)) = True := eq_true (of_decide_eq_true (by first | (with_reducible assumption) | assumption))
                                                            replace q38 := eq_true q38
                                                            have p40 : 0 ≤ (5 : Int) := (by omega)
                                                            have q40 : 5 < t661.size := (by have : (5 : Int) < (t661.size : Int) := of_decide_eq_true (by first | (with_reducible assumption) | assumption); omega)
                                                            have hx40 : ∀ h : 5 < t661.size, ((t661[5]'h).toNat : Int) = bt t661 5 := bt_at t661 5
                                                            clear p40
                                                            have qi40 : (5 < (t661.size : Int)) = True := eq_true (of_decide_eq_true (by first | (with_reducible assumption) | assumption))
                                                            replace q40 := eq_true q40
                                                            have p42 : 0 ≤ (6 : Int) := (by omega)
                                                            have q42 : 6 < t661.size := (by have : (6 : Int) < (t661.size : Int) := of_decide_eq_true (by first | (with_reducible assumption) | assumption); omega)
                                                            have hx42 : ∀ h : 6 < t661.size, ((t661[6]'h).toNat : Int) = bt t661 6 := bt_at t661 6
                                                            clear p42
                                                            have qi42 : (6 < (t661.size : Int)) = True := eq_true (of_decide_eq_true (by first | (with_reducible assumption) | assumption))
                                                            replace q42 := eq_true q42
                                                            have p44 : 0 ≤ (7 : Int) := (by omega)
                                                            have q44 : 7 < t661.size := (by have : (7 : Int) < (t661.size : Int) := of_decide_eq_true (by first | (with_reducible assumption) | assumption); omega)
                                                            have hx44 : ∀ h : 7 < t661.size, ((t661[7]'h).toNat : Int) = bt t661 7 := bt_at t661 7
                                                            clear p44
                                                            have qi44 : (7 < (t661.size : Int)) = True := eq_true (of_decide_eq_true (by first | (with_reducible assumption) | assumption))
                                                            replace q44 := eq_true q44
                                                            have p47 : 0 ≤ (8 : Int) := (by omega)
                                                            have q47 : 8 < t661.size := (by have : (8 : Int) < (t661.size : Int) := of_decide_eq_true (by first | (with_reducible assumption) | assumption); omega)
                                                            have hx47 : ∀ h : 8 < t661.size, ((t661[8]'h).toNat : Int) = bt t661 8 := bt_at t661 8
                                                            clear p47
                                                            have qi47 : (8 < (t661.size : Int)) = True := eq_true (of_decide_eq_true (by first | (with_reducible assumption) | assumption))
                                                            replace q47 := eq_true q47
                                                            have p49 : 0 ≤ (9 : Int) := (by omega)
                                                            have q49 : 9 < t661.size := (by have : (9 : Int) < (t661.size : Int) := of_decide_eq_true (by first | (with_reducible assumption) | assumption); omega)
                                                            have hx49 : ∀ h : 9 < t661.size, ((t661[9]'h).toNat : Int) = bt t661 9 := bt_at t661 9
                                                            clear p49
                                                            have qi49 : (9 < (t661.size : Int)) = True := eq_true (of_decide_eq_true (by first | (with_reducible assumption) | assumption))
                                                            replace q49 := eq_true q49
                                                            have p51 : 0 ≤ (10 : Int) := (by omega)
                                                            have q51 : 10 < t661.size := (by have : (10 : Int) < (t661.size : Int) := of_decide_eq_true (by first | (with_reducible assumption) | assumption); omega)
                                                            have hx51 : ∀ h : 10 < t661.size, ((t661[10]'h).toNat : Int) = bt t661 10 := bt_at t661 10
                                                            clear p51
                                                            have qi51 : (10 < (t661.size : Int)) = True := eq_true (of_decide_eq_true (by first | (with_reducible assumption) | assumption))
                                                            replace q51 := eq_true q51
                                                            have p53 : 0 ≤ (11 : Int) := (by omega)
                                                            have q53 : 11 < t661.size := (by have : (11 : Int) < (t661.size : Int) := of_decide_eq_true (by first | (with_reducible assumption) | assumption); omega)
                                                            have hx53 : ∀ h : 11 < t661.size, ((t661[11]'h).toNat : Int) = bt t661 11 := bt_at t661 11
                                                            clear p53
                                                            have qi53 : (11 < (t661.size : Int)) = True := eq_true (of_decide_eq_true (by first | (with_reducible assumption) | assumption))
                                                            replace q53 := eq_true q53
                                                            have p56 : 0 ≤ (12 : Int) := (by omega)
                                                            have q56 : 12 < t661.size := (by have : (12 : Int) < (t661.size : Int) := of_decide_eq_true (by first | (with_reducible assumption) | assumption); omega)
                                                            have hx56 : ∀ h : 12 < t661.size, ((t661[12]'h).toNat : Int) = bt t661 12 := bt_at t661 12
                                                            clear p56
                                                            have qi56 : (12 < (t661.size : Int)) = True := eq_true (of_decide_eq_true (by first | (with_reducible assumption) | assumption))
                                                            replace q56 := eq_true q56
                                                            have p59 : 0 ≤ (13 : Int) := (by omega)
                                                            have q59 : 13 < t661.size := (by have : (13 : Int) < (t661.size : Int) := of_decide_eq_true (by first | (with_reducible assumption) | assumption); omega)
                                                            have hx59 : ∀ h : 13 < t661.size, ((t661[13]'h).toNat : Int) = bt t661 13 := bt_at t661 13
                                                            clear p59
                                                            have qi59 : (13 < (t661.size : Int)) = True := eq_true (of_decide_eq_true (by first | (with_reducible assumption) | assumption))
                                                            replace q59 := eq_true q59
                                                            go_wp2
                                                            repeat (go_quiet (fail); try go_wp2)
                                                            go_ret
                                                            exact ⟨by first | rfl | (simp [errW_none, errW_some] <;> rfl) | (simp [*, errW_none, errW_some] <;> rfl), by repeat (first | (with_reducible first | exact HB.out | apply below_alloc | apply pw_below_drewN | apply below_drew1 | refine below_set ?_ GE659.out) | exact HB.out)⟩
                                                          · rw [if_neg c66] at H
                                                            exact absurd H (by simp)
                                                        · rw [if_neg c65] at H
                                                          exact absurd H (by simp)
                                                      · rw [if_neg c64] at H
                                                        exact absurd H (by simp)
                                                    · rw [if_neg c63] at H
                                                      exact absurd H (by simp)
                                                  · rw [if_neg c62] at H
                                                    exact absurd H (by simp)
                                                · rw [if_neg c61] at H
                                                  exact absurd H (by simp)
                                              · rw [if_neg c60] at H
                                                exact absurd H (by simp)
                                            · rw [if_neg c58] at H
                                              exact absurd H (by simp)
                                          · rw [if_neg c57] at H
                                            exact absurd H (by simp)
                                        · rw [if_neg c55] at H
                                          exact absurd H (by simp)
                                      · rw [if_neg c54] at H
                                        exact absurd H (by simp)
                                    · rw [if_neg c52] at H
                                      exact absurd H (by simp)
                                  · rw [if_neg c50] at H
                                    exact absurd H (by simp)
                                · rw [if_neg c48] at H
                                  exact absurd H (by simp)
                              · rw [if_neg c46] at H
                                exact absurd H (by simp)
                            · rw [if_neg c45] at H
                              exact absurd H (by simp)
                          · rw [if_neg c43] at H
                            exact absurd H (by simp)
                        · rw [if_neg c41] at H
                          exact absurd H (by simp)
                      · rw [if_neg c39] at H
                        exact absurd H (by simp)
                    · rw [if_neg c37] at H
                      exact absurd H (by simp)
                  · rw [if_neg c36] at H
                    exact absurd H (by simp)
  · replace c5 := Bool.eq_false_iff.mpr c5
    subst c5
    have H1 : (none) = some r := by rw [if_neg (show ¬ (false = true) by decide)] at H; exact H
    clear H
    have H := H1
    clear H1
    exact absurd H (by simp)

end Go.Proofs.Ytobhmonmeocfmaa.PA
