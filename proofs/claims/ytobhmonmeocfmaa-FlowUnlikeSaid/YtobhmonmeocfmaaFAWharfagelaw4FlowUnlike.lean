-- printed by a program of this session (myprint.py) out of the translation
import Derived.Test.YtobhmonmeocfmaaFAM0
import Derived.Test.YtobhmonmeocfmaaFAFlowPacket
import Derived.Test.YtobhmonmeocfmaaFAWharfagelaw4Awake
namespace Go.Proofs.Ytobhmonmeocfmaa.PA
open Go.RowKit Go.Proofs.YtobhmonmeocfmaaW.PrintWords Go.Proofs.YtobhmonmeocfmaaW.PrintLast Go.Proofs.YtobhmonmeocfmaaW.PrintMore
attribute [local go_sem] max2_int min2_int max_two min_two max_three min_three max_four min_four   -- for this text's walks alone
set_option linter.unusedVariables false
set_option linter.unusedSimpArgs false

attribute [local go_sem high] eqA61
/-! ### wharfagelaw4_FlowUnlike: function 18 -/
def wharfagelaw4_FlowUnlike.j0 : Nat → ByteArray → Int → ByteArray → Int → Bool → Int → Int → Int → Int → Int → Int → Int → Int → Int → Int → Option (Bool)
  | 0, _, _, _, _, _, _, _, _, _, _, _, _, _, _, _ => none
  | k + 1, x7, x8, x9, x10, x32, x919000, x919001, x919002, x919003, x919004, x920000, x920001, x920002, x920003, x920004 => if x32 = true then ((wharfagelaw0_Num.f x8).bind fun t927 => (if t927 = 0 then ((wharfagelaw0_Num.f x10).bind fun t928 => (if t928 = 0 then (some true) else (some (x9.toList == ([] : List UInt8))))) else (if x7.toList = ([] : List UInt8) then ((wharfagelaw0_Num.f x10).bind fun t929 => (if t929 = 0 then (some true) else (some (x9.toList == ([] : List UInt8))))) else (none)))) else (some ((x7.toList == x9.toList) == (x919000 == x920000 && (x919001 == x920001 && (x919002 == x920002 && (x919003 == x920003 && (x919004 == x920004)))))))
def wharfagelaw4_FlowUnlike.f (k : Nat) (a0_0 : Int) (a0_1 : Int) (a0_2 : Int) (a0_3 : Int) (a0_4 : Int) (a1_0 : Int) (a1_1 : Int) (a1_2 : Int) (a1_3 : Int) (a1_4 : Int) (a2 : ByteArray) : Option (Bool) := (wharfagelaw4_awake.f k).bind fun t920 => (if t920 = true then ((flow_Packet.f k a0_0 a0_1 a0_2 a0_3 a0_4 0 a2).bind fun bt921 => ((flow_Packet.f k a1_0 a1_1 a1_2 a1_3 a1_4 0 a2).bind fun bt923 => ((wharfagelaw0_Num.f bt921.2).bind fun t925 => (if t925 = 0 then ((wharfagelaw0_Num.f bt923.2).bind fun t926 => (wharfagelaw4_FlowUnlike.j0 k bt921.1 bt921.2 bt923.1 bt923.2 (t926 != 0) a0_0 a0_1 a0_2 a0_3 a0_4 a1_0 a1_1 a1_2 a1_3 a1_4)) else (wharfagelaw4_FlowUnlike.j0 k bt921.1 bt921.2 bt923.1 bt923.2 true a0_0 a0_1 a0_2 a0_3 a0_4 a1_0 a1_1 a1_2 a1_3 a1_4))))) else (none))
theorem wharfagelaw4_FlowUnlike.mono_l : ∀ k, (∀ y0 y1 y2 y3 y4 y5 y6 y7 y8 y9 y10 y11 y12 y13 y14, LeO (wharfagelaw4_FlowUnlike.j0 k y0 y1 y2 y3 y4 y5 y6 y7 y8 y9 y10 y11 y12 y13 y14) (wharfagelaw4_FlowUnlike.j0 (k + 1) y0 y1 y2 y3 y4 y5 y6 y7 y8 y9 y10 y11 y12 y13 y14))
  | 0 => fun _ _ _ _ _ _ _ _ _ _ _ _ _ _ _ r h => by simp [wharfagelaw4_FlowUnlike.j0] at h
  | k + 1 => by
    have ih0 := wharfagelaw4_FlowUnlike.mono_l k
    · intro y0 y1 y2 y3 y4 y5 y6 y7 y8 y9 y10 y11 y12 y13 y14
      unfold wharfagelaw4_FlowUnlike.j0
      repeat' first
      | (with_reducible exact ih0 _ _ _ _ _ _ _ _ _ _ _ _ _ _ _)
      | (with_reducible exact flow_Packet.mono _ _ _ _ _ _ _ _)
      | (with_reducible exact wharfagelaw4_awake.mono _)
      | (with_reducible exact LeO.refl _)
      | (with_reducible exact LeO.none _)
      | (with_reducible refine LeO.ite ?_ ?_)
      | (with_reducible refine LeO.bind ?_ (fun _ => ?_))
      | exact ih0 _ _ _ _ _ _ _ _ _ _ _ _ _ _ _
      | exact flow_Packet.mono _ _ _ _ _ _ _ _
      | exact wharfagelaw4_awake.mono _
      | exact LeO.none _
      | refine LeO.ite ?_ ?_
      | refine LeO.bind ?_ (fun _ => ?_)
theorem wharfagelaw4_FlowUnlike.mono : ∀ a0 a1 a2 a3 a4 a5 a6 a7 a8 a9 a10 k, LeO (wharfagelaw4_FlowUnlike.f k a0 a1 a2 a3 a4 a5 a6 a7 a8 a9 a10) (wharfagelaw4_FlowUnlike.f (k + 1) a0 a1 a2 a3 a4 a5 a6 a7 a8 a9 a10) := by
  intro a0 a1 a2 a3 a4 a5 a6 a7 a8 a9 a10 k
  have ih0 := wharfagelaw4_FlowUnlike.mono_l k
  unfold wharfagelaw4_FlowUnlike.f
  repeat' first
      | (with_reducible exact ih0 _ _ _ _ _ _ _ _ _ _ _ _ _ _ _)
      | (with_reducible exact flow_Packet.mono _ _ _ _ _ _ _ _)
      | (with_reducible exact wharfagelaw4_awake.mono _)
      | (with_reducible exact LeO.refl _)
      | (with_reducible exact LeO.none _)
      | (with_reducible refine LeO.ite ?_ ?_)
      | (with_reducible refine LeO.bind ?_ (fun _ => ?_))
      | exact ih0 _ _ _ _ _ _ _ _ _ _ _ _ _ _ _
      | exact flow_Packet.mono _ _ _ _ _ _ _ _
      | exact wharfagelaw4_awake.mono _
      | exact LeO.none _
      | refine LeO.ite ?_ ?_
      | refine LeO.bind ?_ (fun _ => ?_)
set_option maxHeartbeats 8000000 in
set_option maxRecDepth 100000 in
theorem wharfagelaw4_FlowUnlike.calls (k : Nat) (a0_0 : Int) (a0_1 : Int) (a0_2 : Int) (a0_3 : Int) (a0_4 : Int) (a1_0 : Int) (a1_1 : Int) (a1_2 : Int) (a1_3 : Int) (a1_4 : Int) (a2 : ByteArray) (r : Bool) (w : World) (h : wharfagelaw4_FlowUnlike.f k a0_0 a0_1 a0_2 a0_3 a0_4 a1_0 a1_1 a1_2 a1_3 a1_4 a2 = some r) :
    Calls Try.prog 18 #[.agg #[.int .i64 a0_0, .int .i64 a0_1, .int .i64 a0_2, .int .i64 a0_3, .int .i64 a0_4], .agg #[.int .i64 a1_0, .int .i64 a1_1, .int .i64 a1_2, .int .i64 a1_3, .int .i64 a1_4], .string a2] w fun e w' => e = .returned (.bool r) ∧ Below w.heap.size w w' := by
  have hu61 := Try.underlying61
  have HB := Aside0.mk (Below.refl w.heap.size w)
  have H : ((wharfagelaw4_awake.f k).bind fun t920 => (if t920 = true then ((flow_Packet.f k a0_0 a0_1 a0_2 a0_3 a0_4 0 a2).bind fun bt921 => ((flow_Packet.f k a1_0 a1_1 a1_2 a1_3 a1_4 0 a2).bind fun bt923 => ((wharfagelaw0_Num.f bt921.2).bind fun t925 => (if t925 = 0 then ((wharfagelaw0_Num.f bt923.2).bind fun t926 => (wharfagelaw4_FlowUnlike.j0 k bt921.1 bt921.2 bt923.1 bt923.2 (t926 != 0) a0_0 a0_1 a0_2 a0_3 a0_4 a1_0 a1_1 a1_2 a1_3 a1_4)) else (wharfagelaw4_FlowUnlike.j0 k bt921.1 bt921.2 bt923.1 bt923.2 true a0_0 a0_1 a0_2 a0_3 a0_4 a1_0 a1_1 a1_2 a1_3 a1_4))))) else (none))) = some r := h
  clear h
  replace H := Option.bind_eq_some_iff.mp H
  obtain ⟨t920, A40, H⟩ := H
  replace H : (if t920 = true then ((flow_Packet.f k a0_0 a0_1 a0_2 a0_3 a0_4 0 a2).bind fun bt921 => ((flow_Packet.f k a1_0 a1_1 a1_2 a1_3 a1_4 0 a2).bind fun bt923 => ((wharfagelaw0_Num.f bt921.2).bind fun t925 => (if t925 = 0 then ((wharfagelaw0_Num.f bt923.2).bind fun t926 => (wharfagelaw4_FlowUnlike.j0 k bt921.1 bt921.2 bt923.1 bt923.2 (t926 != 0) a0_0 a0_1 a0_2 a0_3 a0_4 a1_0 a1_1 a1_2 a1_3 a1_4)) else (wharfagelaw4_FlowUnlike.j0 k bt921.1 bt921.2 bt923.1 bt923.2 true a0_0 a0_1 a0_2 a0_3 a0_4 a1_0 a1_1 a1_2 a1_3 a1_4))))) else (none)) = some r := H
  have A4 := Aside0.mk A40
  clear A40
  by_cases c5 : t920 = true
  · subst c5
    have H1 : ((flow_Packet.f k a0_0 a0_1 a0_2 a0_3 a0_4 0 a2).bind fun bt921 => ((flow_Packet.f k a1_0 a1_1 a1_2 a1_3 a1_4 0 a2).bind fun bt923 => ((wharfagelaw0_Num.f bt921.2).bind fun t925 => (if t925 = 0 then ((wharfagelaw0_Num.f bt923.2).bind fun t926 => (wharfagelaw4_FlowUnlike.j0 k bt921.1 bt921.2 bt923.1 bt923.2 (t926 != 0) a0_0 a0_1 a0_2 a0_3 a0_4 a1_0 a1_1 a1_2 a1_3 a1_4)) else (wharfagelaw4_FlowUnlike.j0 k bt921.1 bt921.2 bt923.1 bt923.2 true a0_0 a0_1 a0_2 a0_3 a0_4 a1_0 a1_1 a1_2 a1_3 a1_4))))) = some r := by rw [if_pos rfl] at H; exact H
    clear H
    have H := H1
    clear H1
    replace H := Option.bind_eq_some_iff.mp H
    obtain ⟨⟨t921, t922⟩, A60, H⟩ := H
    replace H : ((flow_Packet.f k a1_0 a1_1 a1_2 a1_3 a1_4 0 a2).bind fun bt923 => ((wharfagelaw0_Num.f t922).bind fun t925 => (if t925 = 0 then ((wharfagelaw0_Num.f bt923.2).bind fun t926 => (wharfagelaw4_FlowUnlike.j0 k t921 t922 bt923.1 bt923.2 (t926 != 0) a0_0 a0_1 a0_2 a0_3 a0_4 a1_0 a1_1 a1_2 a1_3 a1_4)) else (wharfagelaw4_FlowUnlike.j0 k t921 t922 bt923.1 bt923.2 true a0_0 a0_1 a0_2 a0_3 a0_4 a1_0 a1_1 a1_2 a1_3 a1_4)))) = some r := H
    have A6 := Aside0.mk A60
    clear A60
    replace H := Option.bind_eq_some_iff.mp H
    obtain ⟨⟨t923, t924⟩, A70, H⟩ := H
    replace H : ((wharfagelaw0_Num.f t922).bind fun t925 => (if t925 = 0 then ((wharfagelaw0_Num.f t924).bind fun t926 => (wharfagelaw4_FlowUnlike.j0 k t921 t922 t923 t924 (t926 != 0) a0_0 a0_1 a0_2 a0_3 a0_4 a1_0 a1_1 a1_2 a1_3 a1_4)) else (wharfagelaw4_FlowUnlike.j0 k t921 t922 t923 t924 true a0_0 a0_1 a0_2 a0_3 a0_4 a1_0 a1_1 a1_2 a1_3 a1_4))) = some r := H
    have A7 := Aside0.mk A70
    clear A70
    have HC8 := Aside0.mk H
    clear H
    go_enter Try.func18, Try.ntmps18
    go_upto_region 5 with (first | ((with_reducible refine gate_dst (N := 3) rfl ?_); refine box_event ?hg (N := 3) ?hd (cs := #[.int .i64 a0_0, .int .i64 a0_1, .int .i64 a0_2, .int .i64 a0_3, .int .i64 a0_4]) (t := 61) ?hr ?_; (case hd => rfl); (case hg => rfl); (case hr => first | (go_simp; done) | (go_simp; rfl)); intro gb918 hg w9 hbox hb; have n0_ := Aside0.mk (below_step (by repeat (first | (with_reducible first | exact HB.out | apply below_alloc | apply pw_below_drewN | apply below_drew1) | exact HB.out)) hb); have n1_ := Aside0.mk (hbox); have n2_ := Aside0.mk ((by rw [hg]; exact (below_size (by repeat (first | (with_reducible first | exact HB.out | apply below_alloc | apply pw_below_drewN | apply below_drew1) | exact HB.out))) : w.heap.size ≤ gb918)); have n3_ := Aside0.mk ((by rw [hg]; exact (below_size (by repeat (first | (with_reducible first | exact HB.out | apply below_alloc | apply pw_below_drewN | apply below_drew1) | exact HB.out))) : w.heap.size ≤ gb918)); clear HB; have HB := n0_; have BK918 := n1_; have GW918 := n2_; have GE918 := n3_; clear n0_ n1_ n2_ n3_; clear hb hbox hg) | ((with_reducible refine gate_dst (N := 4) rfl ?_); refine box_event ?hg (N := 4) ?hd (cs := #[.int .i64 a1_0, .int .i64 a1_1, .int .i64 a1_2, .int .i64 a1_3, .int .i64 a1_4]) (t := 61) ?hr ?_; (case hd => rfl); (case hg => rfl); (case hr => first | (go_simp; done) | (go_simp; rfl)); intro gb919 hg w10 hbox hb; have n0_ := Aside0.mk (blk_below (g := gb918) (o := .cells #[.int .i64 a0_0, .int .i64 a0_1, .int .i64 a0_2, .int .i64 a0_3, .int .i64 a0_4] 61 (0, 0)) (by (with_reducible repeat (first | refine blk_drewN ?_ _ | refine blk_drew ?_ | refine blk_alloc ?_ _)); exact BK918.out) hb); have n1_ := Aside0.mk (below_step (by repeat (first | (with_reducible first | exact HB.out | apply below_alloc | apply pw_below_drewN | apply below_drew1 | refine below_set ?_ GE918.out) | exact HB.out)) hb); have n2_ := Aside0.mk (hbox); have n3_ := Aside0.mk ((by rw [hg]; exact (below_size (by repeat (first | (with_reducible first | exact HB.out | apply below_alloc | apply pw_below_drewN | apply below_drew1 | refine below_set ?_ GE918.out) | exact HB.out))) : w.heap.size ≤ gb919)); have n4_ := Aside0.mk ((by rw [hg]; exact (below_size (by repeat (first | (with_reducible first | exact HB.out | apply below_alloc | apply pw_below_drewN | apply below_drew1 | refine below_set ?_ GE918.out) | exact HB.out))) : w.heap.size ≤ gb919)); have n5_ := Aside0.mk ((by rw [hg]; exact Nat.ne_of_lt (blk_lt (g := gb918) (o := .cells #[.int .i64 a0_0, .int .i64 a0_1, .int .i64 a0_2, .int .i64 a0_3, .int .i64 a0_4] 61 (0, 0)) (by (with_reducible repeat (first | refine blk_drewN ?_ _ | refine blk_drew ?_ | refine blk_alloc ?_ _)); exact BK918.out)) : gb918 ≠ gb919)); have n6_ := Aside0.mk ((by rw [hg]; exact Nat.ne_of_gt (blk_lt (g := gb918) (o := .cells #[.int .i64 a0_0, .int .i64 a0_1, .int .i64 a0_2, .int .i64 a0_3, .int .i64 a0_4] 61 (0, 0)) (by (with_reducible repeat (first | refine blk_drewN ?_ _ | refine blk_drew ?_ | refine blk_alloc ?_ _)); exact BK918.out)) : gb919 ≠ gb918)); clear BK918; clear HB; have BK918 := n0_; have HB := n1_; have BK919 := n2_; have GW919 := n3_; have GE919 := n4_; have NB918_919 := n5_; have NB919_918 := n6_; clear n0_ n1_ n2_ n3_ n4_ n5_ n6_; clear hb hbox hg) | ((with_reducible refine gate_callee (f := 42) rfl ?_); refine goesL_ (some 11) rfl rfl Try.func42 (by kernel_rfl) rfl #[] rfl (by (try simp only [List.map_toArray, List.map_cons, List.map_nil]); first | done | rfl | (simp only [List.length_drop, List.length_take]; rfl)) ?_; (with_reducible refine (wharfagelaw4_awake.calls k  true _ A4.out).mono ?_); rintro e w11 ⟨rfl, hb⟩; refine ⟨_, rfl, ?_⟩; have n0_ := Aside0.mk (blk_below (g := gb918) (o := .cells #[.int .i64 a0_0, .int .i64 a0_1, .int .i64 a0_2, .int .i64 a0_3, .int .i64 a0_4] 61 (0, 0)) (by (with_reducible repeat (first | refine blk_drewN ?_ _ | refine blk_drew ?_ | refine blk_alloc ?_ _)); exact BK918.out) hb); have n1_ := Aside0.mk (blk_below (g := gb919) (o := .cells #[.int .i64 a1_0, .int .i64 a1_1, .int .i64 a1_2, .int .i64 a1_3, .int .i64 a1_4] 61 (0, 0)) (by (with_reducible repeat (first | refine blk_drewN ?_ _ | refine blk_drew ?_ | refine blk_alloc ?_ _)); exact BK919.out) hb); have n2_ := Aside0.mk (below_step (by repeat (first | (with_reducible first | exact HB.out | apply below_alloc | apply pw_below_drewN | apply below_drew1 | refine below_set ?_ GE918.out | refine below_set ?_ GE919.out) | exact HB.out)) hb); clear BK918; clear BK919; clear HB; have BK918 := n0_; have BK919 := n1_; have HB := n2_; clear n0_ n1_ n2_; (try clear hb); (try clear hb2); (try clear hk); (try clear hi); have hnb12 := NB918_919.out; have hnc12 := NB919_918.out; have hcz13_0 : w11.cell? ⟨gb918, 0, none⟩ = some (.int .i64 a0_0) := (blk_cell BK918.out 0).trans rfl; have hcz13_1 : w11.cell? ⟨gb918, 1, none⟩ = some (.int .i64 a0_1) := (blk_cell BK918.out 1).trans rfl; have hcz13_2 : w11.cell? ⟨gb918, 2, none⟩ = some (.int .i64 a0_2) := (blk_cell BK918.out 2).trans rfl; have hcz13_3 : w11.cell? ⟨gb918, 3, none⟩ = some (.int .i64 a0_3) := (blk_cell BK918.out 3).trans rfl; have hcz13_4 : w11.cell? ⟨gb918, 4, none⟩ = some (.int .i64 a0_4) := (blk_cell BK918.out 4).trans rfl; have hfz13_0 := blk_frozen BK918.out 0; have hfz13_1 := blk_frozen BK918.out 1; have hfz13_2 := blk_frozen BK918.out 2; have hfz13_3 := blk_frozen BK918.out 3; have hfz13_4 := blk_frozen BK918.out 4) | ((with_reducible refine gate_callee (f := 36) rfl ?_); refine goesL_ (some 16) rfl rfl Try.func36 (by kernel_rfl) rfl #[.agg #[.int .i64 a0_0, .int .i64 a0_1, .int .i64 a0_2, .int .i64 a0_3, .int .i64 a0_4], .int .i64 0, .string a2] rfl (by (try simp only [List.map_toArray, List.map_cons, List.map_nil]); first | done | rfl | (simp only [List.length_drop, List.length_take]; rfl)) ?_; (with_reducible refine (flow_Packet.calls k a0_0 a0_1 a0_2 a0_3 a0_4 0 a2 t921 t922 _ A6.out).mono ?_); rintro e w14 ⟨rfl, hb⟩; refine ⟨_, rfl, ?_⟩; have n0_ := Aside0.mk (blk_below (g := gb918) (o := .cells #[.int .i64 a0_0, .int .i64 a0_1, .int .i64 a0_2, .int .i64 a0_3, .int .i64 a0_4] 61 (0, 0)) (by (with_reducible repeat (first | refine blk_drewN ?_ _ | refine blk_drew ?_ | refine blk_alloc ?_ _)); exact BK918.out) hb); have n1_ := Aside0.mk (blk_below (g := gb919) (o := .cells #[.int .i64 a1_0, .int .i64 a1_1, .int .i64 a1_2, .int .i64 a1_3, .int .i64 a1_4] 61 (0, 0)) (by (with_reducible repeat (first | refine blk_drewN ?_ _ | refine blk_drew ?_ | refine blk_alloc ?_ _)); exact BK919.out) hb); have n2_ := Aside0.mk (below_step (by repeat (first | (with_reducible first | exact HB.out | apply below_alloc | apply pw_below_drewN | apply below_drew1 | refine below_set ?_ GE918.out | refine below_set ?_ GE919.out) | exact HB.out)) hb); clear BK918; clear BK919; clear HB; have BK918 := n0_; have BK919 := n1_; have HB := n2_; clear n0_ n1_ n2_; (try clear hb); (try clear hb2); (try clear hk); (try clear hi); have hcz15_0 : w14.cell? ⟨gb919, 0, none⟩ = some (.int .i64 a1_0) := (blk_cell BK919.out 0).trans rfl; have hcz15_1 : w14.cell? ⟨gb919, 1, none⟩ = some (.int .i64 a1_1) := (blk_cell BK919.out 1).trans rfl; have hcz15_2 : w14.cell? ⟨gb919, 2, none⟩ = some (.int .i64 a1_2) := (blk_cell BK919.out 2).trans rfl; have hcz15_3 : w14.cell? ⟨gb919, 3, none⟩ = some (.int .i64 a1_3) := (blk_cell BK919.out 3).trans rfl; have hcz15_4 : w14.cell? ⟨gb919, 4, none⟩ = some (.int .i64 a1_4) := (blk_cell BK919.out 4).trans rfl; have hfz15_0 := blk_frozen BK919.out 0; have hfz15_1 := blk_frozen BK919.out 1; have hfz15_2 := blk_frozen BK919.out 2; have hfz15_3 := blk_frozen BK919.out 3; have hfz15_4 := blk_frozen BK919.out 4) | ((with_reducible refine gate_callee (f := 36) rfl ?_); refine goesL_ (some 22) rfl rfl Try.func36 (by kernel_rfl) rfl #[.agg #[.int .i64 a1_0, .int .i64 a1_1, .int .i64 a1_2, .int .i64 a1_3, .int .i64 a1_4], .int .i64 0, .string a2] rfl (by (try simp only [List.map_toArray, List.map_cons, List.map_nil]); first | done | rfl | (simp only [List.length_drop, List.length_take]; rfl)) ?_; (with_reducible refine (flow_Packet.calls k a1_0 a1_1 a1_2 a1_3 a1_4 0 a2 t923 t924 _ A7.out).mono ?_); rintro e w16 ⟨rfl, hb⟩; refine ⟨_, rfl, ?_⟩; have n0_ := Aside0.mk (blk_below (g := gb918) (o := .cells #[.int .i64 a0_0, .int .i64 a0_1, .int .i64 a0_2, .int .i64 a0_3, .int .i64 a0_4] 61 (0, 0)) (by (with_reducible repeat (first | refine blk_drewN ?_ _ | refine blk_drew ?_ | refine blk_alloc ?_ _)); exact BK918.out) hb); have n1_ := Aside0.mk (blk_below (g := gb919) (o := .cells #[.int .i64 a1_0, .int .i64 a1_1, .int .i64 a1_2, .int .i64 a1_3, .int .i64 a1_4] 61 (0, 0)) (by (with_reducible repeat (first | refine blk_drewN ?_ _ | refine blk_drew ?_ | refine blk_alloc ?_ _)); exact BK919.out) hb); have n2_ := Aside0.mk (below_step (by repeat (first | (with_reducible first | exact HB.out | apply below_alloc | apply pw_below_drewN | apply below_drew1 | refine below_set ?_ GE918.out | refine below_set ?_ GE919.out) | exact HB.out)) hb); clear BK918; clear BK919; clear HB; have BK918 := n0_; have BK919 := n1_; have HB := n2_; clear n0_ n1_ n2_; (try clear hb); (try clear hb2); (try clear hk); (try clear hi)))
    (try simp only [Act.put, List.setIfInBounds_toArray, List.set_cons_zero, List.set_cons_succ])
    go_cut [32] (fun v32 wc => ∃ (kq : Nat) (x32_7 : Bool), v32 = .bool x32_7 ∧ Aside0 (wharfagelaw4_FlowUnlike.j0 kq t921 t922 t923 t924 x32_7 a0_0 a0_1 a0_2 a0_3 a0_4 a1_0 a1_1 a1_2 a1_3 a1_4 = some r) ∧ Aside0 (kq ≤ k) ∧ Aside0 (wc.heap[gb918]? = some (.cells #[.int .i64 a0_0, .int .i64 a0_1, .int .i64 a0_2, .int .i64 a0_3, .int .i64 a0_4] 61 (0, 0))) ∧ Aside0 (wc.heap[gb919]? = some (.cells #[.int .i64 a1_0, .int .i64 a1_1, .int .i64 a1_2, .int .i64 a1_3, .int .i64 a1_4] 61 (0, 0))) ∧ Aside0 (Below w.heap.size w wc))
    case first =>
      have H := HC8.out
      clear HC8
      replace H := Option.bind_eq_some_iff.mp H
      obtain ⟨t925, A170, H⟩ := H
      replace H : (if t925 = 0 then ((wharfagelaw0_Num.f t924).bind fun t926 => (wharfagelaw4_FlowUnlike.j0 k t921 t922 t923 t924 (t926 != 0) a0_0 a0_1 a0_2 a0_3 a0_4 a1_0 a1_1 a1_2 a1_3 a1_4)) else (wharfagelaw4_FlowUnlike.j0 k t921 t922 t923 t924 true a0_0 a0_1 a0_2 a0_3 a0_4 a1_0 a1_1 a1_2 a1_3 a1_4)) = some r := H
      have A17 := Aside0.mk A170
      clear A170
      by_cases c18 : t925 = 0
      · rw [if_pos c18] at H
        have c18b0 : (t925 == 0) = true := beq_iff_eq.mpr c18
        have c18b1 : (t925 != 0) = false := bne_eq_false_iff_eq.mpr c18
        clear c18
        (first | rw [c18b0] | (simp only [i64_w, i32_w]; rw [c18b0]) | skip)
        replace H := Option.bind_eq_some_iff.mp H
        obtain ⟨t926, A190, H⟩ := H
        replace H : (wharfagelaw4_FlowUnlike.j0 k t921 t922 t923 t924 (t926 != 0) a0_0 a0_1 a0_2 a0_3 a0_4 a1_0 a1_1 a1_2 a1_3 a1_4) = some r := H
        have A19 := Aside0.mk A190
        clear A190
        have H' := Aside0.mk H
        clear H
        go_wp2_with (first | ((with_reducible refine gate_callee (f := 25) rfl ?_); refine goesL_ (some 26) rfl rfl Try.func25 (by kernel_rfl) rfl #[.int .i64 t922] rfl (by (try simp only [List.map_toArray, List.map_cons, List.map_nil]); first | done | rfl | (simp only [List.length_drop, List.length_take]; rfl)) ?_; (with_reducible refine (wharfagelaw0_Num.calls t922 t925 _ A17.out).mono ?_); rintro e w' ⟨rfl, ⟨nd, rfl⟩⟩; refine ⟨_, rfl, ?_⟩) | (go_at_call 25; (with_reducible refine (wharfagelaw0_Num.calls t924 t926 _ A19.out).mono ?_); rintro e w' ⟨rfl, ⟨nd, rfl⟩⟩))
        go_meet
        case rel => exact ⟨_, ((t926 != 0)), (by first | rfl | (simp; done) | (simp [*]; done)), H', ⟨by first | omega | exact Nat.le_refl _⟩, ⟨by (with_reducible repeat (first | refine blk_drewN ?_ _ | refine blk_drew ?_ | refine blk_alloc ?_ _)); exact BK918.out⟩, ⟨by (with_reducible repeat (first | refine blk_drewN ?_ _ | refine blk_drew ?_ | refine blk_alloc ?_ _)); exact BK919.out⟩, ⟨by repeat (first | (with_reducible first | exact HB.out | apply below_alloc | apply pw_below_drewN | apply below_drew1 | refine below_set ?_ GE918.out | refine below_set ?_ GE919.out) | exact HB.out)⟩⟩
      · rw [if_neg c18] at H
        have c18b0 : (t925 == 0) = false := beq_eq_false_iff_ne.mpr c18
        have c18b1 : (t925 != 0) = true := bne_iff_ne.mpr c18
        (first | rw [c18b0] | (simp only [i64_w, i32_w]; rw [c18b0]) | skip)
        have H' := Aside0.mk H
        clear H
        go_wp2_with (first | ((with_reducible refine gate_callee (f := 25) rfl ?_); refine goesL_ (some 26) rfl rfl Try.func25 (by kernel_rfl) rfl #[.int .i64 t922] rfl (by (try simp only [List.map_toArray, List.map_cons, List.map_nil]); first | done | rfl | (simp only [List.length_drop, List.length_take]; rfl)) ?_; (with_reducible refine (wharfagelaw0_Num.calls t922 t925 _ A17.out).mono ?_); rintro e w' ⟨rfl, ⟨nd, rfl⟩⟩; refine ⟨_, rfl, ?_⟩))
        go_meet
        case rel => exact ⟨_, (true), (by first | rfl | (simp; done) | (simp [*]; done)), H', ⟨by first | omega | exact Nat.le_refl _⟩, ⟨by (with_reducible repeat (first | refine blk_drewN ?_ _ | refine blk_drew ?_ | refine blk_alloc ?_ _)); exact BK918.out⟩, ⟨by (with_reducible repeat (first | refine blk_drewN ?_ _ | refine blk_drew ?_ | refine blk_alloc ?_ _)); exact BK919.out⟩, ⟨by repeat (first | (with_reducible first | exact HB.out | apply below_alloc | apply pw_below_drewN | apply below_drew1 | refine below_set ?_ GE918.out | refine below_set ?_ GE919.out) | exact HB.out)⟩⟩
    case rest =>
      clear HC8
      try clear c1
      try clear c2
      try clear p2
      try clear c3
      try clear c4
      try clear c5
      try clear c12
      try clear c18
      try clear c18b0
      try clear c18b1
      try clear hcz13_0
      try clear hcz13_1
      try clear hcz13_2
      try clear hcz13_3
      try clear hcz13_4
      try clear hcz15_0
      try clear hcz15_1
      try clear hcz15_2
      try clear hcz15_3
      try clear hcz15_4
      try clear hfz13_0
      try clear hfz13_1
      try clear hfz13_2
      try clear hfz13_3
      try clear hfz13_4
      try clear hfz15_0
      try clear hfz15_1
      try clear hfz15_2
      try clear hfz15_3
      try clear hfz15_4
      obtain ⟨kq, x32_7, rfl, HA, HJ7, BK918, BK919, HB⟩ := hcut
      cases kq with
      | zero => exact absurd HA.out (by simp [wharfagelaw4_FlowUnlike.j0])
      | succ kj7 =>
        have H := HA.out
        clear HA
        simp only [wharfagelaw4_FlowUnlike.j0] at H
        by_cases c20 : x32_7 = true
        · subst c20
          have H1 : ((wharfagelaw0_Num.f t922).bind fun t927 => (if t927 = 0 then ((wharfagelaw0_Num.f t924).bind fun t928 => (if t928 = 0 then (some true) else (some (t923.toList == ([] : List UInt8))))) else (if t921.toList = ([] : List UInt8) then ((wharfagelaw0_Num.f t924).bind fun t929 => (if t929 = 0 then (some true) else (some (t923.toList == ([] : List UInt8))))) else (none)))) = some r := by rw [if_pos rfl] at H; exact H
          clear H
          have H := H1
          clear H1
          replace H := Option.bind_eq_some_iff.mp H
          obtain ⟨t927, A210, H⟩ := H
          replace H : (if t927 = 0 then ((wharfagelaw0_Num.f t924).bind fun t928 => (if t928 = 0 then (some true) else (some (t923.toList == ([] : List UInt8))))) else (if t921.toList = ([] : List UInt8) then ((wharfagelaw0_Num.f t924).bind fun t929 => (if t929 = 0 then (some true) else (some (t923.toList == ([] : List UInt8))))) else (none))) = some r := H
          have A21 := Aside0.mk A210
          clear A210
          by_cases c22 : t927 = 0
          · rw [if_pos c22] at H
            have c22b0 : (t927 == 0) = true := beq_iff_eq.mpr c22
            have c22b1 : (t927 != 0) = false := bne_eq_false_iff_eq.mpr c22
            clear c22
            replace H := Option.bind_eq_some_iff.mp H
            obtain ⟨t928, A230, H⟩ := H
            replace H : (if t928 = 0 then (some true) else (some (t923.toList == ([] : List UInt8)))) = some r := H
            have A23 := Aside0.mk A230
            clear A230
            by_cases c24 : t928 = 0
            · rw [if_pos c24] at H
              have c24b0 : (t928 == 0) = true := beq_iff_eq.mpr c24
              have c24b1 : (t928 != 0) = false := bne_eq_false_iff_eq.mpr c24
              clear c24
              obtain rfl := Option.some.inj H
              go_wp2_with (first | ((with_reducible refine gate_callee (f := 25) rfl ?_); refine goesL_ (some 34) rfl rfl Try.func25 (by kernel_rfl) rfl #[.int .i64 t922] rfl (by (try simp only [List.map_toArray, List.map_cons, List.map_nil]); first | done | rfl | (simp only [List.length_drop, List.length_take]; rfl)) ?_; (with_reducible refine (wharfagelaw0_Num.calls t922 t927 _ A21.out).mono ?_); rintro e w' ⟨rfl, ⟨nd, rfl⟩⟩; refine ⟨_, rfl, ?_⟩) | (go_at_call 25; (with_reducible refine (wharfagelaw0_Num.calls t924 t928 _ A23.out).mono ?_); rintro e w' ⟨rfl, ⟨nd, rfl⟩⟩))
              go_ret
              exact ⟨by first | rfl | (simp [errW_none, errW_some] <;> rfl) | (simp [*, errW_none, errW_some] <;> rfl), by repeat (first | (with_reducible first | exact HB.out | apply below_alloc | apply pw_below_drewN | apply below_drew1 | refine below_set ?_ GE918.out | refine below_set ?_ GE919.out) | exact HB.out)⟩
            · rw [if_neg c24] at H
              have c24b0 : (t928 == 0) = false := beq_eq_false_iff_ne.mpr c24
              have c24b1 : (t928 != 0) = true := bne_iff_ne.mpr c24
              obtain rfl := Option.some.inj H
              go_wp2_with (first | ((with_reducible refine gate_callee (f := 25) rfl ?_); refine goesL_ (some 34) rfl rfl Try.func25 (by kernel_rfl) rfl #[.int .i64 t922] rfl (by (try simp only [List.map_toArray, List.map_cons, List.map_nil]); first | done | rfl | (simp only [List.length_drop, List.length_take]; rfl)) ?_; (with_reducible refine (wharfagelaw0_Num.calls t922 t927 _ A21.out).mono ?_); rintro e w' ⟨rfl, ⟨nd, rfl⟩⟩; refine ⟨_, rfl, ?_⟩) | (go_at_call 25; (with_reducible refine (wharfagelaw0_Num.calls t924 t928 _ A23.out).mono ?_); rintro e w' ⟨rfl, ⟨nd, rfl⟩⟩))
              go_ret
              exact ⟨by first | rfl | (simp [errW_none, errW_some] <;> rfl) | (simp [*, errW_none, errW_some] <;> rfl), by repeat (first | (with_reducible first | exact HB.out | apply below_alloc | apply pw_below_drewN | apply below_drew1 | refine below_set ?_ GE918.out | refine below_set ?_ GE919.out) | exact HB.out)⟩
          · rw [if_neg c22] at H
            have c22b0 : (t927 == 0) = false := beq_eq_false_iff_ne.mpr c22
            have c22b1 : (t927 != 0) = true := bne_iff_ne.mpr c22
            by_cases c25 : t921.toList = ([] : List UInt8)
            · rw [if_pos c25] at H
              have c25b0 : (t921.toList == ([] : List UInt8)) = true := beq_iff_eq.mpr c25
              have c25b1 : (t921.toList != ([] : List UInt8)) = false := bne_eq_false_iff_eq.mpr c25
              clear c25
              replace H := Option.bind_eq_some_iff.mp H
              obtain ⟨t929, A260, H⟩ := H
              replace H : (if t929 = 0 then (some true) else (some (t923.toList == ([] : List UInt8)))) = some r := H
              have A26 := Aside0.mk A260
              clear A260
              by_cases c27 : t929 = 0
              · rw [if_pos c27] at H
                have c27b0 : (t929 == 0) = true := beq_iff_eq.mpr c27
                have c27b1 : (t929 != 0) = false := bne_eq_false_iff_eq.mpr c27
                clear c27
                obtain rfl := Option.some.inj H
                go_wp2_with (first | ((with_reducible refine gate_callee (f := 25) rfl ?_); refine goesL_ (some 34) rfl rfl Try.func25 (by kernel_rfl) rfl #[.int .i64 t922] rfl (by (try simp only [List.map_toArray, List.map_cons, List.map_nil]); first | done | rfl | (simp only [List.length_drop, List.length_take]; rfl)) ?_; (with_reducible refine (wharfagelaw0_Num.calls t922 t927 _ A21.out).mono ?_); rintro e w' ⟨rfl, ⟨nd, rfl⟩⟩; refine ⟨_, rfl, ?_⟩) | (go_at_call 25; (with_reducible refine (wharfagelaw0_Num.calls t924 t929 _ A26.out).mono ?_); rintro e w' ⟨rfl, ⟨nd, rfl⟩⟩))
                go_ret
                exact ⟨by first | rfl | (simp [errW_none, errW_some] <;> rfl) | (simp [*, errW_none, errW_some] <;> rfl), by repeat (first | (with_reducible first | exact HB.out | apply below_alloc | apply pw_below_drewN | apply below_drew1 | refine below_set ?_ GE918.out | refine below_set ?_ GE919.out) | exact HB.out)⟩
              · rw [if_neg c27] at H
                have c27b0 : (t929 == 0) = false := beq_eq_false_iff_ne.mpr c27
                have c27b1 : (t929 != 0) = true := bne_iff_ne.mpr c27
                obtain rfl := Option.some.inj H
                go_wp2_with (first | ((with_reducible refine gate_callee (f := 25) rfl ?_); refine goesL_ (some 34) rfl rfl Try.func25 (by kernel_rfl) rfl #[.int .i64 t922] rfl (by (try simp only [List.map_toArray, List.map_cons, List.map_nil]); first | done | rfl | (simp only [List.length_drop, List.length_take]; rfl)) ?_; (with_reducible refine (wharfagelaw0_Num.calls t922 t927 _ A21.out).mono ?_); rintro e w' ⟨rfl, ⟨nd, rfl⟩⟩; refine ⟨_, rfl, ?_⟩) | (go_at_call 25; (with_reducible refine (wharfagelaw0_Num.calls t924 t929 _ A26.out).mono ?_); rintro e w' ⟨rfl, ⟨nd, rfl⟩⟩))
                go_ret
                exact ⟨by first | rfl | (simp [errW_none, errW_some] <;> rfl) | (simp [*, errW_none, errW_some] <;> rfl), by repeat (first | (with_reducible first | exact HB.out | apply below_alloc | apply pw_below_drewN | apply below_drew1 | refine below_set ?_ GE918.out | refine below_set ?_ GE919.out) | exact HB.out)⟩
            · rw [if_neg c25] at H
              exact absurd H (by simp)
        · replace c20 := Bool.eq_false_iff.mpr c20
          subst c20
          have H1 : (some ((t921.toList == t923.toList) == (a0_0 == a1_0 && (a0_1 == a1_1 && (a0_2 == a1_2 && (a0_3 == a1_3 && (a0_4 == a1_4))))))) = some r := by rw [if_neg (show ¬ (false = true) by decide)] at H; exact H
          clear H
          have H := H1
          clear H1
          obtain rfl := Option.some.inj H
          have hnb28 := NB918_919.out
          have hnc28 := NB919_918.out
          have hcz29_0 : wc.cell? ⟨gb918, 0, none⟩ = some (.int .i64 a0_0) := (blk_cell BK918.out 0).trans rfl
          have hcz29_1 : wc.cell? ⟨gb918, 1, none⟩ = some (.int .i64 a0_1) := (blk_cell BK918.out 1).trans rfl
          have hcz29_2 : wc.cell? ⟨gb918, 2, none⟩ = some (.int .i64 a0_2) := (blk_cell BK918.out 2).trans rfl
          have hcz29_3 : wc.cell? ⟨gb918, 3, none⟩ = some (.int .i64 a0_3) := (blk_cell BK918.out 3).trans rfl
          have hcz29_4 : wc.cell? ⟨gb918, 4, none⟩ = some (.int .i64 a0_4) := (blk_cell BK918.out 4).trans rfl
          have hfz29_0 := blk_frozen BK918.out 0
          have hfz29_1 := blk_frozen BK918.out 1
          have hfz29_2 := blk_frozen BK918.out 2
          have hfz29_3 := blk_frozen BK918.out 3
          have hfz29_4 := blk_frozen BK918.out 4
          have hcz30_0 : wc.cell? ⟨gb919, 0, none⟩ = some (.int .i64 a1_0) := (blk_cell BK919.out 0).trans rfl
          have hcz30_1 : wc.cell? ⟨gb919, 1, none⟩ = some (.int .i64 a1_1) := (blk_cell BK919.out 1).trans rfl
          have hcz30_2 : wc.cell? ⟨gb919, 2, none⟩ = some (.int .i64 a1_2) := (blk_cell BK919.out 2).trans rfl
          have hcz30_3 : wc.cell? ⟨gb919, 3, none⟩ = some (.int .i64 a1_3) := (blk_cell BK919.out 3).trans rfl
          have hcz30_4 : wc.cell? ⟨gb919, 4, none⟩ = some (.int .i64 a1_4) := (blk_cell BK919.out 4).trans rfl
          have hfz30_0 := blk_frozen BK919.out 0
          have hfz30_1 := blk_frozen BK919.out 1
          have hfz30_2 := blk_frozen BK919.out 2
          have hfz30_3 := blk_frozen BK919.out 3
          have hfz30_4 := blk_frozen BK919.out 4
          go_wp2
          go_ret
          exact ⟨by first | rfl | (simp [errW_none, errW_some] <;> rfl) | (simp [*, errW_none, errW_some] <;> rfl), by repeat (first | (with_reducible first | exact HB.out | apply below_alloc | apply pw_below_drewN | apply below_drew1 | refine below_set ?_ GE918.out | refine below_set ?_ GE919.out) | exact HB.out)⟩
  · replace c5 := Bool.eq_false_iff.mpr c5
    subst c5
    have H1 : (none) = some r := by rw [if_neg (show ¬ (false = true) by decide)] at H; exact H
    clear H
    have H := H1
    clear H1
    exact absurd H (by simp)

end Go.Proofs.Ytobhmonmeocfmaa.PA
