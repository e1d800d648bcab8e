-- printed by a program of this session (myprint.py) out of the translation
import Derived.Test.YtobhmonmeocfmaaFAM0
import Derived.Test.YtobhmonmeocfmaaFAGueMay
import Derived.Test.YtobhmonmeocfmaaFAGuePush
import Derived.Test.YtobhmonmeocfmaaFAWharfagelaw6Awake
namespace Go.Proofs.Ytobhmonmeocfmaa.PA
open Go.RowKit Go.Proofs.YtobhmonmeocfmaaW.PrintWords Go.Proofs.YtobhmonmeocfmaaW.PrintLast Go.Proofs.YtobhmonmeocfmaaW.PrintMore
attribute [local go_sem] max2_int min2_int max_two min_two max_three min_three max_four min_four   -- for this text's walks alone
set_option linter.unusedVariables false
set_option linter.unusedSimpArgs false

/-! ### wharfagelaw6_GueForms: function 5 -/
def wharfagelaw6_GueForms.j0 : Nat → Int → Int → Int → Int → Int → ByteArray → Int → Int → Int → Int → Int → ByteArray → Option (Bool)
  | 0, _, _, _, _, _, _, _, _, _, _, _, _ => none
  | k + 1, x298000, x298001, x298002, x298003, x298004, x298005, x299000, x299001, x299002, x299003, x299004, x299005 => (gue_Push.f k x299000 x299001 x299002 x299003 x299004 x299005).bind fun bt302 => (if 324 ≤ 281474976710656 then ((some (List.replicate 324 0 : List Int)).bind fun y304 => ((gue_Push.f k x298000 x298001 x298002 x298003 x298004 (strOfNums y304)).bind fun bt307 => (if (strOfNums y304).size + 1 ≤ 9223372036854775807 then ((gue_Push.f k x298000 x298001 x298002 x298003 x298004 ((strOfNums y304) ++ (⟨#[120]⟩ : ByteArray))).bind fun bt309 => ((gue_May.f x299000 x299001 x299002 x299003 x299004 x299005).bind fun t311 => (if t311 = true then (none) else (if bt302.1.toList = ([] : List UInt8) then ((wharfagelaw0_Num.f bt302.2).bind fun t312 => (if t312 = 600 then (if (bt307.1.size : Int) = 360 then ((wharfagelaw0_Num.f bt307.2).bind fun t313 => (if t313 = 0 then ((wharfagelaw0_Num.f bt309.2).bind fun t314 => (some (t314 == 601))) else (none))) else (none)) else (none))) else (none))))) else (none)))) else (none))
def wharfagelaw6_GueForms.f (k : Nat) (a0 : Int) (a1 : Int) : Option (Bool) := (wharfagelaw6_awake.f k).bind fun t296 => (if t296 = true then (if (Int.tmod (IntKind.u64.wrap (a0)) 10) = 0 then (wharfagelaw6_GueForms.j0 k 167837696 167903232 1 0 0 (⟨#[]⟩ : ByteArray) 0 167903232 1 0 0 (⟨#[]⟩ : ByteArray)) else (if (Int.tmod (IntKind.u64.wrap (a0)) 10) = 1 then (wharfagelaw6_GueForms.j0 k 167837696 167903232 1 0 0 (⟨#[]⟩ : ByteArray) 167837696 167772161 1 0 0 (⟨#[]⟩ : ByteArray)) else (if (Int.tmod (IntKind.u64.wrap (a0)) 10) = 2 then (wharfagelaw6_GueForms.j0 k 167837696 167903232 1 0 0 (⟨#[]⟩ : ByteArray) 167837696 167903232 (wrap64 (1 - (wrap64 (1 + (Go.bits .and .i64 a1 1023))))) 0 0 (⟨#[]⟩ : ByteArray)) else (if (Int.tmod (IntKind.u64.wrap (a0)) 10) = 3 then (wharfagelaw6_GueForms.j0 k 167837696 167903232 1 0 0 (⟨#[]⟩ : ByteArray) 167837696 167903232 (wrap64 (4 + (wrap64 (1 + (Go.bits .and .i64 a1 1023))))) 0 0 (⟨#[]⟩ : ByteArray)) else (if (Int.tmod (IntKind.u64.wrap (a0)) 10) = 4 then (wharfagelaw6_GueForms.j0 k 167837696 167903232 1 0 0 (⟨#[]⟩ : ByteArray) 167837696 167903232 1 (wrap64 (-(wrap64 (1 + (Go.bits .and .i64 a1 1023))))) 0 (⟨#[]⟩ : ByteArray)) else (if (Int.tmod (IntKind.u64.wrap (a0)) 10) = 5 then (wharfagelaw6_GueForms.j0 k 167837696 167903232 1 0 0 (⟨#[]⟩ : ByteArray) 167837696 167903232 1 (wrap64 (255 + (wrap64 (1 + (Go.bits .and .i64 a1 1023))))) 0 (⟨#[]⟩ : ByteArray)) else (if (Int.tmod (IntKind.u64.wrap (a0)) 10) = 6 then (wharfagelaw6_GueForms.j0 k 167837696 167903232 1 0 0 (⟨#[]⟩ : ByteArray) 167837696 167903232 1 0 (wrap64 (-(wrap64 (1 + (Go.bits .and .i64 a1 1023))))) (⟨#[]⟩ : ByteArray)) else (if (Int.tmod (IntKind.u64.wrap (a0)) 10) = 7 then (wharfagelaw6_GueForms.j0 k 167837696 167903232 1 0 0 (⟨#[]⟩ : ByteArray) 167837696 167903232 1 0 (wrap64 (255 + (wrap64 (1 + (Go.bits .and .i64 a1 1023))))) (⟨#[]⟩ : ByteArray)) else (if (Int.tmod (IntKind.u64.wrap (a0)) 10) = 8 then (if 0 ≤ (wrap64 (512 + (wrap64 (1 + (Go.bits .and .i64 a1 1023))))) then (if (wrap64 (512 + (wrap64 (1 + (Go.bits .and .i64 a1 1023)))) : Int).toNat ≤ 281474976710656 then (wharfagelaw6_GueForms.j0 k 167837696 167903232 1 0 0 (⟨#[]⟩ : ByteArray) 167837696 167903232 1 0 0 (strOfNums (List.replicate (wrap64 (512 + (wrap64 (1 + (Go.bits .and .i64 a1 1023)))) : Int).toNat 0))) else (none)) else (none)) else (wharfagelaw6_GueForms.j0 k 167837696 167903232 1 0 0 (⟨#[]⟩ : ByteArray) 167837698 167903232 1 0 0 (⟨#[]⟩ : ByteArray))))))))))) else (none))
theorem wharfagelaw6_GueForms.mono_l : ∀ k, (∀ y0 y1 y2 y3 y4 y5 y6 y7 y8 y9 y10 y11, LeO (wharfagelaw6_GueForms.j0 k y0 y1 y2 y3 y4 y5 y6 y7 y8 y9 y10 y11) (wharfagelaw6_GueForms.j0 (k + 1) y0 y1 y2 y3 y4 y5 y6 y7 y8 y9 y10 y11))
  | 0 => fun _ _ _ _ _ _ _ _ _ _ _ _ r h => by simp [wharfagelaw6_GueForms.j0] at h
  | k + 1 => by
    have ih0 := wharfagelaw6_GueForms.mono_l k
    · intro y0 y1 y2 y3 y4 y5 y6 y7 y8 y9 y10 y11
      unfold wharfagelaw6_GueForms.j0
      repeat' first
      | (with_reducible exact ih0 _ _ _ _ _ _ _ _ _ _ _ _)
      | (with_reducible exact gue_Push.mono _ _ _ _ _ _ _)
      | (with_reducible exact wharfagelaw6_awake.mono _)
      | (with_reducible exact LeO.refl _)
      | (with_reducible exact LeO.none _)
      | (with_reducible refine LeO.ite ?_ ?_)
      | (with_reducible refine LeO.bind ?_ (fun _ => ?_))
      | exact ih0 _ _ _ _ _ _ _ _ _ _ _ _
      | exact gue_Push.mono _ _ _ _ _ _ _
      | exact wharfagelaw6_awake.mono _
      | exact LeO.none _
      | refine LeO.ite ?_ ?_
      | refine LeO.bind ?_ (fun _ => ?_)
theorem wharfagelaw6_GueForms.mono : ∀ a0 a1 k, LeO (wharfagelaw6_GueForms.f k a0 a1) (wharfagelaw6_GueForms.f (k + 1) a0 a1) := by
  intro a0 a1 k
  have ih0 := wharfagelaw6_GueForms.mono_l k
  unfold wharfagelaw6_GueForms.f
  repeat' first
      | (with_reducible exact ih0 _ _ _ _ _ _ _ _ _ _ _ _)
      | (with_reducible exact gue_Push.mono _ _ _ _ _ _ _)
      | (with_reducible exact wharfagelaw6_awake.mono _)
      | (with_reducible exact LeO.refl _)
      | (with_reducible exact LeO.none _)
      | (with_reducible refine LeO.ite ?_ ?_)
      | (with_reducible refine LeO.bind ?_ (fun _ => ?_))
      | exact ih0 _ _ _ _ _ _ _ _ _ _ _ _
      | exact gue_Push.mono _ _ _ _ _ _ _
      | exact wharfagelaw6_awake.mono _
      | exact LeO.none _
      | refine LeO.ite ?_ ?_
      | refine LeO.bind ?_ (fun _ => ?_)
set_option maxHeartbeats 8000000 in
set_option maxRecDepth 100000 in
theorem wharfagelaw6_GueForms.calls (k : Nat) (a0 : Int) (a1 : Int) (r : Bool) (w : World) (h : wharfagelaw6_GueForms.f k a0 a1 = some r) :
    Calls Try.prog 5 #[.int .i64 a0, .int .i64 a1] w fun e w' => e = .returned (.bool r) ∧ Below w.heap.size w w' := by
  have hu23 := Try.underlying23
  have HB := Aside0.mk (Below.refl w.heap.size w)
  have H : ((wharfagelaw6_awake.f k).bind fun t296 => (if t296 = true then (if (Int.tmod (IntKind.u64.wrap (a0)) 10) = 0 then (wharfagelaw6_GueForms.j0 k 167837696 167903232 1 0 0 (⟨#[]⟩ : ByteArray) 0 167903232 1 0 0 (⟨#[]⟩ : ByteArray)) else (if (Int.tmod (IntKind.u64.wrap (a0)) 10) = 1 then (wharfagelaw6_GueForms.j0 k 167837696 167903232 1 0 0 (⟨#[]⟩ : ByteArray) 167837696 167772161 1 0 0 (⟨#[]⟩ : ByteArray)) else (if (Int.tmod (IntKind.u64.wrap (a0)) 10) = 2 then (wharfagelaw6_GueForms.j0 k 167837696 167903232 1 0 0 (⟨#[]⟩ : ByteArray) 167837696 167903232 (wrap64 (1 - (wrap64 (1 + (Go.bits .and .i64 a1 1023))))) 0 0 (⟨#[]⟩ : ByteArray)) else (if (Int.tmod (IntKind.u64.wrap (a0)) 10) = 3 then (wharfagelaw6_GueForms.j0 k 167837696 167903232 1 0 0 (⟨#[]⟩ : ByteArray) 167837696 167903232 (wrap64 (4 + (wrap64 (1 + (Go.bits .and .i64 a1 1023))))) 0 0 (⟨#[]⟩ : ByteArray)) else (if (Int.tmod (IntKind.u64.wrap (a0)) 10) = 4 then (wharfagelaw6_GueForms.j0 k 167837696 167903232 1 0 0 (⟨#[]⟩ : ByteArray) 167837696 167903232 1 (wrap64 (-(wrap64 (1 + (Go.bits .and .i64 a1 1023))))) 0 (⟨#[]⟩ : ByteArray)) else (if (Int.tmod (IntKind.u64.wrap (a0)) 10) = 5 then (wharfagelaw6_GueForms.j0 k 167837696 167903232 1 0 0 (⟨#[]⟩ : ByteArray) 167837696 167903232 1 (wrap64 (255 + (wrap64 (1 + (Go.bits .and .i64 a1 1023))))) 0 (⟨#[]⟩ : ByteArray)) else (if (Int.tmod (IntKind.u64.wrap (a0)) 10) = 6 then (wharfagelaw6_GueForms.j0 k 167837696 167903232 1 0 0 (⟨#[]⟩ : ByteArray) 167837696 167903232 1 0 (wrap64 (-(wrap64 (1 + (Go.bits .and .i64 a1 1023))))) (⟨#[]⟩ : ByteArray)) else (if (Int.tmod (IntKind.u64.wrap (a0)) 10) = 7 then (wharfagelaw6_GueForms.j0 k 167837696 167903232 1 0 0 (⟨#[]⟩ : ByteArray) 167837696 167903232 1 0 (wrap64 (255 + (wrap64 (1 + (Go.bits .and .i64 a1 1023))))) (⟨#[]⟩ : ByteArray)) else (if (Int.tmod (IntKind.u64.wrap (a0)) 10) = 8 then (if 0 ≤ (wrap64 (512 + (wrap64 (1 + (Go.bits .and .i64 a1 1023))))) then (if (wrap64 (512 + (wrap64 (1 + (Go.bits .and .i64 a1 1023)))) : Int).toNat ≤ 281474976710656 then (wharfagelaw6_GueForms.j0 k 167837696 167903232 1 0 0 (⟨#[]⟩ : ByteArray) 167837696 167903232 1 0 0 (strOfNums (List.replicate (wrap64 (512 + (wrap64 (1 + (Go.bits .and .i64 a1 1023)))) : Int).toNat 0))) else (none)) else (none)) else (wharfagelaw6_GueForms.j0 k 167837696 167903232 1 0 0 (⟨#[]⟩ : ByteArray) 167837698 167903232 1 0 0 (⟨#[]⟩ : ByteArray))))))))))) else (none))) = some r := h
  clear h
  replace H := Option.bind_eq_some_iff.mp H
  obtain ⟨t296, A30, H⟩ := H
  replace H : (if t296 = true then (if (Int.tmod (IntKind.u64.wrap (a0)) 10) = 0 then (wharfagelaw6_GueForms.j0 k 167837696 167903232 1 0 0 (⟨#[]⟩ : ByteArray) 0 167903232 1 0 0 (⟨#[]⟩ : ByteArray)) else (if (Int.tmod (IntKind.u64.wrap (a0)) 10) = 1 then (wharfagelaw6_GueForms.j0 k 167837696 167903232 1 0 0 (⟨#[]⟩ : ByteArray) 167837696 167772161 1 0 0 (⟨#[]⟩ : ByteArray)) else (if (Int.tmod (IntKind.u64.wrap (a0)) 10) = 2 then (wharfagelaw6_GueForms.j0 k 167837696 167903232 1 0 0 (⟨#[]⟩ : ByteArray) 167837696 167903232 (wrap64 (1 - (wrap64 (1 + (Go.bits .and .i64 a1 1023))))) 0 0 (⟨#[]⟩ : ByteArray)) else (if (Int.tmod (IntKind.u64.wrap (a0)) 10) = 3 then (wharfagelaw6_GueForms.j0 k 167837696 167903232 1 0 0 (⟨#[]⟩ : ByteArray) 167837696 167903232 (wrap64 (4 + (wrap64 (1 + (Go.bits .and .i64 a1 1023))))) 0 0 (⟨#[]⟩ : ByteArray)) else (if (Int.tmod (IntKind.u64.wrap (a0)) 10) = 4 then (wharfagelaw6_GueForms.j0 k 167837696 167903232 1 0 0 (⟨#[]⟩ : ByteArray) 167837696 167903232 1 (wrap64 (-(wrap64 (1 + (Go.bits .and .i64 a1 1023))))) 0 (⟨#[]⟩ : ByteArray)) else (if (Int.tmod (IntKind.u64.wrap (a0)) 10) = 5 then (wharfagelaw6_GueForms.j0 k 167837696 167903232 1 0 0 (⟨#[]⟩ : ByteArray) 167837696 167903232 1 (wrap64 (255 + (wrap64 (1 + (Go.bits .and .i64 a1 1023))))) 0 (⟨#[]⟩ : ByteArray)) else (if (Int.tmod (IntKind.u64.wrap (a0)) 10) = 6 then (wharfagelaw6_GueForms.j0 k 167837696 167903232 1 0 0 (⟨#[]⟩ : ByteArray) 167837696 167903232 1 0 (wrap64 (-(wrap64 (1 + (Go.bits .and .i64 a1 1023))))) (⟨#[]⟩ : ByteArray)) else (if (Int.tmod (IntKind.u64.wrap (a0)) 10) = 7 then (wharfagelaw6_GueForms.j0 k 167837696 167903232 1 0 0 (⟨#[]⟩ : ByteArray) 167837696 167903232 1 0 (wrap64 (255 + (wrap64 (1 + (Go.bits .and .i64 a1 1023))))) (⟨#[]⟩ : ByteArray)) else (if (Int.tmod (IntKind.u64.wrap (a0)) 10) = 8 then (if 0 ≤ (wrap64 (512 + (wrap64 (1 + (Go.bits .and .i64 a1 1023))))) then (if (wrap64 (512 + (wrap64 (1 + (Go.bits .and .i64 a1 1023)))) : Int).toNat ≤ 281474976710656 then (wharfagelaw6_GueForms.j0 k 167837696 167903232 1 0 0 (⟨#[]⟩ : ByteArray) 167837696 167903232 1 0 0 (strOfNums (List.replicate (wrap64 (512 + (wrap64 (1 + (Go.bits .and .i64 a1 1023)))) : Int).toNat 0))) else (none)) else (none)) else (wharfagelaw6_GueForms.j0 k 167837696 167903232 1 0 0 (⟨#[]⟩ : ByteArray) 167837698 167903232 1 0 0 (⟨#[]⟩ : ByteArray))))))))))) else (none)) = some r := H
  have A3 := Aside0.mk A30
  clear A30
  by_cases c4 : t296 = true
  · subst c4
    have H1 : (if (Int.tmod (IntKind.u64.wrap (a0)) 10) = 0 then (wharfagelaw6_GueForms.j0 k 167837696 167903232 1 0 0 (⟨#[]⟩ : ByteArray) 0 167903232 1 0 0 (⟨#[]⟩ : ByteArray)) else (if (Int.tmod (IntKind.u64.wrap (a0)) 10) = 1 then (wharfagelaw6_GueForms.j0 k 167837696 167903232 1 0 0 (⟨#[]⟩ : ByteArray) 167837696 167772161 1 0 0 (⟨#[]⟩ : ByteArray)) else (if (Int.tmod (IntKind.u64.wrap (a0)) 10) = 2 then (wharfagelaw6_GueForms.j0 k 167837696 167903232 1 0 0 (⟨#[]⟩ : ByteArray) 167837696 167903232 (wrap64 (1 - (wrap64 (1 + (Go.bits .and .i64 a1 1023))))) 0 0 (⟨#[]⟩ : ByteArray)) else (if (Int.tmod (IntKind.u64.wrap (a0)) 10) = 3 then (wharfagelaw6_GueForms.j0 k 167837696 167903232 1 0 0 (⟨#[]⟩ : ByteArray) 167837696 167903232 (wrap64 (4 + (wrap64 (1 + (Go.bits .and .i64 a1 1023))))) 0 0 (⟨#[]⟩ : ByteArray)) else (if (Int.tmod (IntKind.u64.wrap (a0)) 10) = 4 then (wharfagelaw6_GueForms.j0 k 167837696 167903232 1 0 0 (⟨#[]⟩ : ByteArray) 167837696 167903232 1 (wrap64 (-(wrap64 (1 + (Go.bits .and .i64 a1 1023))))) 0 (⟨#[]⟩ : ByteArray)) else (if (Int.tmod (IntKind.u64.wrap (a0)) 10) = 5 then (wharfagelaw6_GueForms.j0 k 167837696 167903232 1 0 0 (⟨#[]⟩ : ByteArray) 167837696 167903232 1 (wrap64 (255 + (wrap64 (1 + (Go.bits .and .i64 a1 1023))))) 0 (⟨#[]⟩ : ByteArray)) else (if (Int.tmod (IntKind.u64.wrap (a0)) 10) = 6 then (wharfagelaw6_GueForms.j0 k 167837696 167903232 1 0 0 (⟨#[]⟩ : ByteArray) 167837696 167903232 1 0 (wrap64 (-(wrap64 (1 + (Go.bits .and .i64 a1 1023))))) (⟨#[]⟩ : ByteArray)) else (if (Int.tmod (IntKind.u64.wrap (a0)) 10) = 7 then (wharfagelaw6_GueForms.j0 k 167837696 167903232 1 0 0 (⟨#[]⟩ : ByteArray) 167837696 167903232 1 0 (wrap64 (255 + (wrap64 (1 + (Go.bits .and .i64 a1 1023))))) (⟨#[]⟩ : ByteArray)) else (if (Int.tmod (IntKind.u64.wrap (a0)) 10) = 8 then (if 0 ≤ (wrap64 (512 + (wrap64 (1 + (Go.bits .and .i64 a1 1023))))) then (if (wrap64 (512 + (wrap64 (1 + (Go.bits .and .i64 a1 1023)))) : Int).toNat ≤ 281474976710656 then (wharfagelaw6_GueForms.j0 k 167837696 167903232 1 0 0 (⟨#[]⟩ : ByteArray) 167837696 167903232 1 0 0 (strOfNums (List.replicate (wrap64 (512 + (wrap64 (1 + (Go.bits .and .i64 a1 1023)))) : Int).toNat 0))) else (none)) else (none)) else (wharfagelaw6_GueForms.j0 k 167837696 167903232 1 0 0 (⟨#[]⟩ : ByteArray) 167837698 167903232 1 0 0 (⟨#[]⟩ : ByteArray))))))))))) = some r := by rw [if_pos rfl] at H; exact H
    clear H
    have H := H1
    clear H1
    have HC5 := Aside0.mk H
    clear H
    go_enter Try.func5, Try.ntmps5
    go_upto_block 0 with (first | ((with_reducible refine gate_callee (f := 28) rfl ?_); refine goesL_ (some 14) rfl rfl Try.func28 (by kernel_rfl) rfl #[] rfl (by (try simp only [List.map_toArray, List.map_cons, List.map_nil]); first | done | rfl | (simp only [List.length_drop, List.length_take]; rfl)) ?_; (with_reducible refine (wharfagelaw6_awake.calls k  true _ A3.out).mono ?_); rintro e w6 ⟨rfl, hb⟩; refine ⟨_, rfl, ?_⟩; have n0_ := Aside0.mk (below_step (by repeat (first | (with_reducible first | exact HB.out | apply below_alloc | apply pw_below_drewN | apply below_drew1) | exact HB.out)) hb); clear HB; have HB := n0_; clear n0_; (try clear hb); (try clear hb2); (try clear hk); (try clear hi)) | ((with_reducible refine gate_dst (N := 6) rfl ?_); (try (refine gate_guard (by rfl) ?_; dsimp only)); refine box_event ?hg (N := 6) ?hd (cs := #[.int .i64 0, .int .i64 0, .int .i64 0, .int .i64 0, .int .i64 0, .string (⟨#[]⟩ : ByteArray)]) (t := 23) ?hr ?_; (case hd => rfl); (case hg => rfl); (case hr => first | (go_simp; done) | (go_simp; rfl)); intro gb297 hg w7 hbox hb; have n0_ := Aside0.mk (below_step (by repeat (first | (with_reducible first | exact HB.out | apply below_alloc | apply pw_below_drewN | apply below_drew1) | exact HB.out)) hb); have n1_ := Aside0.mk (hbox); have n2_ := Aside0.mk ((by rw [hg]; exact (below_size (by repeat (first | (with_reducible first | exact HB.out | apply below_alloc | apply pw_below_drewN | apply below_drew1) | exact HB.out))) : w.heap.size ≤ gb297)); have n3_ := Aside0.mk ((by rw [hg]; exact (below_size (by repeat (first | (with_reducible first | exact HB.out | apply below_alloc | apply pw_below_drewN | apply below_drew1) | exact HB.out))) : w.heap.size ≤ gb297)); clear HB; have HB := n0_; have BK297 := n1_; have GW297 := n2_; have GE297 := n3_; clear n0_ n1_ n2_ n3_; clear hb hbox hg; have hcz8_0 : w7.cell? ⟨gb297, 0, none⟩ = some (.int .i64 0) := (blk_cell BK297.out 0).trans rfl; have hcz8_1 : w7.cell? ⟨gb297, 1, none⟩ = some (.int .i64 0) := (blk_cell BK297.out 1).trans rfl; have hcz8_2 : w7.cell? ⟨gb297, 2, none⟩ = some (.int .i64 0) := (blk_cell BK297.out 2).trans rfl; have hcz8_3 : w7.cell? ⟨gb297, 3, none⟩ = some (.int .i64 0) := (blk_cell BK297.out 3).trans rfl; have hcz8_4 : w7.cell? ⟨gb297, 4, none⟩ = some (.int .i64 0) := (blk_cell BK297.out 4).trans rfl; have hcz8_5 : w7.cell? ⟨gb297, 5, none⟩ = some (.string (⟨#[]⟩ : ByteArray)) := (blk_cell BK297.out 5).trans rfl; have hfz8_0 := blk_frozen BK297.out 0; have hfz8_1 := blk_frozen BK297.out 1; have hfz8_2 := blk_frozen BK297.out 2; have hfz8_3 := blk_frozen BK297.out 3; have hfz8_4 := blk_frozen BK297.out 4; have hfz8_5 := blk_frozen BK297.out 5) | ((with_reducible refine gate_dst (N := 7) rfl ?_); (try (refine gate_guard (by rfl) ?_; dsimp only)); refine box_event ?hg (N := 7) ?hd (cs := #[.int .i64 0, .int .i64 0, .int .i64 0, .int .i64 0, .int .i64 0, .string (⟨#[]⟩ : ByteArray)]) (t := 23) ?hr ?_; (case hd => rfl); (case hg => rfl); (case hr => first | (go_simp; done) | (go_simp; rfl)); intro gb298 hg w9 hbox hb; have n0_ := Aside0.mk (blk_below (g := gb297) (o := .cells #[.int .i64 167837696, .int .i64 167903232, .int .i64 1, .int .i64 0, .int .i64 0, .string (⟨#[]⟩ : ByteArray)] 23 (0, 0)) (by (with_reducible repeat (first | refine blk_drewN ?_ _ | refine blk_drew ?_ | refine blk_alloc ?_ _)); refine blk_put (cs := #[.int .i64 167837696, .int .i64 167903232, .int .i64 1, .int .i64 0, .int .i64 0, .string (⟨#[]⟩ : ByteArray)]) ?_ 5 _ (by first | rfl | (simp [*]; done)); (with_reducible repeat (first | refine blk_drewN ?_ _ | refine blk_drew ?_ | refine blk_alloc ?_ _)); refine blk_put (cs := #[.int .i64 167837696, .int .i64 167903232, .int .i64 1, .int .i64 0, .int .i64 0, .string (⟨#[]⟩ : ByteArray)]) ?_ 4 _ (by first | rfl | (simp [*]; done)); (with_reducible repeat (first | refine blk_drewN ?_ _ | refine blk_drew ?_ | refine blk_alloc ?_ _)); refine blk_put (cs := #[.int .i64 167837696, .int .i64 167903232, .int .i64 1, .int .i64 0, .int .i64 0, .string (⟨#[]⟩ : ByteArray)]) ?_ 3 _ (by first | rfl | (simp [*]; done)); (with_reducible repeat (first | refine blk_drewN ?_ _ | refine blk_drew ?_ | refine blk_alloc ?_ _)); refine blk_put (cs := #[.int .i64 167837696, .int .i64 167903232, .int .i64 0, .int .i64 0, .int .i64 0, .string (⟨#[]⟩ : ByteArray)]) ?_ 2 _ (by first | rfl | (simp [*]; done)); (with_reducible repeat (first | refine blk_drewN ?_ _ | refine blk_drew ?_ | refine blk_alloc ?_ _)); refine blk_put (cs := #[.int .i64 167837696, .int .i64 0, .int .i64 0, .int .i64 0, .int .i64 0, .string (⟨#[]⟩ : ByteArray)]) ?_ 1 _ (by first | rfl | (simp [*]; done)); (with_reducible repeat (first | refine blk_drewN ?_ _ | refine blk_drew ?_ | refine blk_alloc ?_ _)); refine blk_put (cs := #[.int .i64 0, .int .i64 0, .int .i64 0, .int .i64 0, .int .i64 0, .string (⟨#[]⟩ : ByteArray)]) ?_ 0 _ (by first | rfl | (simp [*]; done)); (with_reducible repeat (first | refine blk_drewN ?_ _ | refine blk_drew ?_ | refine blk_alloc ?_ _)); exact BK297.out) hb); have n1_ := Aside0.mk (below_step (by repeat (first | (with_reducible first | exact HB.out | apply below_alloc | apply pw_below_drewN | apply below_drew1 | refine below_set ?_ GE297.out) | exact HB.out)) hb); have n2_ := Aside0.mk (hbox); have n3_ := Aside0.mk ((by rw [hg]; exact (below_size (by repeat (first | (with_reducible first | exact HB.out | apply below_alloc | apply pw_below_drewN | apply below_drew1 | refine below_set ?_ GE297.out) | exact HB.out))) : w.heap.size ≤ gb298)); have n4_ := Aside0.mk ((by rw [hg]; exact (below_size (by repeat (first | (with_reducible first | exact HB.out | apply below_alloc | apply pw_below_drewN | apply below_drew1 | refine below_set ?_ GE297.out) | exact HB.out))) : w.heap.size ≤ gb298)); have n5_ := Aside0.mk ((by rw [hg]; exact Nat.ne_of_lt (blk_lt (g := gb297) (o := .cells #[.int .i64 167837696, .int .i64 167903232, .int .i64 1, .int .i64 0, .int .i64 0, .string (⟨#[]⟩ : ByteArray)] 23 (0, 0)) (by (with_reducible repeat (first | refine blk_drewN ?_ _ | refine blk_drew ?_ | refine blk_alloc ?_ _)); refine blk_put (cs := #[.int .i64 167837696, .int .i64 167903232, .int .i64 1, .int .i64 0, .int .i64 0, .string (⟨#[]⟩ : ByteArray)]) ?_ 5 _ (by first | rfl | (simp [*]; done)); (with_reducible repeat (first | refine blk_drewN ?_ _ | refine blk_drew ?_ | refine blk_alloc ?_ _)); refine blk_put (cs := #[.int .i64 167837696, .int .i64 167903232, .int .i64 1, .int .i64 0, .int .i64 0, .string (⟨#[]⟩ : ByteArray)]) ?_ 4 _ (by first | rfl | (simp [*]; done)); (with_reducible repeat (first | refine blk_drewN ?_ _ | refine blk_drew ?_ | refine blk_alloc ?_ _)); refine blk_put (cs := #[.int .i64 167837696, .int .i64 167903232, .int .i64 1, .int .i64 0, .int .i64 0, .string (⟨#[]⟩ : ByteArray)]) ?_ 3 _ (by first | rfl | (simp [*]; done)); (with_reducible repeat (first | refine blk_drewN ?_ _ | refine blk_drew ?_ | refine blk_alloc ?_ _)); refine blk_put (cs := #[.int .i64 167837696, .int .i64 167903232, .int .i64 0, .int .i64 0, .int .i64 0, .string (⟨#[]⟩ : ByteArray)]) ?_ 2 _ (by first | rfl | (simp [*]; done)); (with_reducible repeat (first | refine blk_drewN ?_ _ | refine blk_drew ?_ | refine blk_alloc ?_ _)); refine blk_put (cs := #[.int .i64 167837696, .int .i64 0, .int .i64 0, .int .i64 0, .int .i64 0, .string (⟨#[]⟩ : ByteArray)]) ?_ 1 _ (by first | rfl | (simp [*]; done)); (with_reducible repeat (first | refine blk_drewN ?_ _ | refine blk_drew ?_ | refine blk_alloc ?_ _)); refine blk_put (cs := #[.int .i64 0, .int .i64 0, .int .i64 0, .int .i64 0, .int .i64 0, .string (⟨#[]⟩ : ByteArray)]) ?_ 0 _ (by first | rfl | (simp [*]; done)); (with_reducible repeat (first | refine blk_drewN ?_ _ | refine blk_drew ?_ | refine blk_alloc ?_ _)); exact BK297.out)) : gb297 ≠ gb298)); have n6_ := Aside0.mk ((by rw [hg]; exact Nat.ne_of_gt (blk_lt (g := gb297) (o := .cells #[.int .i64 167837696, .int .i64 167903232, .int .i64 1, .int .i64 0, .int .i64 0, .string (⟨#[]⟩ : ByteArray)] 23 (0, 0)) (by (with_reducible repeat (first | refine blk_drewN ?_ _ | refine blk_drew ?_ | refine blk_alloc ?_ _)); refine blk_put (cs := #[.int .i64 167837696, .int .i64 167903232, .int .i64 1, .int .i64 0, .int .i64 0, .string (⟨#[]⟩ : ByteArray)]) ?_ 5 _ (by first | rfl | (simp [*]; done)); (with_reducible repeat (first | refine blk_drewN ?_ _ | refine blk_drew ?_ | refine blk_alloc ?_ _)); refine blk_put (cs := #[.int .i64 167837696, .int .i64 167903232, .int .i64 1, .int .i64 0, .int .i64 0, .string (⟨#[]⟩ : ByteArray)]) ?_ 4 _ (by first | rfl | (simp [*]; done)); (with_reducible repeat (first | refine blk_drewN ?_ _ | refine blk_drew ?_ | refine blk_alloc ?_ _)); refine blk_put (cs := #[.int .i64 167837696, .int .i64 167903232, .int .i64 1, .int .i64 0, .int .i64 0, .string (⟨#[]⟩ : ByteArray)]) ?_ 3 _ (by first | rfl | (simp [*]; done)); (with_reducible repeat (first | refine blk_drewN ?_ _ | refine blk_drew ?_ | refine blk_alloc ?_ _)); refine blk_put (cs := #[.int .i64 167837696, .int .i64 167903232, .int .i64 0, .int .i64 0, .int .i64 0, .string (⟨#[]⟩ : ByteArray)]) ?_ 2 _ (by first | rfl | (simp [*]; done)); (with_reducible repeat (first | refine blk_drewN ?_ _ | refine blk_drew ?_ | refine blk_alloc ?_ _)); refine blk_put (cs := #[.int .i64 167837696, .int .i64 0, .int .i64 0, .int .i64 0, .int .i64 0, .string (⟨#[]⟩ : ByteArray)]) ?_ 1 _ (by first | rfl | (simp [*]; done)); (with_reducible repeat (first | refine blk_drewN ?_ _ | refine blk_drew ?_ | refine blk_alloc ?_ _)); refine blk_put (cs := #[.int .i64 0, .int .i64 0, .int .i64 0, .int .i64 0, .int .i64 0, .string (⟨#[]⟩ : ByteArray)]) ?_ 0 _ (by first | rfl | (simp [*]; done)); (with_reducible repeat (first | refine blk_drewN ?_ _ | refine blk_drew ?_ | refine blk_alloc ?_ _)); exact BK297.out)) : gb298 ≠ gb297)); clear BK297; clear HB; have BK297 := n0_; have HB := n1_; have BK298 := n2_; have GW298 := n3_; have GE298 := n4_; have NB297_298 := n5_; have NB298_297 := n6_; clear n0_ n1_ n2_ n3_ n4_ n5_ n6_; clear hb hbox hg; have hnb10 := NB298_297.out; have hnc10 := NB297_298.out; have hcz11_0 : w9.cell? ⟨gb298, 0, none⟩ = some (.int .i64 0) := (blk_cell BK298.out 0).trans rfl; have hcz11_1 : w9.cell? ⟨gb298, 1, none⟩ = some (.int .i64 0) := (blk_cell BK298.out 1).trans rfl; have hcz11_2 : w9.cell? ⟨gb298, 2, none⟩ = some (.int .i64 0) := (blk_cell BK298.out 2).trans rfl; have hcz11_3 : w9.cell? ⟨gb298, 3, none⟩ = some (.int .i64 0) := (blk_cell BK298.out 3).trans rfl; have hcz11_4 : w9.cell? ⟨gb298, 4, none⟩ = some (.int .i64 0) := (blk_cell BK298.out 4).trans rfl; have hcz11_5 : w9.cell? ⟨gb298, 5, none⟩ = some (.string (⟨#[]⟩ : ByteArray)) := (blk_cell BK298.out 5).trans rfl; have hfz11_0 := blk_frozen BK298.out 0; have hfz11_1 := blk_frozen BK298.out 1; have hfz11_2 := blk_frozen BK298.out 2; have hfz11_3 := blk_frozen BK298.out 3; have hfz11_4 := blk_frozen BK298.out 4; have hfz11_5 := blk_frozen BK298.out 5))
    (try simp only [Act.put, List.setIfInBounds_toArray, List.set_cons_zero, List.set_cons_succ])
    go_cut [] (fun wc => ∃ (kq : Nat) (x299000_4 : Int) (x299001_4 : Int) (x299002_4 : Int) (x299003_4 : Int) (x299004_4 : Int) (x299005_4 : ByteArray), Aside0 (wharfagelaw6_GueForms.j0 kq 167837696 167903232 1 0 0 (⟨#[]⟩ : ByteArray) x299000_4 x299001_4 x299002_4 x299003_4 x299004_4 x299005_4 = some r) ∧ Aside0 (kq ≤ k) ∧ Aside0 (wc.heap[gb297]? = some (.cells #[.int .i64 167837696, .int .i64 167903232, .int .i64 1, .int .i64 0, .int .i64 0, .string (⟨#[]⟩ : ByteArray)] 23 (0, 0))) ∧ Aside0 (wc.heap[gb298]? = some (.cells #[.int .i64 x299000_4, .int .i64 x299001_4, .int .i64 x299002_4, .int .i64 x299003_4, .int .i64 x299004_4, .string x299005_4] 23 (0, 0))) ∧ Aside0 (Below w.heap.size w wc))
    case first =>
      have H := HC5.out
      clear HC5
      by_cases c12 : (Int.tmod (IntKind.u64.wrap (a0)) 10) = 0
      · rw [if_pos c12] at H
        have c12b0 : ((Int.tmod (IntKind.u64.wrap (a0)) 10) == 0) = true := beq_iff_eq.mpr c12
        have c12b1 : ((Int.tmod (IntKind.u64.wrap (a0)) 10) != 0) = false := bne_eq_false_iff_eq.mpr c12
        clear c12
        (first | rw [c12b0] | (simp only [i64_w, i32_w]; rw [c12b0]) | skip)
        have H' := Aside0.mk H
        clear H
        have hnb13 := NB298_297.out
        have hnc13 := NB297_298.out
        have hcz14_0 : w9.cell? ⟨gb298, 0, none⟩ = some (.int .i64 0) := (blk_cell BK298.out 0).trans rfl
        have hcz14_1 : w9.cell? ⟨gb298, 1, none⟩ = some (.int .i64 0) := (blk_cell BK298.out 1).trans rfl
        have hcz14_2 : w9.cell? ⟨gb298, 2, none⟩ = some (.int .i64 0) := (blk_cell BK298.out 2).trans rfl
        have hcz14_3 : w9.cell? ⟨gb298, 3, none⟩ = some (.int .i64 0) := (blk_cell BK298.out 3).trans rfl
        have hcz14_4 : w9.cell? ⟨gb298, 4, none⟩ = some (.int .i64 0) := (blk_cell BK298.out 4).trans rfl
        have hcz14_5 : w9.cell? ⟨gb298, 5, none⟩ = some (.string (⟨#[]⟩ : ByteArray)) := (blk_cell BK298.out 5).trans rfl
        have hfz14_0 := blk_frozen BK298.out 0
        have hfz14_1 := blk_frozen BK298.out 1
        have hfz14_2 := blk_frozen BK298.out 2
        have hfz14_3 := blk_frozen BK298.out 3
        have hfz14_4 := blk_frozen BK298.out 4
        have hfz14_5 := blk_frozen BK298.out 5
        go_wp2
        go_meet
        case rel => exact ⟨_, (0), (167903232), (1), (0), (0), ((⟨#[]⟩ : ByteArray)), H', ⟨by first | omega | exact Nat.le_refl _⟩, ⟨by (with_reducible repeat (first | refine blk_drewN ?_ _ | refine blk_drew ?_ | refine blk_alloc ?_ _)); refine blk_far ?_ NB297_298.out _; (with_reducible repeat (first | refine blk_drewN ?_ _ | refine blk_drew ?_ | refine blk_alloc ?_ _)); refine blk_far ?_ NB297_298.out _; (with_reducible repeat (first | refine blk_drewN ?_ _ | refine blk_drew ?_ | refine blk_alloc ?_ _)); refine blk_far ?_ NB297_298.out _; (with_reducible repeat (first | refine blk_drewN ?_ _ | refine blk_drew ?_ | refine blk_alloc ?_ _)); refine blk_far ?_ NB297_298.out _; (with_reducible repeat (first | refine blk_drewN ?_ _ | refine blk_drew ?_ | refine blk_alloc ?_ _)); refine blk_far ?_ NB297_298.out _; (with_reducible repeat (first | refine blk_drewN ?_ _ | refine blk_drew ?_ | refine blk_alloc ?_ _)); refine blk_far ?_ NB297_298.out _; (with_reducible repeat (first | refine blk_drewN ?_ _ | refine blk_drew ?_ | refine blk_alloc ?_ _)); refine blk_far ?_ NB297_298.out _; (with_reducible repeat (first | refine blk_drewN ?_ _ | refine blk_drew ?_ | refine blk_alloc ?_ _)); exact BK297.out⟩, ⟨by (with_reducible repeat (first | refine blk_drewN ?_ _ | refine blk_drew ?_ | refine blk_alloc ?_ _)); refine blk_put (cs := #[.int .i64 167837696, .int .i64 167903232, .int .i64 1, .int .i64 0, .int .i64 0, .string (⟨#[]⟩ : ByteArray)]) ?_ 0 _ (by first | rfl | (simp [*]; done)); (with_reducible repeat (first | refine blk_drewN ?_ _ | refine blk_drew ?_ | refine blk_alloc ?_ _)); refine blk_put (cs := #[.int .i64 167837696, .int .i64 167903232, .int .i64 1, .int .i64 0, .int .i64 0, .string (⟨#[]⟩ : ByteArray)]) ?_ 5 _ (by first | rfl | (simp [*]; done)); (with_reducible repeat (first | refine blk_drewN ?_ _ | refine blk_drew ?_ | refine blk_alloc ?_ _)); refine blk_put (cs := #[.int .i64 167837696, .int .i64 167903232, .int .i64 1, .int .i64 0, .int .i64 0, .string (⟨#[]⟩ : ByteArray)]) ?_ 4 _ (by first | rfl | (simp [*]; done)); (with_reducible repeat (first | refine blk_drewN ?_ _ | refine blk_drew ?_ | refine blk_alloc ?_ _)); refine blk_put (cs := #[.int .i64 167837696, .int .i64 167903232, .int .i64 1, .int .i64 0, .int .i64 0, .string (⟨#[]⟩ : ByteArray)]) ?_ 3 _ (by first | rfl | (simp [*]; done)); (with_reducible repeat (first | refine blk_drewN ?_ _ | refine blk_drew ?_ | refine blk_alloc ?_ _)); refine blk_put (cs := #[.int .i64 167837696, .int .i64 167903232, .int .i64 0, .int .i64 0, .int .i64 0, .string (⟨#[]⟩ : ByteArray)]) ?_ 2 _ (by first | rfl | (simp [*]; done)); (with_reducible repeat (first | refine blk_drewN ?_ _ | refine blk_drew ?_ | refine blk_alloc ?_ _)); refine blk_put (cs := #[.int .i64 167837696, .int .i64 0, .int .i64 0, .int .i64 0, .int .i64 0, .string (⟨#[]⟩ : ByteArray)]) ?_ 1 _ (by first | rfl | (simp [*]; done)); (with_reducible repeat (first | refine blk_drewN ?_ _ | refine blk_drew ?_ | refine blk_alloc ?_ _)); refine blk_put (cs := #[.int .i64 0, .int .i64 0, .int .i64 0, .int .i64 0, .int .i64 0, .string (⟨#[]⟩ : ByteArray)]) ?_ 0 _ (by first | rfl | (simp [*]; done)); (with_reducible repeat (first | refine blk_drewN ?_ _ | refine blk_drew ?_ | refine blk_alloc ?_ _)); exact BK298.out⟩, ⟨by repeat (first | (with_reducible first | exact HB.out | apply below_alloc | apply pw_below_drewN | apply below_drew1 | refine below_set ?_ GE297.out | refine below_set ?_ GE298.out) | exact HB.out)⟩⟩
      · rw [if_neg c12] at H
        have c12b0 : ((Int.tmod (IntKind.u64.wrap (a0)) 10) == 0) = false := beq_eq_false_iff_ne.mpr c12
        have c12b1 : ((Int.tmod (IntKind.u64.wrap (a0)) 10) != 0) = true := bne_iff_ne.mpr c12
        (first | rw [c12b0] | (simp only [i64_w, i32_w]; rw [c12b0]) | skip)
        by_cases c15 : (Int.tmod (IntKind.u64.wrap (a0)) 10) = 1
        · rw [if_pos c15] at H
          have c15b0 : ((Int.tmod (IntKind.u64.wrap (a0)) 10) == 1) = true := beq_iff_eq.mpr c15
          have c15b1 : ((Int.tmod (IntKind.u64.wrap (a0)) 10) != 1) = false := bne_eq_false_iff_eq.mpr c15
          clear c15
          have H' := Aside0.mk H
          clear H
          have hnb16 := NB298_297.out
          have hnc16 := NB297_298.out
          have hcz17_0 : w9.cell? ⟨gb298, 0, none⟩ = some (.int .i64 0) := (blk_cell BK298.out 0).trans rfl
          have hcz17_1 : w9.cell? ⟨gb298, 1, none⟩ = some (.int .i64 0) := (blk_cell BK298.out 1).trans rfl
          have hcz17_2 : w9.cell? ⟨gb298, 2, none⟩ = some (.int .i64 0) := (blk_cell BK298.out 2).trans rfl
          have hcz17_3 : w9.cell? ⟨gb298, 3, none⟩ = some (.int .i64 0) := (blk_cell BK298.out 3).trans rfl
          have hcz17_4 : w9.cell? ⟨gb298, 4, none⟩ = some (.int .i64 0) := (blk_cell BK298.out 4).trans rfl
          have hcz17_5 : w9.cell? ⟨gb298, 5, none⟩ = some (.string (⟨#[]⟩ : ByteArray)) := (blk_cell BK298.out 5).trans rfl
          have hfz17_0 := blk_frozen BK298.out 0
          have hfz17_1 := blk_frozen BK298.out 1
          have hfz17_2 := blk_frozen BK298.out 2
          have hfz17_3 := blk_frozen BK298.out 3
          have hfz17_4 := blk_frozen BK298.out 4
          have hfz17_5 := blk_frozen BK298.out 5
          go_wp2
          go_meet
          case rel => exact ⟨_, (167837696), (167772161), (1), (0), (0), ((⟨#[]⟩ : ByteArray)), H', ⟨by first | omega | exact Nat.le_refl _⟩, ⟨by (with_reducible repeat (first | refine blk_drewN ?_ _ | refine blk_drew ?_ | refine blk_alloc ?_ _)); refine blk_far ?_ NB297_298.out _; (with_reducible repeat (first | refine blk_drewN ?_ _ | refine blk_drew ?_ | refine blk_alloc ?_ _)); refine blk_far ?_ NB297_298.out _; (with_reducible repeat (first | refine blk_drewN ?_ _ | refine blk_drew ?_ | refine blk_alloc ?_ _)); refine blk_far ?_ NB297_298.out _; (with_reducible repeat (first | refine blk_drewN ?_ _ | refine blk_drew ?_ | refine blk_alloc ?_ _)); refine blk_far ?_ NB297_298.out _; (with_reducible repeat (first | refine blk_drewN ?_ _ | refine blk_drew ?_ | refine blk_alloc ?_ _)); refine blk_far ?_ NB297_298.out _; (with_reducible repeat (first | refine blk_drewN ?_ _ | refine blk_drew ?_ | refine blk_alloc ?_ _)); refine blk_far ?_ NB297_298.out _; (with_reducible repeat (first | refine blk_drewN ?_ _ | refine blk_drew ?_ | refine blk_alloc ?_ _)); refine blk_far ?_ NB297_298.out _; (with_reducible repeat (first | refine blk_drewN ?_ _ | refine blk_drew ?_ | refine blk_alloc ?_ _)); exact BK297.out⟩, ⟨by (with_reducible repeat (first | refine blk_drewN ?_ _ | refine blk_drew ?_ | refine blk_alloc ?_ _)); refine blk_put (cs := #[.int .i64 167837696, .int .i64 167903232, .int .i64 1, .int .i64 0, .int .i64 0, .string (⟨#[]⟩ : ByteArray)]) ?_ 1 _ (by first | rfl | (simp [*]; done)); (with_reducible repeat (first | refine blk_drewN ?_ _ | refine blk_drew ?_ | refine blk_alloc ?_ _)); refine blk_put (cs := #[.int .i64 167837696, .int .i64 167903232, .int .i64 1, .int .i64 0, .int .i64 0, .string (⟨#[]⟩ : ByteArray)]) ?_ 5 _ (by first | rfl | (simp [*]; done)); (with_reducible repeat (first | refine blk_drewN ?_ _ | refine blk_drew ?_ | refine blk_alloc ?_ _)); refine blk_put (cs := #[.int .i64 167837696, .int .i64 167903232, .int .i64 1, .int .i64 0, .int .i64 0, .string (⟨#[]⟩ : ByteArray)]) ?_ 4 _ (by first | rfl | (simp [*]; done)); (with_reducible repeat (first | refine blk_drewN ?_ _ | refine blk_drew ?_ | refine blk_alloc ?_ _)); refine blk_put (cs := #[.int .i64 167837696, .int .i64 167903232, .int .i64 1, .int .i64 0, .int .i64 0, .string (⟨#[]⟩ : ByteArray)]) ?_ 3 _ (by first | rfl | (simp [*]; done)); (with_reducible repeat (first | refine blk_drewN ?_ _ | refine blk_drew ?_ | refine blk_alloc ?_ _)); refine blk_put (cs := #[.int .i64 167837696, .int .i64 167903232, .int .i64 0, .int .i64 0, .int .i64 0, .string (⟨#[]⟩ : ByteArray)]) ?_ 2 _ (by first | rfl | (simp [*]; done)); (with_reducible repeat (first | refine blk_drewN ?_ _ | refine blk_drew ?_ | refine blk_alloc ?_ _)); refine blk_put (cs := #[.int .i64 167837696, .int .i64 0, .int .i64 0, .int .i64 0, .int .i64 0, .string (⟨#[]⟩ : ByteArray)]) ?_ 1 _ (by first | rfl | (simp [*]; done)); (with_reducible repeat (first | refine blk_drewN ?_ _ | refine blk_drew ?_ | refine blk_alloc ?_ _)); refine blk_put (cs := #[.int .i64 0, .int .i64 0, .int .i64 0, .int .i64 0, .int .i64 0, .string (⟨#[]⟩ : ByteArray)]) ?_ 0 _ (by first | rfl | (simp [*]; done)); (with_reducible repeat (first | refine blk_drewN ?_ _ | refine blk_drew ?_ | refine blk_alloc ?_ _)); exact BK298.out⟩, ⟨by repeat (first | (with_reducible first | exact HB.out | apply below_alloc | apply pw_below_drewN | apply below_drew1 | refine below_set ?_ GE297.out | refine below_set ?_ GE298.out) | exact HB.out)⟩⟩
        · rw [if_neg c15] at H
          have c15b0 : ((Int.tmod (IntKind.u64.wrap (a0)) 10) == 1) = false := beq_eq_false_iff_ne.mpr c15
          have c15b1 : ((Int.tmod (IntKind.u64.wrap (a0)) 10) != 1) = true := bne_iff_ne.mpr c15
          by_cases c18 : (Int.tmod (IntKind.u64.wrap (a0)) 10) = 2
          · rw [if_pos c18] at H
            have c18b0 : ((Int.tmod (IntKind.u64.wrap (a0)) 10) == 2) = true := beq_iff_eq.mpr c18
            have c18b1 : ((Int.tmod (IntKind.u64.wrap (a0)) 10) != 2) = false := bne_eq_false_iff_eq.mpr c18
            clear c18
            have H' := Aside0.mk H
            clear H
            have hnb19 := NB298_297.out
            have hnc19 := NB297_298.out
            have hcz20_0 : w9.cell? ⟨gb298, 0, none⟩ = some (.int .i64 0) := (blk_cell BK298.out 0).trans rfl
            have hcz20_1 : w9.cell? ⟨gb298, 1, none⟩ = some (.int .i64 0) := (blk_cell BK298.out 1).trans rfl
            have hcz20_2 : w9.cell? ⟨gb298, 2, none⟩ = some (.int .i64 0) := (blk_cell BK298.out 2).trans rfl
            have hcz20_3 : w9.cell? ⟨gb298, 3, none⟩ = some (.int .i64 0) := (blk_cell BK298.out 3).trans rfl
            have hcz20_4 : w9.cell? ⟨gb298, 4, none⟩ = some (.int .i64 0) := (blk_cell BK298.out 4).trans rfl
            have hcz20_5 : w9.cell? ⟨gb298, 5, none⟩ = some (.string (⟨#[]⟩ : ByteArray)) := (blk_cell BK298.out 5).trans rfl
            have hfz20_0 := blk_frozen BK298.out 0
            have hfz20_1 := blk_frozen BK298.out 1
            have hfz20_2 := blk_frozen BK298.out 2
            have hfz20_3 := blk_frozen BK298.out 3
            have hfz20_4 := blk_frozen BK298.out 4
            have hfz20_5 := blk_frozen BK298.out 5
            go_wp2
            go_meet
            case rel => exact ⟨_, (167837696), (167903232), (wrap64 (1 - (wrap64 (1 + (Go.bits .and .i64 a1 1023))))), (0), (0), ((⟨#[]⟩ : ByteArray)), H', ⟨by first | omega | exact Nat.le_refl _⟩, ⟨by (with_reducible repeat (first | refine blk_drewN ?_ _ | refine blk_drew ?_ | refine blk_alloc ?_ _)); refine blk_far ?_ NB297_298.out _; (with_reducible repeat (first | refine blk_drewN ?_ _ | refine blk_drew ?_ | refine blk_alloc ?_ _)); refine blk_far ?_ NB297_298.out _; (with_reducible repeat (first | refine blk_drewN ?_ _ | refine blk_drew ?_ | refine blk_alloc ?_ _)); refine blk_far ?_ NB297_298.out _; (with_reducible repeat (first | refine blk_drewN ?_ _ | refine blk_drew ?_ | refine blk_alloc ?_ _)); refine blk_far ?_ NB297_298.out _; (with_reducible repeat (first | refine blk_drewN ?_ _ | refine blk_drew ?_ | refine blk_alloc ?_ _)); refine blk_far ?_ NB297_298.out _; (with_reducible repeat (first | refine blk_drewN ?_ _ | refine blk_drew ?_ | refine blk_alloc ?_ _)); refine blk_far ?_ NB297_298.out _; (with_reducible repeat (first | refine blk_drewN ?_ _ | refine blk_drew ?_ | refine blk_alloc ?_ _)); refine blk_far ?_ NB297_298.out _; (with_reducible repeat (first | refine blk_drewN ?_ _ | refine blk_drew ?_ | refine blk_alloc ?_ _)); exact BK297.out⟩, ⟨by (with_reducible repeat (first | refine blk_drewN ?_ _ | refine blk_drew ?_ | refine blk_alloc ?_ _)); refine blk_put (cs := #[.int .i64 167837696, .int .i64 167903232, .int .i64 1, .int .i64 0, .int .i64 0, .string (⟨#[]⟩ : ByteArray)]) ?_ 2 _ (by first | rfl | (simp [*]; done)); (with_reducible repeat (first | refine blk_drewN ?_ _ | refine blk_drew ?_ | refine blk_alloc ?_ _)); refine blk_put (cs := #[.int .i64 167837696, .int .i64 167903232, .int .i64 1, .int .i64 0, .int .i64 0, .string (⟨#[]⟩ : ByteArray)]) ?_ 5 _ (by first | rfl | (simp [*]; done)); (with_reducible repeat (first | refine blk_drewN ?_ _ | refine blk_drew ?_ | refine blk_alloc ?_ _)); refine blk_put (cs := #[.int .i64 167837696, .int .i64 167903232, .int .i64 1, .int .i64 0, .int .i64 0, .string (⟨#[]⟩ : ByteArray)]) ?_ 4 _ (by first | rfl | (simp [*]; done)); (with_reducible repeat (first | refine blk_drewN ?_ _ | refine blk_drew ?_ | refine blk_alloc ?_ _)); refine blk_put (cs := #[.int .i64 167837696, .int .i64 167903232, .int .i64 1, .int .i64 0, .int .i64 0, .string (⟨#[]⟩ : ByteArray)]) ?_ 3 _ (by first | rfl | (simp [*]; done)); (with_reducible repeat (first | refine blk_drewN ?_ _ | refine blk_drew ?_ | refine blk_alloc ?_ _)); refine blk_put (cs := #[.int .i64 167837696, .int .i64 167903232, .int .i64 0, .int .i64 0, .int .i64 0, .string (⟨#[]⟩ : ByteArray)]) ?_ 2 _ (by first | rfl | (simp [*]; done)); (with_reducible repeat (first | refine blk_drewN ?_ _ | refine blk_drew ?_ | refine blk_alloc ?_ _)); refine blk_put (cs := #[.int .i64 167837696, .int .i64 0, .int .i64 0, .int .i64 0, .int .i64 0, .string (⟨#[]⟩ : ByteArray)]) ?_ 1 _ (by first | rfl | (simp [*]; done)); (with_reducible repeat (first | refine blk_drewN ?_ _ | refine blk_drew ?_ | refine blk_alloc ?_ _)); refine blk_put (cs := #[.int .i64 0, .int .i64 0, .int .i64 0, .int .i64 0, .int .i64 0, .string (⟨#[]⟩ : ByteArray)]) ?_ 0 _ (by first | rfl | (simp [*]; done)); (with_reducible repeat (first | refine blk_drewN ?_ _ | refine blk_drew ?_ | refine blk_alloc ?_ _)); exact BK298.out⟩, ⟨by repeat (first | (with_reducible first | exact HB.out | apply below_alloc | apply pw_below_drewN | apply below_drew1 | refine below_set ?_ GE297.out | refine below_set ?_ GE298.out) | exact HB.out)⟩⟩
          · rw [if_neg c18] at H
            have c18b0 : ((Int.tmod (IntKind.u64.wrap (a0)) 10) == 2) = false := beq_eq_false_iff_ne.mpr c18
            have c18b1 : ((Int.tmod (IntKind.u64.wrap (a0)) 10) != 2) = true := bne_iff_ne.mpr c18
            by_cases c21 : (Int.tmod (IntKind.u64.wrap (a0)) 10) = 3
            · rw [if_pos c21] at H
              have c21b0 : ((Int.tmod (IntKind.u64.wrap (a0)) 10) == 3) = true := beq_iff_eq.mpr c21
              have c21b1 : ((Int.tmod (IntKind.u64.wrap (a0)) 10) != 3) = false := bne_eq_false_iff_eq.mpr c21
              clear c21
              have H' := Aside0.mk H
              clear H
              have hnb22 := NB298_297.out
              have hnc22 := NB297_298.out
              have hcz23_0 : w9.cell? ⟨gb298, 0, none⟩ = some (.int .i64 0) := (blk_cell BK298.out 0).trans rfl
              have hcz23_1 : w9.cell? ⟨gb298, 1, none⟩ = some (.int .i64 0) := (blk_cell BK298.out 1).trans rfl
              have hcz23_2 : w9.cell? ⟨gb298, 2, none⟩ = some (.int .i64 0) := (blk_cell BK298.out 2).trans rfl
              have hcz23_3 : w9.cell? ⟨gb298, 3, none⟩ = some (.int .i64 0) := (blk_cell BK298.out 3).trans rfl
              have hcz23_4 : w9.cell? ⟨gb298, 4, none⟩ = some (.int .i64 0) := (blk_cell BK298.out 4).trans rfl
              have hcz23_5 : w9.cell? ⟨gb298, 5, none⟩ = some (.string (⟨#[]⟩ : ByteArray)) := (blk_cell BK298.out 5).trans rfl
              have hfz23_0 := blk_frozen BK298.out 0
              have hfz23_1 := blk_frozen BK298.out 1
              have hfz23_2 := blk_frozen BK298.out 2
              have hfz23_3 := blk_frozen BK298.out 3
              have hfz23_4 := blk_frozen BK298.out 4
              have hfz23_5 := blk_frozen BK298.out 5
              go_wp2
              go_meet
              case rel => exact ⟨_, (167837696), (167903232), (wrap64 (4 + (wrap64 (1 + (Go.bits .and .i64 a1 1023))))), (0), (0), ((⟨#[]⟩ : ByteArray)), H', ⟨by first | omega | exact Nat.le_refl _⟩, ⟨by (with_reducible repeat (first | refine blk_drewN ?_ _ | refine blk_drew ?_ | refine blk_alloc ?_ _)); refine blk_far ?_ NB297_298.out _; (with_reducible repeat (first | refine blk_drewN ?_ _ | refine blk_drew ?_ | refine blk_alloc ?_ _)); refine blk_far ?_ NB297_298.out _; (with_reducible repeat (first | refine blk_drewN ?_ _ | refine blk_drew ?_ | refine blk_alloc ?_ _)); refine blk_far ?_ NB297_298.out _; (with_reducible repeat (first | refine blk_drewN ?_ _ | refine blk_drew ?_ | refine blk_alloc ?_ _)); refine blk_far ?_ NB297_298.out _; (with_reducible repeat (first | refine blk_drewN ?_ _ | refine blk_drew ?_ | refine blk_alloc ?_ _)); refine blk_far ?_ NB297_298.out _; (with_reducible repeat (first | refine blk_drewN ?_ _ | refine blk_drew ?_ | refine blk_alloc ?_ _)); refine blk_far ?_ NB297_298.out _; (with_reducible repeat (first | refine blk_drewN ?_ _ | refine blk_drew ?_ | refine blk_alloc ?_ _)); refine blk_far ?_ NB297_298.out _; (with_reducible repeat (first | refine blk_drewN ?_ _ | refine blk_drew ?_ | refine blk_alloc ?_ _)); exact BK297.out⟩, ⟨by (with_reducible repeat (first | refine blk_drewN ?_ _ | refine blk_drew ?_ | refine blk_alloc ?_ _)); refine blk_put (cs := #[.int .i64 167837696, .int .i64 167903232, .int .i64 1, .int .i64 0, .int .i64 0, .string (⟨#[]⟩ : ByteArray)]) ?_ 2 _ (by first | rfl | (simp [*]; done)); (with_reducible repeat (first | refine blk_drewN ?_ _ | refine blk_drew ?_ | refine blk_alloc ?_ _)); refine blk_put (cs := #[.int .i64 167837696, .int .i64 167903232, .int .i64 1, .int .i64 0, .int .i64 0, .string (⟨#[]⟩ : ByteArray)]) ?_ 5 _ (by first | rfl | (simp [*]; done)); (with_reducible repeat (first | refine blk_drewN ?_ _ | refine blk_drew ?_ | refine blk_alloc ?_ _)); refine blk_put (cs := #[.int .i64 167837696, .int .i64 167903232, .int .i64 1, .int .i64 0, .int .i64 0, .string (⟨#[]⟩ : ByteArray)]) ?_ 4 _ (by first | rfl | (simp [*]; done)); (with_reducible repeat (first | refine blk_drewN ?_ _ | refine blk_drew ?_ | refine blk_alloc ?_ _)); refine blk_put (cs := #[.int .i64 167837696, .int .i64 167903232, .int .i64 1, .int .i64 0, .int .i64 0, .string (⟨#[]⟩ : ByteArray)]) ?_ 3 _ (by first | rfl | (simp [*]; done)); (with_reducible repeat (first | refine blk_drewN ?_ _ | refine blk_drew ?_ | refine blk_alloc ?_ _)); refine blk_put (cs := #[.int .i64 167837696, .int .i64 167903232, .int .i64 0, .int .i64 0, .int .i64 0, .string (⟨#[]⟩ : ByteArray)]) ?_ 2 _ (by first | rfl | (simp [*]; done)); (with_reducible repeat (first | refine blk_drewN ?_ _ | refine blk_drew ?_ | refine blk_alloc ?_ _)); refine blk_put (cs := #[.int .i64 167837696, .int .i64 0, .int .i64 0, .int .i64 0, .int .i64 0, .string (⟨#[]⟩ : ByteArray)]) ?_ 1 _ (by first | rfl | (simp [*]; done)); (with_reducible repeat (first | refine blk_drewN ?_ _ | refine blk_drew ?_ | refine blk_alloc ?_ _)); refine blk_put (cs := #[.int .i64 0, .int .i64 0, .int .i64 0, .int .i64 0, .int .i64 0, .string (⟨#[]⟩ : ByteArray)]) ?_ 0 _ (by first | rfl | (simp [*]; done)); (with_reducible repeat (first | refine blk_drewN ?_ _ | refine blk_drew ?_ | refine blk_alloc ?_ _)); exact BK298.out⟩, ⟨by repeat (first | (with_reducible first | exact HB.out | apply below_alloc | apply pw_below_drewN | apply below_drew1 | refine below_set ?_ GE297.out | refine below_set ?_ GE298.out) | exact HB.out)⟩⟩
            · rw [if_neg c21] at H
              have c21b0 : ((Int.tmod (IntKind.u64.wrap (a0)) 10) == 3) = false := beq_eq_false_iff_ne.mpr c21
              have c21b1 : ((Int.tmod (IntKind.u64.wrap (a0)) 10) != 3) = true := bne_iff_ne.mpr c21
              by_cases c24 : (Int.tmod (IntKind.u64.wrap (a0)) 10) = 4
              · rw [if_pos c24] at H
                have c24b0 : ((Int.tmod (IntKind.u64.wrap (a0)) 10) == 4) = true := beq_iff_eq.mpr c24
                have c24b1 : ((Int.tmod (IntKind.u64.wrap (a0)) 10) != 4) = false := bne_eq_false_iff_eq.mpr c24
                clear c24
                have H' := Aside0.mk H
                clear H
                have hnb25 := NB298_297.out
                have hnc25 := NB297_298.out
                have hcz26_0 : w9.cell? ⟨gb298, 0, none⟩ = some (.int .i64 0) := (blk_cell BK298.out 0).trans rfl
                have hcz26_1 : w9.cell? ⟨gb298, 1, none⟩ = some (.int .i64 0) := (blk_cell BK298.out 1).trans rfl
                have hcz26_2 : w9.cell? ⟨gb298, 2, none⟩ = some (.int .i64 0) := (blk_cell BK298.out 2).trans rfl
                have hcz26_3 : w9.cell? ⟨gb298, 3, none⟩ = some (.int .i64 0) := (blk_cell BK298.out 3).trans rfl
                have hcz26_4 : w9.cell? ⟨gb298, 4, none⟩ = some (.int .i64 0) := (blk_cell BK298.out 4).trans rfl
                have hcz26_5 : w9.cell? ⟨gb298, 5, none⟩ = some (.string (⟨#[]⟩ : ByteArray)) := (blk_cell BK298.out 5).trans rfl
                have hfz26_0 := blk_frozen BK298.out 0
                have hfz26_1 := blk_frozen BK298.out 1
                have hfz26_2 := blk_frozen BK298.out 2
                have hfz26_3 := blk_frozen BK298.out 3
                have hfz26_4 := blk_frozen BK298.out 4
                have hfz26_5 := blk_frozen BK298.out 5
                go_wp2
                go_meet
                case rel => exact ⟨_, (167837696), (167903232), (1), (wrap64 (-(wrap64 (1 + (Go.bits .and .i64 a1 1023))))), (0), ((⟨#[]⟩ : ByteArray)), H', ⟨by first | omega | exact Nat.le_refl _⟩, ⟨by (with_reducible repeat (first | refine blk_drewN ?_ _ | refine blk_drew ?_ | refine blk_alloc ?_ _)); refine blk_far ?_ NB297_298.out _; (with_reducible repeat (first | refine blk_drewN ?_ _ | refine blk_drew ?_ | refine blk_alloc ?_ _)); refine blk_far ?_ NB297_298.out _; (with_reducible repeat (first | refine blk_drewN ?_ _ | refine blk_drew ?_ | refine blk_alloc ?_ _)); refine blk_far ?_ NB297_298.out _; (with_reducible repeat (first | refine blk_drewN ?_ _ | refine blk_drew ?_ | refine blk_alloc ?_ _)); refine blk_far ?_ NB297_298.out _; (with_reducible repeat (first | refine blk_drewN ?_ _ | refine blk_drew ?_ | refine blk_alloc ?_ _)); refine blk_far ?_ NB297_298.out _; (with_reducible repeat (first | refine blk_drewN ?_ _ | refine blk_drew ?_ | refine blk_alloc ?_ _)); refine blk_far ?_ NB297_298.out _; (with_reducible repeat (first | refine blk_drewN ?_ _ | refine blk_drew ?_ | refine blk_alloc ?_ _)); refine blk_far ?_ NB297_298.out _; (with_reducible repeat (first | refine blk_drewN ?_ _ | refine blk_drew ?_ | refine blk_alloc ?_ _)); exact BK297.out⟩, ⟨by (with_reducible repeat (first | refine blk_drewN ?_ _ | refine blk_drew ?_ | refine blk_alloc ?_ _)); refine blk_put (cs := #[.int .i64 167837696, .int .i64 167903232, .int .i64 1, .int .i64 0, .int .i64 0, .string (⟨#[]⟩ : ByteArray)]) ?_ 3 _ (by first | rfl | (simp [*]; done)); (with_reducible repeat (first | refine blk_drewN ?_ _ | refine blk_drew ?_ | refine blk_alloc ?_ _)); refine blk_put (cs := #[.int .i64 167837696, .int .i64 167903232, .int .i64 1, .int .i64 0, .int .i64 0, .string (⟨#[]⟩ : ByteArray)]) ?_ 5 _ (by first | rfl | (simp [*]; done)); (with_reducible repeat (first | refine blk_drewN ?_ _ | refine blk_drew ?_ | refine blk_alloc ?_ _)); refine blk_put (cs := #[.int .i64 167837696, .int .i64 167903232, .int .i64 1, .int .i64 0, .int .i64 0, .string (⟨#[]⟩ : ByteArray)]) ?_ 4 _ (by first | rfl | (simp [*]; done)); (with_reducible repeat (first | refine blk_drewN ?_ _ | refine blk_drew ?_ | refine blk_alloc ?_ _)); refine blk_put (cs := #[.int .i64 167837696, .int .i64 167903232, .int .i64 1, .int .i64 0, .int .i64 0, .string (⟨#[]⟩ : ByteArray)]) ?_ 3 _ (by first | rfl | (simp [*]; done)); (with_reducible repeat (first | refine blk_drewN ?_ _ | refine blk_drew ?_ | refine blk_alloc ?_ _)); refine blk_put (cs := #[.int .i64 167837696, .int .i64 167903232, .int .i64 0, .int .i64 0, .int .i64 0, .string (⟨#[]⟩ : ByteArray)]) ?_ 2 _ (by first | rfl | (simp [*]; done)); (with_reducible repeat (first | refine blk_drewN ?_ _ | refine blk_drew ?_ | refine blk_alloc ?_ _)); refine blk_put (cs := #[.int .i64 167837696, .int .i64 0, .int .i64 0, .int .i64 0, .int .i64 0, .string (⟨#[]⟩ : ByteArray)]) ?_ 1 _ (by first | rfl | (simp [*]; done)); (with_reducible repeat (first | refine blk_drewN ?_ _ | refine blk_drew ?_ | refine blk_alloc ?_ _)); refine blk_put (cs := #[.int .i64 0, .int .i64 0, .int .i64 0, .int .i64 0, .int .i64 0, .string (⟨#[]⟩ : ByteArray)]) ?_ 0 _ (by first | rfl | (simp [*]; done)); (with_reducible repeat (first | refine blk_drewN ?_ _ | refine blk_drew ?_ | refine blk_alloc ?_ _)); exact BK298.out⟩, ⟨by repeat (first | (with_reducible first | exact HB.out | apply below_alloc | apply pw_below_drewN | apply below_drew1 | refine below_set ?_ GE297.out | refine below_set ?_ GE298.out) | exact HB.out)⟩⟩
              · rw [if_neg c24] at H
                have c24b0 : ((Int.tmod (IntKind.u64.wrap (a0)) 10) == 4) = false := beq_eq_false_iff_ne.mpr c24
                have c24b1 : ((Int.tmod (IntKind.u64.wrap (a0)) 10) != 4) = true := bne_iff_ne.mpr c24
                by_cases c27 : (Int.tmod (IntKind.u64.wrap (a0)) 10) = 5
                · rw [if_pos c27] at H
                  have c27b0 : ((Int.tmod (IntKind.u64.wrap (a0)) 10) == 5) = true := beq_iff_eq.mpr c27
                  have c27b1 : ((Int.tmod (IntKind.u64.wrap (a0)) 10) != 5) = false := bne_eq_false_iff_eq.mpr c27
                  clear c27
                  have H' := Aside0.mk H
                  clear H
                  have hnb28 := NB298_297.out
                  have hnc28 := NB297_298.out
                  have hcz29_0 : w9.cell? ⟨gb298, 0, none⟩ = some (.int .i64 0) := (blk_cell BK298.out 0).trans rfl
                  have hcz29_1 : w9.cell? ⟨gb298, 1, none⟩ = some (.int .i64 0) := (blk_cell BK298.out 1).trans rfl
                  have hcz29_2 : w9.cell? ⟨gb298, 2, none⟩ = some (.int .i64 0) := (blk_cell BK298.out 2).trans rfl
                  have hcz29_3 : w9.cell? ⟨gb298, 3, none⟩ = some (.int .i64 0) := (blk_cell BK298.out 3).trans rfl
                  have hcz29_4 : w9.cell? ⟨gb298, 4, none⟩ = some (.int .i64 0) := (blk_cell BK298.out 4).trans rfl
                  have hcz29_5 : w9.cell? ⟨gb298, 5, none⟩ = some (.string (⟨#[]⟩ : ByteArray)) := (blk_cell BK298.out 5).trans rfl
                  have hfz29_0 := blk_frozen BK298.out 0
                  have hfz29_1 := blk_frozen BK298.out 1
                  have hfz29_2 := blk_frozen BK298.out 2
                  have hfz29_3 := blk_frozen BK298.out 3
                  have hfz29_4 := blk_frozen BK298.out 4
                  have hfz29_5 := blk_frozen BK298.out 5
                  go_wp2
                  go_meet
                  case rel => exact ⟨_, (167837696), (167903232), (1), (wrap64 (255 + (wrap64 (1 + (Go.bits .and .i64 a1 1023))))), (0), ((⟨#[]⟩ : ByteArray)), H', ⟨by first | omega | exact Nat.le_refl _⟩, ⟨by (with_reducible repeat (first | refine blk_drewN ?_ _ | refine blk_drew ?_ | refine blk_alloc ?_ _)); refine blk_far ?_ NB297_298.out _; (with_reducible repeat (first | refine blk_drewN ?_ _ | refine blk_drew ?_ | refine blk_alloc ?_ _)); refine blk_far ?_ NB297_298.out _; (with_reducible repeat (first | refine blk_drewN ?_ _ | refine blk_drew ?_ | refine blk_alloc ?_ _)); refine blk_far ?_ NB297_298.out _; (with_reducible repeat (first | refine blk_drewN ?_ _ | refine blk_drew ?_ | refine blk_alloc ?_ _)); refine blk_far ?_ NB297_298.out _; (with_reducible repeat (first | refine blk_drewN ?_ _ | refine blk_drew ?_ | refine blk_alloc ?_ _)); refine blk_far ?_ NB297_298.out _; (with_reducible repeat (first | refine blk_drewN ?_ _ | refine blk_drew ?_ | refine blk_alloc ?_ _)); refine blk_far ?_ NB297_298.out _; (with_reducible repeat (first | refine blk_drewN ?_ _ | refine blk_drew ?_ | refine blk_alloc ?_ _)); refine blk_far ?_ NB297_298.out _; (with_reducible repeat (first | refine blk_drewN ?_ _ | refine blk_drew ?_ | refine blk_alloc ?_ _)); exact BK297.out⟩, ⟨by (with_reducible repeat (first | refine blk_drewN ?_ _ | refine blk_drew ?_ | refine blk_alloc ?_ _)); refine blk_put (cs := #[.int .i64 167837696, .int .i64 167903232, .int .i64 1, .int .i64 0, .int .i64 0, .string (⟨#[]⟩ : ByteArray)]) ?_ 3 _ (by first | rfl | (simp [*]; done)); (with_reducible repeat (first | refine blk_drewN ?_ _ | refine blk_drew ?_ | refine blk_alloc ?_ _)); refine blk_put (cs := #[.int .i64 167837696, .int .i64 167903232, .int .i64 1, .int .i64 0, .int .i64 0, .string (⟨#[]⟩ : ByteArray)]) ?_ 5 _ (by first | rfl | (simp [*]; done)); (with_reducible repeat (first | refine blk_drewN ?_ _ | refine blk_drew ?_ | refine blk_alloc ?_ _)); refine blk_put (cs := #[.int .i64 167837696, .int .i64 167903232, .int .i64 1, .int .i64 0, .int .i64 0, .string (⟨#[]⟩ : ByteArray)]) ?_ 4 _ (by first | rfl | (simp [*]; done)); (with_reducible repeat (first | refine blk_drewN ?_ _ | refine blk_drew ?_ | refine blk_alloc ?_ _)); refine blk_put (cs := #[.int .i64 167837696, .int .i64 167903232, .int .i64 1, .int .i64 0, .int .i64 0, .string (⟨#[]⟩ : ByteArray)]) ?_ 3 _ (by first | rfl | (simp [*]; done)); (with_reducible repeat (first | refine blk_drewN ?_ _ | refine blk_drew ?_ | refine blk_alloc ?_ _)); refine blk_put (cs := #[.int .i64 167837696, .int .i64 167903232, .int .i64 0, .int .i64 0, .int .i64 0, .string (⟨#[]⟩ : ByteArray)]) ?_ 2 _ (by first | rfl | (simp [*]; done)); (with_reducible repeat (first | refine blk_drewN ?_ _ | refine blk_drew ?_ | refine blk_alloc ?_ _)); refine blk_put (cs := #[.int .i64 167837696, .int .i64 0, .int .i64 0, .int .i64 0, .int .i64 0, .string (⟨#[]⟩ : ByteArray)]) ?_ 1 _ (by first | rfl | (simp [*]; done)); (with_reducible repeat (first | refine blk_drewN ?_ _ | refine blk_drew ?_ | refine blk_alloc ?_ _)); refine blk_put (cs := #[.int .i64 0, .int .i64 0, .int .i64 0, .int .i64 0, .int .i64 0, .string (⟨#[]⟩ : ByteArray)]) ?_ 0 _ (by first | rfl | (simp [*]; done)); (with_reducible repeat (first | refine blk_drewN ?_ _ | refine blk_drew ?_ | refine blk_alloc ?_ _)); exact BK298.out⟩, ⟨by repeat (first | (with_reducible first | exact HB.out | apply below_alloc | apply pw_below_drewN | apply below_drew1 | refine below_set ?_ GE297.out | refine below_set ?_ GE298.out) | exact HB.out)⟩⟩
                · rw [if_neg c27] at H
                  have c27b0 : ((Int.tmod (IntKind.u64.wrap (a0)) 10) == 5) = false := beq_eq_false_iff_ne.mpr c27
                  have c27b1 : ((Int.tmod (IntKind.u64.wrap (a0)) 10) != 5) = true := bne_iff_ne.mpr c27
                  by_cases c30 : (Int.tmod (IntKind.u64.wrap (a0)) 10) = 6
                  · rw [if_pos c30] at H
                    have c30b0 : ((Int.tmod (IntKind.u64.wrap (a0)) 10) == 6) = true := beq_iff_eq.mpr c30
                    have c30b1 : ((Int.tmod (IntKind.u64.wrap (a0)) 10) != 6) = false := bne_eq_false_iff_eq.mpr c30
                    clear c30
                    have H' := Aside0.mk H
                    clear H
                    have hnb31 := NB298_297.out
                    have hnc31 := NB297_298.out
                    have hcz32_0 : w9.cell? ⟨gb298, 0, none⟩ = some (.int .i64 0) := (blk_cell BK298.out 0).trans rfl
                    have hcz32_1 : w9.cell? ⟨gb298, 1, none⟩ = some (.int .i64 0) := (blk_cell BK298.out 1).trans rfl
                    have hcz32_2 : w9.cell? ⟨gb298, 2, none⟩ = some (.int .i64 0) := (blk_cell BK298.out 2).trans rfl
                    have hcz32_3 : w9.cell? ⟨gb298, 3, none⟩ = some (.int .i64 0) := (blk_cell BK298.out 3).trans rfl
                    have hcz32_4 : w9.cell? ⟨gb298, 4, none⟩ = some (.int .i64 0) := (blk_cell BK298.out 4).trans rfl
                    have hcz32_5 : w9.cell? ⟨gb298, 5, none⟩ = some (.string (⟨#[]⟩ : ByteArray)) := (blk_cell BK298.out 5).trans rfl
                    have hfz32_0 := blk_frozen BK298.out 0
                    have hfz32_1 := blk_frozen BK298.out 1
                    have hfz32_2 := blk_frozen BK298.out 2
                    have hfz32_3 := blk_frozen BK298.out 3
                    have hfz32_4 := blk_frozen BK298.out 4
                    have hfz32_5 := blk_frozen BK298.out 5
                    go_wp2
                    go_meet
                    case rel => exact ⟨_, (167837696), (167903232), (1), (0), (wrap64 (-(wrap64 (1 + (Go.bits .and .i64 a1 1023))))), ((⟨#[]⟩ : ByteArray)), H', ⟨by first | omega | exact Nat.le_refl _⟩, ⟨by (with_reducible repeat (first | refine blk_drewN ?_ _ | refine blk_drew ?_ | refine blk_alloc ?_ _)); refine blk_far ?_ NB297_298.out _; (with_reducible repeat (first | refine blk_drewN ?_ _ | refine blk_drew ?_ | refine blk_alloc ?_ _)); refine blk_far ?_ NB297_298.out _; (with_reducible repeat (first | refine blk_drewN ?_ _ | refine blk_drew ?_ | refine blk_alloc ?_ _)); refine blk_far ?_ NB297_298.out _; (with_reducible repeat (first | refine blk_drewN ?_ _ | refine blk_drew ?_ | refine blk_alloc ?_ _)); refine blk_far ?_ NB297_298.out _; (with_reducible repeat (first | refine blk_drewN ?_ _ | refine blk_drew ?_ | refine blk_alloc ?_ _)); refine blk_far ?_ NB297_298.out _; (with_reducible repeat (first | refine blk_drewN ?_ _ | refine blk_drew ?_ | refine blk_alloc ?_ _)); refine blk_far ?_ NB297_298.out _; (with_reducible repeat (first | refine blk_drewN ?_ _ | refine blk_drew ?_ | refine blk_alloc ?_ _)); refine blk_far ?_ NB297_298.out _; (with_reducible repeat (first | refine blk_drewN ?_ _ | refine blk_drew ?_ | refine blk_alloc ?_ _)); exact BK297.out⟩, ⟨by (with_reducible repeat (first | refine blk_drewN ?_ _ | refine blk_drew ?_ | refine blk_alloc ?_ _)); refine blk_put (cs := #[.int .i64 167837696, .int .i64 167903232, .int .i64 1, .int .i64 0, .int .i64 0, .string (⟨#[]⟩ : ByteArray)]) ?_ 4 _ (by first | rfl | (simp [*]; done)); (with_reducible repeat (first | refine blk_drewN ?_ _ | refine blk_drew ?_ | refine blk_alloc ?_ _)); refine blk_put (cs := #[.int .i64 167837696, .int .i64 167903232, .int .i64 1, .int .i64 0, .int .i64 0, .string (⟨#[]⟩ : ByteArray)]) ?_ 5 _ (by first | rfl | (simp [*]; done)); (with_reducible repeat (first | refine blk_drewN ?_ _ | refine blk_drew ?_ | refine blk_alloc ?_ _)); refine blk_put (cs := #[.int .i64 167837696, .int .i64 167903232, .int .i64 1, .int .i64 0, .int .i64 0, .string (⟨#[]⟩ : ByteArray)]) ?_ 4 _ (by first | rfl | (simp [*]; done)); (with_reducible repeat (first | refine blk_drewN ?_ _ | refine blk_drew ?_ | refine blk_alloc ?_ _)); refine blk_put (cs := #[.int .i64 167837696, .int .i64 167903232, .int .i64 1, .int .i64 0, .int .i64 0, .string (⟨#[]⟩ : ByteArray)]) ?_ 3 _ (by first | rfl | (simp [*]; done)); (with_reducible repeat (first | refine blk_drewN ?_ _ | refine blk_drew ?_ | refine blk_alloc ?_ _)); refine blk_put (cs := #[.int .i64 167837696, .int .i64 167903232, .int .i64 0, .int .i64 0, .int .i64 0, .string (⟨#[]⟩ : ByteArray)]) ?_ 2 _ (by first | rfl | (simp [*]; done)); (with_reducible repeat (first | refine blk_drewN ?_ _ | refine blk_drew ?_ | refine blk_alloc ?_ _)); refine blk_put (cs := #[.int .i64 167837696, .int .i64 0, .int .i64 0, .int .i64 0, .int .i64 0, .string (⟨#[]⟩ : ByteArray)]) ?_ 1 _ (by first | rfl | (simp [*]; done)); (with_reducible repeat (first | refine blk_drewN ?_ _ | refine blk_drew ?_ | refine blk_alloc ?_ _)); refine blk_put (cs := #[.int .i64 0, .int .i64 0, .int .i64 0, .int .i64 0, .int .i64 0, .string (⟨#[]⟩ : ByteArray)]) ?_ 0 _ (by first | rfl | (simp [*]; done)); (with_reducible repeat (first | refine blk_drewN ?_ _ | refine blk_drew ?_ | refine blk_alloc ?_ _)); exact BK298.out⟩, ⟨by repeat (first | (with_reducible first | exact HB.out | apply below_alloc | apply pw_below_drewN | apply below_drew1 | refine below_set ?_ GE297.out | refine below_set ?_ GE298.out) | exact HB.out)⟩⟩
                  · rw [if_neg c30] at H
                    have c30b0 : ((Int.tmod (IntKind.u64.wrap (a0)) 10) == 6) = false := beq_eq_false_iff_ne.mpr c30
                    have c30b1 : ((Int.tmod (IntKind.u64.wrap (a0)) 10) != 6) = true := bne_iff_ne.mpr c30
                    by_cases c33 : (Int.tmod (IntKind.u64.wrap (a0)) 10) = 7
                    · rw [if_pos c33] at H
                      have c33b0 : ((Int.tmod (IntKind.u64.wrap (a0)) 10) == 7) = true := beq_iff_eq.mpr c33
                      have c33b1 : ((Int.tmod (IntKind.u64.wrap (a0)) 10) != 7) = false := bne_eq_false_iff_eq.mpr c33
                      clear c33
                      have H' := Aside0.mk H
                      clear H
                      have hnb34 := NB298_297.out
                      have hnc34 := NB297_298.out
                      have hcz35_0 : w9.cell? ⟨gb298, 0, none⟩ = some (.int .i64 0) := (blk_cell BK298.out 0).trans rfl
                      have hcz35_1 : w9.cell? ⟨gb298, 1, none⟩ = some (.int .i64 0) := (blk_cell BK298.out 1).trans rfl
                      have hcz35_2 : w9.cell? ⟨gb298, 2, none⟩ = some (.int .i64 0) := (blk_cell BK298.out 2).trans rfl
                      have hcz35_3 : w9.cell? ⟨gb298, 3, none⟩ = some (.int .i64 0) := (blk_cell BK298.out 3).trans rfl
                      have hcz35_4 : w9.cell? ⟨gb298, 4, none⟩ = some (.int .i64 0) := (blk_cell BK298.out 4).trans rfl
                      have hcz35_5 : w9.cell? ⟨gb298, 5, none⟩ = some (.string (⟨#[]⟩ : ByteArray)) := (blk_cell BK298.out 5).trans rfl
                      have hfz35_0 := blk_frozen BK298.out 0
                      have hfz35_1 := blk_frozen BK298.out 1
                      have hfz35_2 := blk_frozen BK298.out 2
                      have hfz35_3 := blk_frozen BK298.out 3
                      have hfz35_4 := blk_frozen BK298.out 4
                      have hfz35_5 := blk_frozen BK298.out 5
                      go_wp2
                      go_meet
                      case rel => exact ⟨_, (167837696), (167903232), (1), (0), (wrap64 (255 + (wrap64 (1 + (Go.bits .and .i64 a1 1023))))), ((⟨#[]⟩ : ByteArray)), H', ⟨by first | omega | exact Nat.le_refl _⟩, ⟨by (with_reducible repeat (first | refine blk_drewN ?_ _ | refine blk_drew ?_ | refine blk_alloc ?_ _)); refine blk_far ?_ NB297_298.out _; (with_reducible repeat (first | refine blk_drewN ?_ _ | refine blk_drew ?_ | refine blk_alloc ?_ _)); refine blk_far ?_ NB297_298.out _; (with_reducible repeat (first | refine blk_drewN ?_ _ | refine blk_drew ?_ | refine blk_alloc ?_ _)); refine blk_far ?_ NB297_298.out _; (with_reducible repeat (first | refine blk_drewN ?_ _ | refine blk_drew ?_ | refine blk_alloc ?_ _)); refine blk_far ?_ NB297_298.out _; (with_reducible repeat (first | refine blk_drewN ?_ _ | refine blk_drew ?_ | refine blk_alloc ?_ _)); refine blk_far ?_ NB297_298.out _; (with_reducible repeat (first | refine blk_drewN ?_ _ | refine blk_drew ?_ | refine blk_alloc ?_ _)); refine blk_far ?_ NB297_298.out _; (with_reducible repeat (first | refine blk_drewN ?_ _ | refine blk_drew ?_ | refine blk_alloc ?_ _)); refine blk_far ?_ NB297_298.out _; (with_reducible repeat (first | refine blk_drewN ?_ _ | refine blk_drew ?_ | refine blk_alloc ?_ _)); exact BK297.out⟩, ⟨by (with_reducible repeat (first | refine blk_drewN ?_ _ | refine blk_drew ?_ | refine blk_alloc ?_ _)); refine blk_put (cs := #[.int .i64 167837696, .int .i64 167903232, .int .i64 1, .int .i64 0, .int .i64 0, .string (⟨#[]⟩ : ByteArray)]) ?_ 4 _ (by first | rfl | (simp [*]; done)); (with_reducible repeat (first | refine blk_drewN ?_ _ | refine blk_drew ?_ | refine blk_alloc ?_ _)); refine blk_put (cs := #[.int .i64 167837696, .int .i64 167903232, .int .i64 1, .int .i64 0, .int .i64 0, .string (⟨#[]⟩ : ByteArray)]) ?_ 5 _ (by first | rfl | (simp [*]; done)); (with_reducible repeat (first | refine blk_drewN ?_ _ | refine blk_drew ?_ | refine blk_alloc ?_ _)); refine blk_put (cs := #[.int .i64 167837696, .int .i64 167903232, .int .i64 1, .int .i64 0, .int .i64 0, .string (⟨#[]⟩ : ByteArray)]) ?_ 4 _ (by first | rfl | (simp [*]; done)); (with_reducible repeat (first | refine blk_drewN ?_ _ | refine blk_drew ?_ | refine blk_alloc ?_ _)); refine blk_put (cs := #[.int .i64 167837696, .int .i64 167903232, .int .i64 1, .int .i64 0, .int .i64 0, .string (⟨#[]⟩ : ByteArray)]) ?_ 3 _ (by first | rfl | (simp [*]; done)); (with_reducible repeat (first | refine blk_drewN ?_ _ | refine blk_drew ?_ | refine blk_alloc ?_ _)); refine blk_put (cs := #[.int .i64 167837696, .int .i64 167903232, .int .i64 0, .int .i64 0, .int .i64 0, .string (⟨#[]⟩ : ByteArray)]) ?_ 2 _ (by first | rfl | (simp [*]; done)); (with_reducible repeat (first | refine blk_drewN ?_ _ | refine blk_drew ?_ | refine blk_alloc ?_ _)); refine blk_put (cs := #[.int .i64 167837696, .int .i64 0, .int .i64 0, .int .i64 0, .int .i64 0, .string (⟨#[]⟩ : ByteArray)]) ?_ 1 _ (by first | rfl | (simp [*]; done)); (with_reducible repeat (first | refine blk_drewN ?_ _ | refine blk_drew ?_ | refine blk_alloc ?_ _)); refine blk_put (cs := #[.int .i64 0, .int .i64 0, .int .i64 0, .int .i64 0, .int .i64 0, .string (⟨#[]⟩ : ByteArray)]) ?_ 0 _ (by first | rfl | (simp [*]; done)); (with_reducible repeat (first | refine blk_drewN ?_ _ | refine blk_drew ?_ | refine blk_alloc ?_ _)); exact BK298.out⟩, ⟨by repeat (first | (with_reducible first | exact HB.out | apply below_alloc | apply pw_below_drewN | apply below_drew1 | refine below_set ?_ GE297.out | refine below_set ?_ GE298.out) | exact HB.out)⟩⟩
                    · rw [if_neg c33] at H
                      have c33b0 : ((Int.tmod (IntKind.u64.wrap (a0)) 10) == 7) = false := beq_eq_false_iff_ne.mpr c33
                      have c33b1 : ((Int.tmod (IntKind.u64.wrap (a0)) 10) != 7) = true := bne_iff_ne.mpr c33
                      by_cases c36 : (Int.tmod (IntKind.u64.wrap (a0)) 10) = 8
                      · rw [if_pos c36] at H
                        have c36b0 : ((Int.tmod (IntKind.u64.wrap (a0)) 10) == 8) = true := beq_iff_eq.mpr c36
                        have c36b1 : ((Int.tmod (IntKind.u64.wrap (a0)) 10) != 8) = false := bne_eq_false_iff_eq.mpr c36
                        clear c36
                        obtain ⟨ji37, hji37⟩ : ∃ j_ : Int, (wrap64 (512 + (wrap64 (1 + (Go.bits .and .i64 a1 1023))))) = j_ := ⟨_, rfl⟩
                        replace H : (if 0 ≤ (ji37) then (if (ji37 : Int).toNat ≤ 281474976710656 then (wharfagelaw6_GueForms.j0 k 167837696 167903232 1 0 0 (⟨#[]⟩ : ByteArray) 167837696 167903232 1 0 0 (strOfNums (List.replicate (ji37 : Int).toNat 0))) else (none)) else (none)) = some r := by first | (rw [hji37] at H; exact H) | (simp only [hji37] at H ⊢; exact H)
                        have hji37w : (IntKind.i64.wrap (512 + (wrap64 (1 + (Go.bits .and .i64 a1 1023))))) = ji37 := (i64_w _).trans hji37
                        by_cases c38 : 0 ≤ (ji37)
                        · rw [if_pos c38] at H
                          have c38b0 := eq_true c38
                          have c38b1 : decide (0 ≤ (ji37)) = true := decide_eq_true c38
                          clear c38
                          by_cases c39 : (ji37 : Int).toNat ≤ 281474976710656
                          · rw [if_pos c39] at H
                            have c39b0 := eq_true c39
                            have c39b1 : decide ((ji37 : Int).toNat ≤ 281474976710656) = true := decide_eq_true c39
                            clear c39
                            obtain ⟨y299, hy299⟩ : ∃ y_ : List Int, y_ = (List.replicate (ji37 : Int).toNat 0) := ⟨_, rfl⟩
                            replace H : (wharfagelaw6_GueForms.j0 k 167837696 167903232 1 0 0 (⟨#[]⟩ : ByteArray) 167837696 167903232 1 0 0 (strOfNums y299)) = some r := by first | (rw [hy299]; with_reducible exact H) | (have H2_ := (Option.bind_some _ _).symm.trans H; rw [hy299]; with_reducible exact H2_) | (have H2_ := (Option.bind_some _ _).symm.trans H; with_reducible exact H2_) | with_reducible exact H | (rw [hy299]; exact H) | exact H
                            have Ny299 := Aside0.mk hy299
                            clear hy299
                            have H' := Aside0.mk H
                            clear H
                            go_wp2_with (first | ((with_reducible refine gate_dst (N := 65) rfl ?_); (try (refine gate_guard (by rfl) ?_; dsimp only)); refine Kd.R_make (Kd.int .u8) _ 5 rfl (N := 65) rfl 37 _ _ rfl ji37 rfl rfl Try.underlying37 (.int .u8 0) 1 info5 rfl (by decide) (by omega) 0 (ok := fun _ => True) (okp := fun _ => True) rfl (fun _ hk => hk) trivial (of_decide_eq_true (by first | (with_reducible assumption) | assumption)) (Nat.le_trans (Nat.mul_le_mul_right _ (of_decide_eq_true (by first | (with_reducible assumption) | assumption) : ji37.toNat ≤ 281474976710656)) (by omega)) (Below.refl _ _) (Nat.le_refl _) ?_; intro v300 w40 ho41 hb hg_ hnew_; clear hg_ hnew_; (first | rw [← Ny299.out] at ho41 | (simp only [Int.reduceToNat] at ho41; rw [← Ny299.out] at ho41)); have n0_ := Aside0.mk (Kd.R_lower ho41 (below_size (by repeat (first | (with_reducible first | exact HB.out | apply below_alloc | apply pw_below_drewN | apply below_drew1 | refine below_set ?_ GE297.out | refine below_set ?_ GE298.out) | exact HB.out)))); have n1_ := Aside0.mk (blk_below (g := gb297) (o := .cells #[.int .i64 167837696, .int .i64 167903232, .int .i64 1, .int .i64 0, .int .i64 0, .string (⟨#[]⟩ : ByteArray)] 23 (0, 0)) (by (with_reducible repeat (first | refine blk_drewN ?_ _ | refine blk_drew ?_ | refine blk_alloc ?_ _)); refine blk_far ?_ NB297_298.out _; (with_reducible repeat (first | refine blk_drewN ?_ _ | refine blk_drew ?_ | refine blk_alloc ?_ _)); refine blk_far ?_ NB297_298.out _; (with_reducible repeat (first | refine blk_drewN ?_ _ | refine blk_drew ?_ | refine blk_alloc ?_ _)); refine blk_far ?_ NB297_298.out _; (with_reducible repeat (first | refine blk_drewN ?_ _ | refine blk_drew ?_ | refine blk_alloc ?_ _)); refine blk_far ?_ NB297_298.out _; (with_reducible repeat (first | refine blk_drewN ?_ _ | refine blk_drew ?_ | refine blk_alloc ?_ _)); refine blk_far ?_ NB297_298.out _; (with_reducible repeat (first | refine blk_drewN ?_ _ | refine blk_drew ?_ | refine blk_alloc ?_ _)); refine blk_far ?_ NB297_298.out _; (with_reducible repeat (first | refine blk_drewN ?_ _ | refine blk_drew ?_ | refine blk_alloc ?_ _)); exact BK297.out) hb); have n2_ := Aside0.mk (blk_below (g := gb298) (o := .cells #[.int .i64 167837696, .int .i64 167903232, .int .i64 1, .int .i64 0, .int .i64 0, .string (⟨#[]⟩ : ByteArray)] 23 (0, 0)) (by (with_reducible repeat (first | refine blk_drewN ?_ _ | refine blk_drew ?_ | refine blk_alloc ?_ _)); refine blk_put (cs := #[.int .i64 167837696, .int .i64 167903232, .int .i64 1, .int .i64 0, .int .i64 0, .string (⟨#[]⟩ : ByteArray)]) ?_ 5 _ (by first | rfl | (simp [*]; done)); (with_reducible repeat (first | refine blk_drewN ?_ _ | refine blk_drew ?_ | refine blk_alloc ?_ _)); refine blk_put (cs := #[.int .i64 167837696, .int .i64 167903232, .int .i64 1, .int .i64 0, .int .i64 0, .string (⟨#[]⟩ : ByteArray)]) ?_ 4 _ (by first | rfl | (simp [*]; done)); (with_reducible repeat (first | refine blk_drewN ?_ _ | refine blk_drew ?_ | refine blk_alloc ?_ _)); refine blk_put (cs := #[.int .i64 167837696, .int .i64 167903232, .int .i64 1, .int .i64 0, .int .i64 0, .string (⟨#[]⟩ : ByteArray)]) ?_ 3 _ (by first | rfl | (simp [*]; done)); (with_reducible repeat (first | refine blk_drewN ?_ _ | refine blk_drew ?_ | refine blk_alloc ?_ _)); refine blk_put (cs := #[.int .i64 167837696, .int .i64 167903232, .int .i64 0, .int .i64 0, .int .i64 0, .string (⟨#[]⟩ : ByteArray)]) ?_ 2 _ (by first | rfl | (simp [*]; done)); (with_reducible repeat (first | refine blk_drewN ?_ _ | refine blk_drew ?_ | refine blk_alloc ?_ _)); refine blk_put (cs := #[.int .i64 167837696, .int .i64 0, .int .i64 0, .int .i64 0, .int .i64 0, .string (⟨#[]⟩ : ByteArray)]) ?_ 1 _ (by first | rfl | (simp [*]; done)); (with_reducible repeat (first | refine blk_drewN ?_ _ | refine blk_drew ?_ | refine blk_alloc ?_ _)); refine blk_put (cs := #[.int .i64 0, .int .i64 0, .int .i64 0, .int .i64 0, .int .i64 0, .string (⟨#[]⟩ : ByteArray)]) ?_ 0 _ (by first | rfl | (simp [*]; done)); (with_reducible repeat (first | refine blk_drewN ?_ _ | refine blk_drew ?_ | refine blk_alloc ?_ _)); exact BK298.out) hb); have n3_ := Aside0.mk (below_step (by repeat (first | (with_reducible first | exact HB.out | apply below_alloc | apply pw_below_drewN | apply below_drew1 | refine below_set ?_ GE297.out | refine below_set ?_ GE298.out) | exact HB.out)) hb); clear BK297; clear BK298; clear HB; have HO301 := n0_; have BK297 := n1_; have BK298 := n2_; have HB := n3_; clear n0_ n1_ n2_ n3_; clear hb ho41; have hcv42 := own_string (P := Try.prog) Try.underlying37 Try.underlying5 Try.underlying9 (Kd.own_of_R HO301.out); have hnb43 := NB298_297.out; have hnc43 := NB297_298.out; have hcz44_0 : w40.cell? ⟨gb298, 0, none⟩ = some (.int .i64 167837696) := (blk_cell BK298.out 0).trans rfl; have hcz44_1 : w40.cell? ⟨gb298, 1, none⟩ = some (.int .i64 167903232) := (blk_cell BK298.out 1).trans rfl; have hcz44_2 : w40.cell? ⟨gb298, 2, none⟩ = some (.int .i64 1) := (blk_cell BK298.out 2).trans rfl; have hcz44_3 : w40.cell? ⟨gb298, 3, none⟩ = some (.int .i64 0) := (blk_cell BK298.out 3).trans rfl; have hcz44_4 : w40.cell? ⟨gb298, 4, none⟩ = some (.int .i64 0) := (blk_cell BK298.out 4).trans rfl; have hcz44_5 : w40.cell? ⟨gb298, 5, none⟩ = some (.string (⟨#[]⟩ : ByteArray)) := (blk_cell BK298.out 5).trans rfl; have hfz44_0 := blk_frozen BK298.out 0; have hfz44_1 := blk_frozen BK298.out 1; have hfz44_2 := blk_frozen BK298.out 2; have hfz44_3 := blk_frozen BK298.out 3; have hfz44_4 := blk_frozen BK298.out 4; have hfz44_5 := blk_frozen BK298.out 5))
                            go_meet
                            case rel => exact ⟨_, (167837696), (167903232), (1), (0), (0), (strOfNums y299), H', ⟨by first | omega | exact Nat.le_refl _⟩, ⟨by (with_reducible repeat (first | refine blk_drewN ?_ _ | refine blk_drew ?_ | refine blk_alloc ?_ _)); refine blk_far ?_ NB297_298.out _; (with_reducible repeat (first | refine blk_drewN ?_ _ | refine blk_drew ?_ | refine blk_alloc ?_ _)); exact BK297.out⟩, ⟨by (with_reducible repeat (first | refine blk_drewN ?_ _ | refine blk_drew ?_ | refine blk_alloc ?_ _)); refine blk_put (cs := #[.int .i64 167837696, .int .i64 167903232, .int .i64 1, .int .i64 0, .int .i64 0, .string (⟨#[]⟩ : ByteArray)]) ?_ 5 _ (by first | rfl | (simp [*]; done)); (with_reducible repeat (first | refine blk_drewN ?_ _ | refine blk_drew ?_ | refine blk_alloc ?_ _)); exact BK298.out⟩, ⟨by repeat (first | (with_reducible first | exact HB.out | apply below_alloc | apply pw_below_drewN | apply below_drew1 | refine below_set ?_ GE297.out | refine below_set ?_ GE298.out) | exact HB.out)⟩⟩
                          · rw [if_neg c39] at H
                            exact absurd H (by simp)
                        · rw [if_neg c38] at H
                          exact absurd H (by simp)
                      · rw [if_neg c36] at H
                        have c36b0 : ((Int.tmod (IntKind.u64.wrap (a0)) 10) == 8) = false := beq_eq_false_iff_ne.mpr c36
                        have c36b1 : ((Int.tmod (IntKind.u64.wrap (a0)) 10) != 8) = true := bne_iff_ne.mpr c36
                        have H' := Aside0.mk H
                        clear H
                        have hnb45 := NB298_297.out
                        have hnc45 := NB297_298.out
                        have hcz46_0 : w9.cell? ⟨gb298, 0, none⟩ = some (.int .i64 0) := (blk_cell BK298.out 0).trans rfl
                        have hcz46_1 : w9.cell? ⟨gb298, 1, none⟩ = some (.int .i64 0) := (blk_cell BK298.out 1).trans rfl
                        have hcz46_2 : w9.cell? ⟨gb298, 2, none⟩ = some (.int .i64 0) := (blk_cell BK298.out 2).trans rfl
                        have hcz46_3 : w9.cell? ⟨gb298, 3, none⟩ = some (.int .i64 0) := (blk_cell BK298.out 3).trans rfl
                        have hcz46_4 : w9.cell? ⟨gb298, 4, none⟩ = some (.int .i64 0) := (blk_cell BK298.out 4).trans rfl
                        have hcz46_5 : w9.cell? ⟨gb298, 5, none⟩ = some (.string (⟨#[]⟩ : ByteArray)) := (blk_cell BK298.out 5).trans rfl
                        have hfz46_0 := blk_frozen BK298.out 0
                        have hfz46_1 := blk_frozen BK298.out 1
                        have hfz46_2 := blk_frozen BK298.out 2
                        have hfz46_3 := blk_frozen BK298.out 3
                        have hfz46_4 := blk_frozen BK298.out 4
                        have hfz46_5 := blk_frozen BK298.out 5
                        go_wp2
                        go_meet
                        case rel => exact ⟨_, (167837698), (167903232), (1), (0), (0), ((⟨#[]⟩ : ByteArray)), H', ⟨by first | omega | exact Nat.le_refl _⟩, ⟨by (with_reducible repeat (first | refine blk_drewN ?_ _ | refine blk_drew ?_ | refine blk_alloc ?_ _)); refine blk_far ?_ NB297_298.out _; (with_reducible repeat (first | refine blk_drewN ?_ _ | refine blk_drew ?_ | refine blk_alloc ?_ _)); refine blk_far ?_ NB297_298.out _; (with_reducible repeat (first | refine blk_drewN ?_ _ | refine blk_drew ?_ | refine blk_alloc ?_ _)); refine blk_far ?_ NB297_298.out _; (with_reducible repeat (first | refine blk_drewN ?_ _ | refine blk_drew ?_ | refine blk_alloc ?_ _)); refine blk_far ?_ NB297_298.out _; (with_reducible repeat (first | refine blk_drewN ?_ _ | refine blk_drew ?_ | refine blk_alloc ?_ _)); refine blk_far ?_ NB297_298.out _; (with_reducible repeat (first | refine blk_drewN ?_ _ | refine blk_drew ?_ | refine blk_alloc ?_ _)); refine blk_far ?_ NB297_298.out _; (with_reducible repeat (first | refine blk_drewN ?_ _ | refine blk_drew ?_ | refine blk_alloc ?_ _)); refine blk_far ?_ NB297_298.out _; (with_reducible repeat (first | refine blk_drewN ?_ _ | refine blk_drew ?_ | refine blk_alloc ?_ _)); exact BK297.out⟩, ⟨by (with_reducible repeat (first | refine blk_drewN ?_ _ | refine blk_drew ?_ | refine blk_alloc ?_ _)); refine blk_put (cs := #[.int .i64 167837696, .int .i64 167903232, .int .i64 1, .int .i64 0, .int .i64 0, .string (⟨#[]⟩ : ByteArray)]) ?_ 0 _ (by first | rfl | (simp [*]; done)); (with_reducible repeat (first | refine blk_drewN ?_ _ | refine blk_drew ?_ | refine blk_alloc ?_ _)); refine blk_put (cs := #[.int .i64 167837696, .int .i64 167903232, .int .i64 1, .int .i64 0, .int .i64 0, .string (⟨#[]⟩ : ByteArray)]) ?_ 5 _ (by first | rfl | (simp [*]; done)); (with_reducible repeat (first | refine blk_drewN ?_ _ | refine blk_drew ?_ | refine blk_alloc ?_ _)); refine blk_put (cs := #[.int .i64 167837696, .int .i64 167903232, .int .i64 1, .int .i64 0, .int .i64 0, .string (⟨#[]⟩ : ByteArray)]) ?_ 4 _ (by first | rfl | (simp [*]; done)); (with_reducible repeat (first | refine blk_drewN ?_ _ | refine blk_drew ?_ | refine blk_alloc ?_ _)); refine blk_put (cs := #[.int .i64 167837696, .int .i64 167903232, .int .i64 1, .int .i64 0, .int .i64 0, .string (⟨#[]⟩ : ByteArray)]) ?_ 3 _ (by first | rfl | (simp [*]; done)); (with_reducible repeat (first | refine blk_drewN ?_ _ | refine blk_drew ?_ | refine blk_alloc ?_ _)); refine blk_put (cs := #[.int .i64 167837696, .int .i64 167903232, .int .i64 0, .int .i64 0, .int .i64 0, .string (⟨#[]⟩ : ByteArray)]) ?_ 2 _ (by first | rfl | (simp [*]; done)); (with_reducible repeat (first | refine blk_drewN ?_ _ | refine blk_drew ?_ | refine blk_alloc ?_ _)); refine blk_put (cs := #[.int .i64 167837696, .int .i64 0, .int .i64 0, .int .i64 0, .int .i64 0, .string (⟨#[]⟩ : ByteArray)]) ?_ 1 _ (by first | rfl | (simp [*]; done)); (with_reducible repeat (first | refine blk_drewN ?_ _ | refine blk_drew ?_ | refine blk_alloc ?_ _)); refine blk_put (cs := #[.int .i64 0, .int .i64 0, .int .i64 0, .int .i64 0, .int .i64 0, .string (⟨#[]⟩ : ByteArray)]) ?_ 0 _ (by first | rfl | (simp [*]; done)); (with_reducible repeat (first | refine blk_drewN ?_ _ | refine blk_drew ?_ | refine blk_alloc ?_ _)); exact BK298.out⟩, ⟨by repeat (first | (with_reducible first | exact HB.out | apply below_alloc | apply pw_below_drewN | apply below_drew1 | refine below_set ?_ GE297.out | refine below_set ?_ GE298.out) | exact HB.out)⟩⟩
    case rest =>
      clear HC5
      try clear c1
      try clear c2
      try clear p2
      try clear c3
      try clear c4
      try clear hcv4
      try clear c5
      try clear p6
      try clear c10
      try clear c12
      try clear c12b0
      try clear c12b1
      try clear c13
      try clear c15
      try clear c15b0
      try clear c15b1
      try clear c16
      try clear c18
      try clear c18b0
      try clear c18b1
      try clear c19
      try clear c21
      try clear c21b0
      try clear c21b1
      try clear c22
      try clear c24
      try clear c24b0
      try clear c24b1
      try clear c25
      try clear c27
      try clear c27b0
      try clear c27b1
      try clear c28
      try clear c30
      try clear c30b0
      try clear c30b1
      try clear c31
      try clear c33
      try clear c33b0
      try clear c33b1
      try clear c34
      try clear c36
      try clear c36b0
      try clear c36b1
      try clear c38
      try clear c38b0
      try clear c38b1
      try clear c39
      try clear c39b0
      try clear c39b1
      try clear hcv42
      try clear c43
      try clear c45
      try clear hcz11_0
      try clear hcz11_1
      try clear hcz11_2
      try clear hcz11_3
      try clear hcz11_4
      try clear hcz11_5
      try clear hcz14_0
      try clear hcz14_1
      try clear hcz14_2
      try clear hcz14_3
      try clear hcz14_4
      try clear hcz14_5
      try clear hcz17_0
      try clear hcz17_1
      try clear hcz17_2
      try clear hcz17_3
      try clear hcz17_4
      try clear hcz17_5
      try clear hcz20_0
      try clear hcz20_1
      try clear hcz20_2
      try clear hcz20_3
      try clear hcz20_4
      try clear hcz20_5
      try clear hcz23_0
      try clear hcz23_1
      try clear hcz23_2
      try clear hcz23_3
      try clear hcz23_4
      try clear hcz23_5
      try clear hcz26_0
      try clear hcz26_1
      try clear hcz26_2
      try clear hcz26_3
      try clear hcz26_4
      try clear hcz26_5
      try clear hcz29_0
      try clear hcz29_1
      try clear hcz29_2
      try clear hcz29_3
      try clear hcz29_4
      try clear hcz29_5
      try clear hcz32_0
      try clear hcz32_1
      try clear hcz32_2
      try clear hcz32_3
      try clear hcz32_4
      try clear hcz32_5
      try clear hcz35_0
      try clear hcz35_1
      try clear hcz35_2
      try clear hcz35_3
      try clear hcz35_4
      try clear hcz35_5
      try clear hcz44_0
      try clear hcz44_1
      try clear hcz44_2
      try clear hcz44_3
      try clear hcz44_4
      try clear hcz44_5
      try clear hcz46_0
      try clear hcz46_1
      try clear hcz46_2
      try clear hcz46_3
      try clear hcz46_4
      try clear hcz46_5
      try clear hcz8_0
      try clear hcz8_1
      try clear hcz8_2
      try clear hcz8_3
      try clear hcz8_4
      try clear hcz8_5
      try clear hfz11_0
      try clear hfz11_1
      try clear hfz11_2
      try clear hfz11_3
      try clear hfz11_4
      try clear hfz11_5
      try clear hfz14_0
      try clear hfz14_1
      try clear hfz14_2
      try clear hfz14_3
      try clear hfz14_4
      try clear hfz14_5
      try clear hfz17_0
      try clear hfz17_1
      try clear hfz17_2
      try clear hfz17_3
      try clear hfz17_4
      try clear hfz17_5
      try clear hfz20_0
      try clear hfz20_1
      try clear hfz20_2
      try clear hfz20_3
      try clear hfz20_4
      try clear hfz20_5
      try clear hfz23_0
      try clear hfz23_1
      try clear hfz23_2
      try clear hfz23_3
      try clear hfz23_4
      try clear hfz23_5
      try clear hfz26_0
      try clear hfz26_1
      try clear hfz26_2
      try clear hfz26_3
      try clear hfz26_4
      try clear hfz26_5
      try clear hfz29_0
      try clear hfz29_1
      try clear hfz29_2
      try clear hfz29_3
      try clear hfz29_4
      try clear hfz29_5
      try clear hfz32_0
      try clear hfz32_1
      try clear hfz32_2
      try clear hfz32_3
      try clear hfz32_4
      try clear hfz32_5
      try clear hfz35_0
      try clear hfz35_1
      try clear hfz35_2
      try clear hfz35_3
      try clear hfz35_4
      try clear hfz35_5
      try clear hfz44_0
      try clear hfz44_1
      try clear hfz44_2
      try clear hfz44_3
      try clear hfz44_4
      try clear hfz44_5
      try clear hfz46_0
      try clear hfz46_1
      try clear hfz46_2
      try clear hfz46_3
      try clear hfz46_4
      try clear hfz46_5
      try clear hfz8_0
      try clear hfz8_1
      try clear hfz8_2
      try clear hfz8_3
      try clear hfz8_4
      try clear hfz8_5
      obtain ⟨kq, x299000_4, x299001_4, x299002_4, x299003_4, x299004_4, x299005_4, HA, HJ4, BK297, BK298, HB⟩ := hcut
      cases kq with
      | zero => exact absurd HA.out (by simp [wharfagelaw6_GueForms.j0])
      | succ kj4 =>
        have H := HA.out
        clear HA
        simp only [wharfagelaw6_GueForms.j0] at H
        replace H := Option.bind_eq_some_iff.mp H
        obtain ⟨⟨t302, t303⟩, A470, H⟩ := H
        replace H : (if 324 ≤ 281474976710656 then ((some (List.replicate 324 0 : List Int)).bind fun y304 => ((gue_Push.f kj4 167837696 167903232 1 0 0 (strOfNums y304)).bind fun bt307 => (if (strOfNums y304).size + 1 ≤ 9223372036854775807 then ((gue_Push.f kj4 167837696 167903232 1 0 0 ((strOfNums y304) ++ (⟨#[120]⟩ : ByteArray))).bind fun bt309 => ((gue_May.f x299000_4 x299001_4 x299002_4 x299003_4 x299004_4 x299005_4).bind fun t311 => (if t311 = true then (none) else (if t302.toList = ([] : List UInt8) then ((wharfagelaw0_Num.f t303).bind fun t312 => (if t312 = 600 then (if (bt307.1.size : Int) = 360 then ((wharfagelaw0_Num.f bt307.2).bind fun t313 => (if t313 = 0 then ((wharfagelaw0_Num.f bt309.2).bind fun t314 => (some (t314 == 601))) else (none))) else (none)) else (none))) else (none))))) else (none)))) else (none)) = some r := H
        have A47 := Aside0.mk A470
        clear A470
        by_cases c48 : 324 ≤ 281474976710656
        · rw [if_pos c48] at H
          have c48b0 := eq_true c48
          have c48b1 : decide (324 ≤ 281474976710656) = true := decide_eq_true c48
          clear c48
          obtain ⟨y304, hy304⟩ : ∃ y_ : List Int, y_ = (List.replicate 324 0) := ⟨_, rfl⟩
          replace H : ((gue_Push.f kj4 167837696 167903232 1 0 0 (strOfNums y304)).bind fun bt307 => (if (strOfNums y304).size + 1 ≤ 9223372036854775807 then ((gue_Push.f kj4 167837696 167903232 1 0 0 ((strOfNums y304) ++ (⟨#[120]⟩ : ByteArray))).bind fun bt309 => ((gue_May.f x299000_4 x299001_4 x299002_4 x299003_4 x299004_4 x299005_4).bind fun t311 => (if t311 = true then (none) else (if t302.toList = ([] : List UInt8) then ((wharfagelaw0_Num.f t303).bind fun t312 => (if t312 = 600 then (if (bt307.1.size : Int) = 360 then ((wharfagelaw0_Num.f bt307.2).bind fun t313 => (if t313 = 0 then ((wharfagelaw0_Num.f bt309.2).bind fun t314 => (some (t314 == 601))) else (none))) else (none)) else (none))) else (none))))) else (none))) = some r := by first | (rw [hy304]; with_reducible exact H) | (have H2_ := (Option.bind_some _ _).symm.trans H; rw [hy304]; with_reducible exact H2_) | (have H2_ := (Option.bind_some _ _).symm.trans H; with_reducible exact H2_) | with_reducible exact H | (rw [hy304]; exact H) | exact H
          have Ny304 := Aside0.mk hy304
          clear hy304
          replace H := Option.bind_eq_some_iff.mp H
          obtain ⟨⟨t307, t308⟩, A490, H⟩ := H
          replace H : (if (strOfNums y304).size + 1 ≤ 9223372036854775807 then ((gue_Push.f kj4 167837696 167903232 1 0 0 ((strOfNums y304) ++ (⟨#[120]⟩ : ByteArray))).bind fun bt309 => ((gue_May.f x299000_4 x299001_4 x299002_4 x299003_4 x299004_4 x299005_4).bind fun t311 => (if t311 = true then (none) else (if t302.toList = ([] : List UInt8) then ((wharfagelaw0_Num.f t303).bind fun t312 => (if t312 = 600 then (if (t307.size : Int) = 360 then ((wharfagelaw0_Num.f t308).bind fun t313 => (if t313 = 0 then ((wharfagelaw0_Num.f bt309.2).bind fun t314 => (some (t314 == 601))) else (none))) else (none)) else (none))) else (none))))) else (none)) = some r := H
          have A49 := Aside0.mk A490
          clear A490
          by_cases c50 : (strOfNums y304).size + 1 ≤ 9223372036854775807
          · rw [if_pos c50] at H
            have c50b0 := eq_true c50
            have c50b1 : decide ((strOfNums y304).size + 1 ≤ 9223372036854775807) = true := decide_eq_true c50
            try have c50b2 : (9223372036854775807 < (strOfNums y304).size + 1) = False := eq_false (Nat.not_lt.2 c50)
            replace H := Option.bind_eq_some_iff.mp H
            obtain ⟨⟨t309, t310⟩, A510, H⟩ := H
            replace H : ((gue_May.f x299000_4 x299001_4 x299002_4 x299003_4 x299004_4 x299005_4).bind fun t311 => (if t311 = true then (none) else (if t302.toList = ([] : List UInt8) then ((wharfagelaw0_Num.f t303).bind fun t312 => (if t312 = 600 then (if (t307.size : Int) = 360 then ((wharfagelaw0_Num.f t308).bind fun t313 => (if t313 = 0 then ((wharfagelaw0_Num.f t310).bind fun t314 => (some (t314 == 601))) else (none))) else (none)) else (none))) else (none)))) = some r := H
            have A51 := Aside0.mk A510
            clear A510
            replace H := Option.bind_eq_some_iff.mp H
            obtain ⟨t311, A520, H⟩ := H
            replace H : (if t311 = true then (none) else (if t302.toList = ([] : List UInt8) then ((wharfagelaw0_Num.f t303).bind fun t312 => (if t312 = 600 then (if (t307.size : Int) = 360 then ((wharfagelaw0_Num.f t308).bind fun t313 => (if t313 = 0 then ((wharfagelaw0_Num.f t310).bind fun t314 => (some (t314 == 601))) else (none))) else (none)) else (none))) else (none))) = some r := H
            have A52 := Aside0.mk A520
            clear A520
            by_cases c53 : t311 = true
            · subst c53
              have H1 : (none) = some r := by rw [if_pos rfl] at H; exact H
              clear H
              have H := H1
              clear H1
              exact absurd H (by simp)
            · replace c53 := Bool.eq_false_iff.mpr c53
              subst c53
              have H1 : (if t302.toList = ([] : List UInt8) then ((wharfagelaw0_Num.f t303).bind fun t312 => (if t312 = 600 then (if (t307.size : Int) = 360 then ((wharfagelaw0_Num.f t308).bind fun t313 => (if t313 = 0 then ((wharfagelaw0_Num.f t310).bind fun t314 => (some (t314 == 601))) else (none))) else (none)) else (none))) else (none)) = some r := by rw [if_neg (show ¬ (false = true) by decide)] at H; exact H
              clear H
              have H := H1
              clear H1
              by_cases c54 : t302.toList = ([] : List UInt8)
              · rw [if_pos c54] at H
                have c54b0 : (t302.toList == ([] : List UInt8)) = true := beq_iff_eq.mpr c54
                have c54b1 : (t302.toList != ([] : List UInt8)) = false := bne_eq_false_iff_eq.mpr c54
                clear c54
                replace H := Option.bind_eq_some_iff.mp H
                obtain ⟨t312, A550, H⟩ := H
                replace H : (if t312 = 600 then (if (t307.size : Int) = 360 then ((wharfagelaw0_Num.f t308).bind fun t313 => (if t313 = 0 then ((wharfagelaw0_Num.f t310).bind fun t314 => (some (t314 == 601))) else (none))) else (none)) else (none)) = some r := H
                have A55 := Aside0.mk A550
                clear A550
                by_cases c56 : t312 = 600
                · rw [if_pos c56] at H
                  have c56b0 : (t312 == 600) = true := beq_iff_eq.mpr c56
                  have c56b1 : (t312 != 600) = false := bne_eq_false_iff_eq.mpr c56
                  clear c56
                  by_cases c57 : (t307.size : Int) = 360
                  · rw [if_pos c57] at H
                    have c57b0 : ((t307.size : Int) == 360) = true := beq_iff_eq.mpr c57
                    have c57b1 : ((t307.size : Int) != 360) = false := bne_eq_false_iff_eq.mpr c57
                    clear c57
                    replace H := Option.bind_eq_some_iff.mp H
                    obtain ⟨t313, A580, H⟩ := H
                    replace H : (if t313 = 0 then ((wharfagelaw0_Num.f t310).bind fun t314 => (some (t314 == 601))) else (none)) = some r := H
                    have A58 := Aside0.mk A580
                    clear A580
                    by_cases c59 : t313 = 0
                    · rw [if_pos c59] at H
                      have c59b0 : (t313 == 0) = true := beq_iff_eq.mpr c59
                      have c59b1 : (t313 != 0) = false := bne_eq_false_iff_eq.mpr c59
                      clear c59
                      replace H := Option.bind_eq_some_iff.mp H
                      obtain ⟨t314, A600, H⟩ := H
                      replace H : (some (t314 == 601)) = some r := H
                      have A60 := Aside0.mk A600
                      clear A600
                      obtain rfl := Option.some.inj H
                      have hnb61 := NB298_297.out
                      have hnc61 := NB297_298.out
                      have hcz62_0 : wc.cell? ⟨gb298, 0, none⟩ = some (.int .i64 x299000_4) := (blk_cell BK298.out 0).trans rfl
                      have hcz62_1 : wc.cell? ⟨gb298, 1, none⟩ = some (.int .i64 x299001_4) := (blk_cell BK298.out 1).trans rfl
                      have hcz62_2 : wc.cell? ⟨gb298, 2, none⟩ = some (.int .i64 x299002_4) := (blk_cell BK298.out 2).trans rfl
                      have hcz62_3 : wc.cell? ⟨gb298, 3, none⟩ = some (.int .i64 x299003_4) := (blk_cell BK298.out 3).trans rfl
                      have hcz62_4 : wc.cell? ⟨gb298, 4, none⟩ = some (.int .i64 x299004_4) := (blk_cell BK298.out 4).trans rfl
                      have hcz62_5 : wc.cell? ⟨gb298, 5, none⟩ = some (.string x299005_4) := (blk_cell BK298.out 5).trans rfl
                      have hfz62_0 := blk_frozen BK298.out 0
                      have hfz62_1 := blk_frozen BK298.out 1
                      have hfz62_2 := blk_frozen BK298.out 2
                      have hfz62_3 := blk_frozen BK298.out 3
                      have hfz62_4 := blk_frozen BK298.out 4
                      have hfz62_5 := blk_frozen BK298.out 5
                      go_wp2_with (first | ((with_reducible refine gate_callee (f := 21) rfl ?_); refine goesL_ (some 70) rfl rfl Try.func21 (by kernel_rfl) rfl #[.agg #[.int .i64 x299000_4, .int .i64 x299001_4, .int .i64 x299002_4, .int .i64 x299003_4, .int .i64 x299004_4, .string x299005_4]] rfl (by (try simp only [List.map_toArray, List.map_cons, List.map_nil]); first | done | rfl | (simp only [List.length_drop, List.length_take]; rfl)) ?_; (with_reducible refine (gue_Push.calls kj4 x299000_4 x299001_4 x299002_4 x299003_4 x299004_4 x299005_4 t302 t303 _ A47.out).mono ?_); rintro e w63 ⟨rfl, hb⟩; refine ⟨_, rfl, ?_⟩; have n0_ := Aside0.mk (blk_below (g := gb297) (o := .cells #[.int .i64 167837696, .int .i64 167903232, .int .i64 1, .int .i64 0, .int .i64 0, .string (⟨#[]⟩ : ByteArray)] 23 (0, 0)) (by (with_reducible repeat (first | refine blk_drewN ?_ _ | refine blk_drew ?_ | refine blk_alloc ?_ _)); exact BK297.out) hb); have n1_ := Aside0.mk (blk_below (g := gb298) (o := .cells #[.int .i64 x299000_4, .int .i64 x299001_4, .int .i64 x299002_4, .int .i64 x299003_4, .int .i64 x299004_4, .string x299005_4] 23 (0, 0)) (by (with_reducible repeat (first | refine blk_drewN ?_ _ | refine blk_drew ?_ | refine blk_alloc ?_ _)); exact BK298.out) hb); have n2_ := Aside0.mk (below_step (by repeat (first | (with_reducible first | exact HB.out | apply below_alloc | apply pw_below_drewN | apply below_drew1 | refine below_set ?_ GE297.out | refine below_set ?_ GE298.out) | exact HB.out)) hb); clear BK297; clear BK298; clear HB; have BK297 := n0_; have BK298 := n1_; have HB := n2_; clear n0_ n1_ n2_; (try clear hb); (try clear hb2); (try clear hk); (try clear hi)) | ((with_reducible refine gate_dst (N := 73) rfl ?_); (try (refine gate_guard (by rfl) ?_; dsimp only)); refine Kd.R_make (Kd.int .u8) _ 5 rfl (N := 73) rfl 37 _ _ rfl 324 rfl rfl Try.underlying37 (.int .u8 0) 1 info5 rfl (by decide) (by omega) 0 (ok := fun _ => True) (okp := fun _ => True) rfl (fun _ hk => hk) trivial (by omega) (by omega) (Below.refl _ _) (Nat.le_refl _) ?_; intro v305 w64 ho65 hb hg_ hnew_; clear hg_ hnew_; (first | rw [← Ny304.out] at ho65 | (simp only [Int.reduceToNat] at ho65; rw [← Ny304.out] at ho65)); have n0_ := Aside0.mk (Kd.R_lower ho65 (below_size (by repeat (first | (with_reducible first | exact HB.out | apply below_alloc | apply pw_below_drewN | apply below_drew1 | refine below_set ?_ GE297.out | refine below_set ?_ GE298.out) | exact HB.out)))); have n1_ := Aside0.mk (blk_below (g := gb297) (o := .cells #[.int .i64 167837696, .int .i64 167903232, .int .i64 1, .int .i64 0, .int .i64 0, .string (⟨#[]⟩ : ByteArray)] 23 (0, 0)) (by (with_reducible repeat (first | refine blk_drewN ?_ _ | refine blk_drew ?_ | refine blk_alloc ?_ _)); exact BK297.out) hb); have n2_ := Aside0.mk (blk_below (g := gb298) (o := .cells #[.int .i64 x299000_4, .int .i64 x299001_4, .int .i64 x299002_4, .int .i64 x299003_4, .int .i64 x299004_4, .string x299005_4] 23 (0, 0)) (by (with_reducible repeat (first | refine blk_drewN ?_ _ | refine blk_drew ?_ | refine blk_alloc ?_ _)); exact BK298.out) hb); have n3_ := Aside0.mk (below_step (by repeat (first | (with_reducible first | exact HB.out | apply below_alloc | apply pw_below_drewN | apply below_drew1 | refine below_set ?_ GE297.out | refine below_set ?_ GE298.out) | exact HB.out)) hb); clear BK297; clear BK298; clear HB; have HO306 := n0_; have BK297 := n1_; have BK298 := n2_; have HB := n3_; clear n0_ n1_ n2_ n3_; clear hb ho65; have hcv66 := own_string (P := Try.prog) Try.underlying37 Try.underlying5 Try.underlying9 (Kd.own_of_R HO306.out); have hcz67_0 : w64.cell? ⟨gb297, 0, none⟩ = some (.int .i64 167837696) := (blk_cell BK297.out 0).trans rfl; have hcz67_1 : w64.cell? ⟨gb297, 1, none⟩ = some (.int .i64 167903232) := (blk_cell BK297.out 1).trans rfl; have hcz67_2 : w64.cell? ⟨gb297, 2, none⟩ = some (.int .i64 1) := (blk_cell BK297.out 2).trans rfl; have hcz67_3 : w64.cell? ⟨gb297, 3, none⟩ = some (.int .i64 0) := (blk_cell BK297.out 3).trans rfl; have hcz67_4 : w64.cell? ⟨gb297, 4, none⟩ = some (.int .i64 0) := (blk_cell BK297.out 4).trans rfl; have hcz67_5 : w64.cell? ⟨gb297, 5, none⟩ = some (.string (⟨#[]⟩ : ByteArray)) := (blk_cell BK297.out 5).trans rfl; have hfz67_0 := blk_frozen BK297.out 0; have hfz67_1 := blk_frozen BK297.out 1; have hfz67_2 := blk_frozen BK297.out 2; have hfz67_3 := blk_frozen BK297.out 3; have hfz67_4 := blk_frozen BK297.out 4; have hfz67_5 := blk_frozen BK297.out 5) | ((with_reducible refine gate_callee (f := 21) rfl ?_); refine goesL_ (some 78) rfl rfl Try.func21 (by kernel_rfl) rfl #[.agg #[.int .i64 167837696, .int .i64 167903232, .int .i64 1, .int .i64 0, .int .i64 0, .string (strOfNums y304)]] rfl (by (try simp only [List.map_toArray, List.map_cons, List.map_nil]); first | done | rfl | (simp only [List.length_drop, List.length_take]; rfl)) ?_; (with_reducible refine (gue_Push.calls kj4 167837696 167903232 1 0 0 (strOfNums y304) t307 t308 _ A49.out).mono ?_); rintro e w68 ⟨rfl, hb⟩; refine ⟨_, rfl, ?_⟩; have n0_ := Aside0.mk (Kd.R_below (by (with_reducible repeat (first | apply Kd.R_alloc | apply Kd.R_drewN | apply Kd.R_drew)); exact (Kd.R_mono (Kd.R_far (p := ⟨gb297, 5, none⟩) (Kd.R_types HO306.out BK297.out (by decide)) (fun _ hk => hk.2) (.string (strOfNums y304))) (fun _ h_ => h_.1))) hb); have n1_ := Aside0.mk (blk_below (g := gb297) (o := .cells #[.int .i64 167837696, .int .i64 167903232, .int .i64 1, .int .i64 0, .int .i64 0, .string (strOfNums y304)] 23 (0, 0)) (by (with_reducible repeat (first | refine blk_drewN ?_ _ | refine blk_drew ?_ | refine blk_alloc ?_ _)); refine blk_put (cs := #[.int .i64 167837696, .int .i64 167903232, .int .i64 1, .int .i64 0, .int .i64 0, .string (⟨#[]⟩ : ByteArray)]) ?_ 5 _ (by first | rfl | (simp [*]; done)); (with_reducible repeat (first | refine blk_drewN ?_ _ | refine blk_drew ?_ | refine blk_alloc ?_ _)); exact BK297.out) hb); have n2_ := Aside0.mk (blk_below (g := gb298) (o := .cells #[.int .i64 x299000_4, .int .i64 x299001_4, .int .i64 x299002_4, .int .i64 x299003_4, .int .i64 x299004_4, .string x299005_4] 23 (0, 0)) (by (with_reducible repeat (first | refine blk_drewN ?_ _ | refine blk_drew ?_ | refine blk_alloc ?_ _)); refine blk_far ?_ NB298_297.out _; (with_reducible repeat (first | refine blk_drewN ?_ _ | refine blk_drew ?_ | refine blk_alloc ?_ _)); exact BK298.out) hb); have n3_ := Aside0.mk (below_step (by repeat (first | (with_reducible first | exact HB.out | apply below_alloc | apply pw_below_drewN | apply below_drew1 | refine below_set ?_ GE297.out | refine below_set ?_ GE298.out) | exact HB.out)) hb); clear HO306; clear BK297; clear BK298; clear HB; have HO306 := n0_; have BK297 := n1_; have BK298 := n2_; have HB := n3_; clear n0_ n1_ n2_ n3_; (try clear hb); (try clear hb2); (try clear hk); (try clear hi); have hcz69_0 : w68.cell? ⟨gb297, 0, none⟩ = some (.int .i64 167837696) := (blk_cell BK297.out 0).trans rfl; have hcz69_1 : w68.cell? ⟨gb297, 1, none⟩ = some (.int .i64 167903232) := (blk_cell BK297.out 1).trans rfl; have hcz69_2 : w68.cell? ⟨gb297, 2, none⟩ = some (.int .i64 1) := (blk_cell BK297.out 2).trans rfl; have hcz69_3 : w68.cell? ⟨gb297, 3, none⟩ = some (.int .i64 0) := (blk_cell BK297.out 3).trans rfl; have hcz69_4 : w68.cell? ⟨gb297, 4, none⟩ = some (.int .i64 0) := (blk_cell BK297.out 4).trans rfl; have hcz69_5 : w68.cell? ⟨gb297, 5, none⟩ = some (.string (strOfNums y304)) := (blk_cell BK297.out 5).trans rfl; have hfz69_0 := blk_frozen BK297.out 0; have hfz69_1 := blk_frozen BK297.out 1; have hfz69_2 := blk_frozen BK297.out 2; have hfz69_3 := blk_frozen BK297.out 3; have hfz69_4 := blk_frozen BK297.out 4; have hfz69_5 := blk_frozen BK297.out 5) | ((with_reducible refine gate_callee (f := 21) rfl ?_); refine goesL_ (some 87) rfl rfl Try.func21 (by kernel_rfl) rfl #[.agg #[.int .i64 167837696, .int .i64 167903232, .int .i64 1, .int .i64 0, .int .i64 0, .string ((strOfNums y304) ++ (⟨#[120]⟩ : ByteArray))]] rfl (by (try simp only [List.map_toArray, List.map_cons, List.map_nil]); first | done | rfl | (simp only [List.length_drop, List.length_take]; rfl)) ?_; (with_reducible refine (gue_Push.calls kj4 167837696 167903232 1 0 0 ((strOfNums y304) ++ (⟨#[120]⟩ : ByteArray)) t309 t310 _ A51.out).mono ?_); rintro e w70 ⟨rfl, hb⟩; refine ⟨_, rfl, ?_⟩; have n0_ := Aside0.mk (Kd.R_below (by (with_reducible repeat (first | apply Kd.R_alloc | apply Kd.R_drewN | apply Kd.R_drew)); exact (Kd.R_mono (Kd.R_far (p := ⟨gb297, 5, none⟩) (Kd.R_types HO306.out BK297.out (by decide)) (fun _ hk => hk.2) (.string ((strOfNums y304) ++ (⟨#[120]⟩ : ByteArray)))) (fun _ h_ => h_.1))) hb); have n1_ := Aside0.mk (blk_below (g := gb297) (o := .cells #[.int .i64 167837696, .int .i64 167903232, .int .i64 1, .int .i64 0, .int .i64 0, .string ((strOfNums y304) ++ (⟨#[120]⟩ : ByteArray))] 23 (0, 0)) (by (with_reducible repeat (first | refine blk_drewN ?_ _ | refine blk_drew ?_ | refine blk_alloc ?_ _)); refine blk_put (cs := #[.int .i64 167837696, .int .i64 167903232, .int .i64 1, .int .i64 0, .int .i64 0, .string (strOfNums y304)]) ?_ 5 _ (by first | rfl | (simp [*]; done)); (with_reducible repeat (first | refine blk_drewN ?_ _ | refine blk_drew ?_ | refine blk_alloc ?_ _)); exact BK297.out) hb); have n2_ := Aside0.mk (blk_below (g := gb298) (o := .cells #[.int .i64 x299000_4, .int .i64 x299001_4, .int .i64 x299002_4, .int .i64 x299003_4, .int .i64 x299004_4, .string x299005_4] 23 (0, 0)) (by (with_reducible repeat (first | refine blk_drewN ?_ _ | refine blk_drew ?_ | refine blk_alloc ?_ _)); refine blk_far ?_ NB298_297.out _; (with_reducible repeat (first | refine blk_drewN ?_ _ | refine blk_drew ?_ | refine blk_alloc ?_ _)); exact BK298.out) hb); have n3_ := Aside0.mk (below_step (by repeat (first | (with_reducible first | exact HB.out | apply below_alloc | apply pw_below_drewN | apply below_drew1 | refine below_set ?_ GE297.out | refine below_set ?_ GE298.out) | exact HB.out)) hb); clear HO306; clear BK297; clear BK298; clear HB; have HO306 := n0_; have BK297 := n1_; have BK298 := n2_; have HB := n3_; clear n0_ n1_ n2_ n3_; (try clear hb); (try clear hb2); (try clear hk); (try clear hi); have hcz71_0 : w70.cell? ⟨gb298, 0, none⟩ = some (.int .i64 x299000_4) := (blk_cell BK298.out 0).trans rfl; have hcz71_1 : w70.cell? ⟨gb298, 1, none⟩ = some (.int .i64 x299001_4) := (blk_cell BK298.out 1).trans rfl; have hcz71_2 : w70.cell? ⟨gb298, 2, none⟩ = some (.int .i64 x299002_4) := (blk_cell BK298.out 2).trans rfl; have hcz71_3 : w70.cell? ⟨gb298, 3, none⟩ = some (.int .i64 x299003_4) := (blk_cell BK298.out 3).trans rfl; have hcz71_4 : w70.cell? ⟨gb298, 4, none⟩ = some (.int .i64 x299004_4) := (blk_cell BK298.out 4).trans rfl; have hcz71_5 : w70.cell? ⟨gb298, 5, none⟩ = some (.string x299005_4) := (blk_cell BK298.out 5).trans rfl; have hfz71_0 := blk_frozen BK298.out 0; have hfz71_1 := blk_frozen BK298.out 1; have hfz71_2 := blk_frozen BK298.out 2; have hfz71_3 := blk_frozen BK298.out 3; have hfz71_4 := blk_frozen BK298.out 4; have hfz71_5 := blk_frozen BK298.out 5) | ((with_reducible refine gate_callee (f := 26) rfl ?_); refine goesL_ (some 91) rfl rfl Try.func26 (by kernel_rfl) rfl #[.agg #[.int .i64 x299000_4, .int .i64 x299001_4, .int .i64 x299002_4, .int .i64 x299003_4, .int .i64 x299004_4, .string x299005_4]] rfl (by (try simp only [List.map_toArray, List.map_cons, List.map_nil]); first | done | rfl | (simp only [List.length_drop, List.length_take]; rfl)) ?_; (with_reducible refine (gue_May.calls x299000_4 x299001_4 x299002_4 x299003_4 x299004_4 x299005_4 false _ A52.out).mono ?_); rintro e w72 ⟨rfl, hb⟩; refine ⟨_, rfl, ?_⟩; have n0_ := Aside0.mk (Kd.R_below (by (with_reducible repeat (first | apply Kd.R_alloc | apply Kd.R_drewN | apply Kd.R_drew)); exact HO306.out) hb); have n1_ := Aside0.mk (blk_below (g := gb297) (o := .cells #[.int .i64 167837696, .int .i64 167903232, .int .i64 1, .int .i64 0, .int .i64 0, .string ((strOfNums y304) ++ (⟨#[120]⟩ : ByteArray))] 23 (0, 0)) (by (with_reducible repeat (first | refine blk_drewN ?_ _ | refine blk_drew ?_ | refine blk_alloc ?_ _)); exact BK297.out) hb); have n2_ := Aside0.mk (blk_below (g := gb298) (o := .cells #[.int .i64 x299000_4, .int .i64 x299001_4, .int .i64 x299002_4, .int .i64 x299003_4, .int .i64 x299004_4, .string x299005_4] 23 (0, 0)) (by (with_reducible repeat (first | refine blk_drewN ?_ _ | refine blk_drew ?_ | refine blk_alloc ?_ _)); exact BK298.out) hb); have n3_ := Aside0.mk (below_step (by repeat (first | (with_reducible first | exact HB.out | apply below_alloc | apply pw_below_drewN | apply below_drew1 | refine below_set ?_ GE297.out | refine below_set ?_ GE298.out) | exact HB.out)) hb); clear HO306; clear BK297; clear BK298; clear HB; have HO306 := n0_; have BK297 := n1_; have BK298 := n2_; have HB := n3_; clear n0_ n1_ n2_ n3_; (try clear hb); (try clear hb2); (try clear hk); (try clear hi)) | (go_at_call 25; (with_reducible refine (wharfagelaw0_Num.calls t303 t312 _ A55.out).mono ?_); rintro e w' ⟨rfl, ⟨nd, rfl⟩⟩) | (go_at_call 25; (with_reducible refine (wharfagelaw0_Num.calls t308 t313 _ A58.out).mono ?_); rintro e w' ⟨rfl, ⟨nd, rfl⟩⟩) | (go_at_call 25; (with_reducible refine (wharfagelaw0_Num.calls t310 t314 _ A60.out).mono ?_); rintro e w' ⟨rfl, ⟨nd, rfl⟩⟩))
                      go_ret
                      exact ⟨by first | rfl | (simp [errW_none, errW_some] <;> rfl) | (simp [*, errW_none, errW_some] <;> rfl), by repeat (first | (with_reducible first | exact HB.out | apply below_alloc | apply pw_below_drewN | apply below_drew1 | refine below_set ?_ GE297.out | refine below_set ?_ GE298.out) | exact HB.out)⟩
                    · rw [if_neg c59] at H
                      exact absurd H (by simp)
                  · rw [if_neg c57] at H
                    exact absurd H (by simp)
                · rw [if_neg c56] at H
                  exact absurd H (by simp)
              · rw [if_neg c54] at H
                exact absurd H (by simp)
          · rw [if_neg c50] at H
            exact absurd H (by simp)
        · rw [if_neg c48] at H
          exact absurd H (by simp)
  · replace c4 := Bool.eq_false_iff.mpr c4
    subst c4
    have H1 : (none) = some r := by rw [if_neg (show ¬ (false = true) by decide)] at H; exact H
    clear H
    have H := H1
    clear H1
    exact absurd H (by simp)

/-- THE ONE PURE STATEMENT of wharfagelaw6_GueForms: yours. -/
def wharfagelaw6_GueForms.Pure : Prop := ∀ (a0 : Int) (a1 : Int), (Lit.int .i64 a0).wf = true → (Lit.int .i64 a1).wf = true → ∃ k, wharfagelaw6_GueForms.f k a0 a1 = some true
theorem wharfagelaw6_GueForms.walk (P : wharfagelaw6_GueForms.Pure) (a0 : Int) (a1 : Int) (w : World) (w0 : (Lit.int .i64 a0).wf = true) (w1 : (Lit.int .i64 a1).wf = true) :
    Calls Try.prog 5 #[.int .i64 a0, .int .i64 a1] w fun e w' => e = .returned (.bool true) ∧ Below w.heap.size w w' := by
  obtain ⟨k, h⟩ := P a0 a1 w0 w1
  refine (wharfagelaw6_GueForms.calls k a0 a1 true w h).mono ?_
  rintro e w' ⟨rfl, hd⟩
  exact ⟨rfl, hd⟩

end Go.Proofs.Ytobhmonmeocfmaa.PA
