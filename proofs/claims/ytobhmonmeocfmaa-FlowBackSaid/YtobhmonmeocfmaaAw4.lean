import Derived.Test.YtobhmonmeocfmaaFAM0
import Derived.Test.YtobhmonmeocfmaaFAFlowOf
import Derived.Test.YtobhmonmeocfmaaFAFlowPacket
namespace Go.Proofs.Ytobhmonmeocfmaa.PA
set_option linter.unusedSimpArgs false
set_option linter.unusedVariables false
open Go Go.RowKit Go.Proofs.YtobhmonmeocfmaaW.PrintWords Go.Proofs.YtobhmonmeocfmaaW.PrintLast Go.Proofs.YtobhmonmeocfmaaW.PrintMore 
attribute [local go_sem high] eqA61 eqA44
theorem aw4x {β : Type} {A : Option (ByteArray × Int)} {f : ByteArray → Option β} {r : β} (h1 : A.map (fun q => q.2) = some 0) (h2 : A.bind (fun q => f q.1) = some r) : ∃ S, A = some (S, 0) ∧ f S = some r := by
  match A, h1, h2 with
  | some (S, e), h1, h2 =>
    obtain rfl : e = 0 := by simpa using h1
    exact ⟨S, rfl, h2⟩
theorem aw4a : ∃ S, flow_Packet.f 700 9 167772161 6 5 80 2 (⟨#[120]⟩ : ByteArray) = some (S, 0) ∧ flow_Of.f 700 S = some (9, 167772161, 6, 5, 80, 6, 5, 80, 0, 0, 2, (⟨#[120]⟩ : ByteArray), 0) := aw4x (by kernel_rfl) (by kernel_rfl)
theorem aw4b : ∃ T, flow_Packet.f 700 9 3 6 5 80 0 (⟨#[]⟩ : ByteArray) = some (T, 0) ∧ flow_Of.f 700 T = some (0, 0, 0, 0, 0, 0, 0, 0, 0, 0, 0, (⟨#[]⟩ : ByteArray), 3) := aw4x (by kernel_rfl) (by kernel_rfl)
theorem aw4c : flow_Of.f 700 (⟨#[]⟩ : ByteArray) = some (0, 0, 0, 0, 0, 0, 0, 0, 0, 0, 0, (⟨#[]⟩ : ByteArray), 1) := by kernel_rfl
theorem aw4d : flow_Packet.f 700 0 0 0 0 0 0 (⟨#[]⟩ : ByteArray) = some ((⟨#[]⟩ : ByteArray), 400) := by kernel_rfl
theorem aw4e : flow_May.f 9 167772161 6 5 80 = some true := by kernel_rfl
theorem gen4 {P : Program} {c : Code} {Q : Exit → Act → World → Prop} {a : Act} {V0 w0 : World} {o q r : Obj} {g0 g1 g2 : Nat}
    (h : ∀ V : World, V.heap[g0]? = some o → V.heap[g1]? = some q → V.heap[g2]? = some r → Below w0.heap.size w0 V → Code.wp P c Q a V) (h1 : V0.heap[g0]? = some o) (h2 : V0.heap[g1]? = some q) (h3 : V0.heap[g2]? = some r) (h4 : Below w0.heap.size w0 V0) : Code.wp P c Q a V0 := h V0 h1 h2 h3 h4
set_option maxHeartbeats 8000000 in
set_option maxRecDepth 100000 in
theorem wharfagelaw4_awake.calls0 (w : World) : Calls Try.prog 42 #[] w fun e w' => e = .returned (.bool true) ∧ Below w.heap.size w w' := by
  have HB := Aside0.mk (Below.refl w.heap.size w)
  have hu61 := Try.underlying61
  have hu44 := Try.underlying44
  obtain ⟨S, hS, hO⟩ : ∃ S, flow_Packet.f 700 9 167772161 6 5 80 2 (⟨#[120]⟩ : ByteArray) = some (S, 0) ∧ flow_Of.f 700 S = some (9, 167772161, 6, 5, 80, 6, 5, 80, 0, 0, 2, (⟨#[120]⟩ : ByteArray), 0) := aw4a
  obtain ⟨T, hT, hOT⟩ : ∃ T, flow_Packet.f 700 9 3 6 5 80 0 (⟨#[]⟩ : ByteArray) = some (T, 0) ∧ flow_Of.f 700 T = some (0, 0, 0, 0, 0, 0, 0, 0, 0, 0, 0, (⟨#[]⟩ : ByteArray), 3) := aw4b
  have hE := Aside0.mk aw4c
  have hJ := Aside0.mk aw4d
  have hM := Aside0.mk aw4e
  replace hS := Aside0.mk hS
  replace hO := Aside0.mk hO
  replace hT := Aside0.mk hT
  replace hOT := Aside0.mk hOT
  go_enter Try.func42, Try.ntmps42
  go_upto_region 3 with (first | (go_at_call 36; refine (flow_Packet.calls 700 _ _ _ _ _ _ _ _ _ _ hS.out).mono ?_; rintro e w1 ⟨rfl, hb1⟩; have P1 := Aside0.mk (blk_below (heap_alloc_new w (.cells #[.int .i64 9, .int .i64 167772161, .int .i64 6, .int .i64 5, .int .i64 80] 61)) hb1); have B1 := Aside0.mk (below_then (below_alloc HB.out _) (below_alloc HB.out _).size hb1); clear hb1))
  go_wp2_with fail
  refine (flow_Of.calls 700 _ _ _ _ _ _ _ _ _ _ _ _ _ _ _ hO.out).mono ?_
  rintro e w3 ⟨rfl, hb3⟩
  have P3 := Aside0.mk (blk_below P1.out hb3)
  have B3 := Aside0.mk (below_then B1.out B1.out.size hb3)
  clear hb3
  have hH : ((w3.alloc (.cells #[.int .i64 9, .int .i64 167772161, .int .i64 6, .int .i64 5, .int .i64 80] 61)).alloc (.cells #[.int .i64 6, .int .i64 5, .int .i64 80, .int .i64 0, .int .i64 0, .int .i64 2, .string (⟨#[120]⟩ : ByteArray)] 44)).heap[w3.heap.size + 1]? = some (.cells #[.int .i64 6, .int .i64 5, .int .i64 80, .int .i64 0, .int .i64 0, .int .i64 2, .string (⟨#[120]⟩ : ByteArray)] 44) := by
    show ((w3.heap.push _).push _)[w3.heap.size + 1]? = _
    rw [Array.getElem?_push, if_pos (by rw [Array.size_push])]
  go_upto_region 4 with (fail)
  refine gen4 (o := (.cells #[.int .i64 9, .int .i64 167772161, .int .i64 6, .int .i64 5, .int .i64 80] 61)) (q := (.cells #[.int .i64 9, .int .i64 167772161, .int .i64 6, .int .i64 5, .int .i64 80] 61)) (r := (.cells #[.int .i64 6, .int .i64 5, .int .i64 80, .int .i64 0, .int .i64 0, .int .i64 2, .string (⟨#[120]⟩ : ByteArray)] 44)) (g0 := w.heap.size) (g1 := w3.heap.size) (g2 := w3.heap.size + 1) (w0 := w) ?_ (blk_alloc (blk_alloc P3.out _) _) (blk_alloc (heap_alloc_new w3 _) _) hH (below_alloc (below_alloc B3.out _) _)
  intro V P4 G4 H4 B4
  replace P4 := Aside0.mk P4
  replace G4 := Aside0.mk G4
  replace H4 := Aside0.mk H4
  replace B4 := Aside0.mk B4
  clear hH
  generalize w3.heap.size = g9 at G4 H4 ⊢
  go_wp2_with fail
  refine (flow_Of.calls 700 _ _ _ _ _ _ _ _ _ _ _ _ _ _ _ hE.out).mono ?_
  rintro e w5 ⟨rfl, hb5⟩
  have P5 := Aside0.mk (blk_below P4.out hb5)
  have G5 := Aside0.mk (blk_below G4.out hb5)
  have H5 := Aside0.mk (blk_below H4.out hb5)
  have B5 := Aside0.mk (below_then B4.out B4.out.size hb5)
  clear hb5
  go_upto_region 5 with (fail)
  refine gen4 (o := (.cells #[.int .i64 9, .int .i64 167772161, .int .i64 6, .int .i64 5, .int .i64 80] 61)) (q := (.cells #[.int .i64 9, .int .i64 167772161, .int .i64 6, .int .i64 5, .int .i64 80] 61)) (r := (.cells #[.int .i64 6, .int .i64 5, .int .i64 80, .int .i64 0, .int .i64 0, .int .i64 2, .string (⟨#[120]⟩ : ByteArray)] 44)) (g0 := w.heap.size) (g1 := g9) (g2 := g9 + 1) (w0 := w) ?_ (blk_alloc (blk_alloc P5.out _) _) (blk_alloc (blk_alloc G5.out _) _) (blk_alloc (blk_alloc H5.out _) _) (below_alloc (below_alloc B5.out _) _)
  intro V6 P6 G6 H6 B6
  replace P6 := Aside0.mk P6
  replace G6 := Aside0.mk G6
  replace H6 := Aside0.mk H6
  replace B6 := Aside0.mk B6
  have q0 : V6.cell? ⟨w.heap.size, 0, none⟩ = some (.int .i64 9) := (blk_cell P6.out 0).trans rfl
  have q1 : V6.cell? ⟨w.heap.size, 1, none⟩ = some (.int .i64 167772161) := (blk_cell P6.out 1).trans rfl
  have q2 : V6.cell? ⟨w.heap.size, 2, none⟩ = some (.int .i64 6) := (blk_cell P6.out 2).trans rfl
  have q3 : V6.cell? ⟨w.heap.size, 3, none⟩ = some (.int .i64 5) := (blk_cell P6.out 3).trans rfl
  have q4 : V6.cell? ⟨w.heap.size, 4, none⟩ = some (.int .i64 80) := (blk_cell P6.out 4).trans rfl
  go_upto_region 7 with (fail)
  clear q0 q1 q2 q3 q4
  have K7 := Aside0.mk (blk_alloc P6.out (.cells #[.int .i64 9, .int .i64 3, .int .i64 6, .int .i64 5, .int .i64 80] 61))
  have K8 := Aside0.mk (blk_alloc G6.out (.cells #[.int .i64 9, .int .i64 3, .int .i64 6, .int .i64 5, .int .i64 80] 61))
  have K9 := Aside0.mk (blk_alloc H6.out (.cells #[.int .i64 9, .int .i64 3, .int .i64 6, .int .i64 5, .int .i64 80] 61))
  have BB := Aside0.mk (below_alloc B6.out (.cells #[.int .i64 9, .int .i64 3, .int .i64 6, .int .i64 5, .int .i64 80] 61))
  go_wp2_with fail
  refine (flow_Packet.calls 700 _ _ _ _ _ _ _ _ _ _ hT.out).mono ?_
  rintro e w7 ⟨rfl, hb7⟩
  have P7 := Aside0.mk (blk_below K7.out hb7)
  have G7 := Aside0.mk (blk_below K8.out hb7)
  have H7 := Aside0.mk (blk_below K9.out hb7)
  have B7 := Aside0.mk (below_then BB.out BB.out.size hb7)
  clear hb7
  go_wp2_with fail
  refine (flow_Of.calls 700 _ _ _ _ _ _ _ _ _ _ _ _ _ _ _ hOT.out).mono ?_
  rintro e w8 ⟨rfl, hb8⟩
  have P8 := Aside0.mk (blk_below P7.out hb8)
  have G8 := Aside0.mk (blk_below G7.out hb8)
  have H8 := Aside0.mk (blk_below H7.out hb8)
  have B8 := Aside0.mk (below_then B7.out B7.out.size hb8)
  clear hb8
  go_upto_region 9 with (fail)
  refine gen4 (o := (.cells #[.int .i64 9, .int .i64 167772161, .int .i64 6, .int .i64 5, .int .i64 80] 61)) (q := (.cells #[.int .i64 9, .int .i64 167772161, .int .i64 6, .int .i64 5, .int .i64 80] 61)) (r := (.cells #[.int .i64 6, .int .i64 5, .int .i64 80, .int .i64 0, .int .i64 0, .int .i64 2, .string (⟨#[120]⟩ : ByteArray)] 44)) (g0 := w.heap.size) (g1 := g9) (g2 := g9 + 1) (w0 := w) ?_ (blk_alloc (blk_alloc P8.out _) _) (blk_alloc (blk_alloc G8.out _) _) (blk_alloc (blk_alloc H8.out _) _) (below_alloc (below_alloc B8.out _) _)
  intro V9 P9 G9 H9 B9
  replace P9 := Aside0.mk P9
  replace G9 := Aside0.mk G9
  replace H9 := Aside0.mk H9
  replace B9 := Aside0.mk B9
  go_wp2_with fail
  refine (flow_Packet.calls 700 _ _ _ _ _ _ _ _ _ _ hJ.out).mono ?_
  rintro e w10 ⟨rfl, hb10⟩
  have P10 := Aside0.mk (blk_below P9.out hb10)
  have G10 := Aside0.mk (blk_below G9.out hb10)
  have H10 := Aside0.mk (blk_below H9.out hb10)
  have B10 := Aside0.mk (below_then B9.out B9.out.size hb10)
  clear hb10
  have q0 : w10.cell? ⟨w.heap.size, 0, none⟩ = some (.int .i64 9) := (blk_cell P10.out 0).trans rfl
  have q1 : w10.cell? ⟨w.heap.size, 1, none⟩ = some (.int .i64 167772161) := (blk_cell P10.out 1).trans rfl
  have q2 : w10.cell? ⟨w.heap.size, 2, none⟩ = some (.int .i64 6) := (blk_cell P10.out 2).trans rfl
  have q3 : w10.cell? ⟨w.heap.size, 3, none⟩ = some (.int .i64 5) := (blk_cell P10.out 3).trans rfl
  have q4 : w10.cell? ⟨w.heap.size, 4, none⟩ = some (.int .i64 80) := (blk_cell P10.out 4).trans rfl
  have r0 : w10.cell? ⟨g9, 0, none⟩ = some (.int .i64 9) := (blk_cell G10.out 0).trans rfl
  have r1 : w10.cell? ⟨g9, 1, none⟩ = some (.int .i64 167772161) := (blk_cell G10.out 1).trans rfl
  have r2 : w10.cell? ⟨g9, 2, none⟩ = some (.int .i64 6) := (blk_cell G10.out 2).trans rfl
  have r3 : w10.cell? ⟨g9, 3, none⟩ = some (.int .i64 5) := (blk_cell G10.out 3).trans rfl
  have r4 : w10.cell? ⟨g9, 4, none⟩ = some (.int .i64 80) := (blk_cell G10.out 4).trans rfl
  have s0 : w10.cell? ⟨g9 + 1, 0, none⟩ = some (.int .i64 6) := (blk_cell H10.out 0).trans rfl
  have s1 : w10.cell? ⟨g9 + 1, 1, none⟩ = some (.int .i64 5) := (blk_cell H10.out 1).trans rfl
  have s2 : w10.cell? ⟨g9 + 1, 2, none⟩ = some (.int .i64 80) := (blk_cell H10.out 2).trans rfl
  have s3 : w10.cell? ⟨g9 + 1, 3, none⟩ = some (.int .i64 0) := (blk_cell H10.out 3).trans rfl
  have s4 : w10.cell? ⟨g9 + 1, 4, none⟩ = some (.int .i64 0) := (blk_cell H10.out 4).trans rfl
  have s5 : w10.cell? ⟨g9 + 1, 5, none⟩ = some (.int .i64 2) := (blk_cell H10.out 5).trans rfl
  have s6 : w10.cell? ⟨g9 + 1, 6, none⟩ = some (.string (⟨#[120]⟩ : ByteArray)) := (blk_cell H10.out 6).trans rfl
  go_wp2_with (first | (go_at_call 25; refine (wharfagelaw0_Num.calls _ _ _ rfl).mono ?_; rintro e w3 ⟨rfl, ⟨nd, rfl⟩⟩) | (go_at_call 40; refine (flow_May.calls _ _ _ _ _ _ _ hM.out).mono ?_; rintro e w11 ⟨rfl, hb11⟩))
  go_ret
  exact ⟨by first | rfl | simp, by first | exact below_then (pw_below_drewN B10.out _) (pw_below_drewN B10.out _).size hb11 | exact below_then B10.out B10.out.size hb11⟩
end Go.Proofs.Ytobhmonmeocfmaa.PA
