-- printed by a program of this session (myprint.py) out of the translation
import Derived.Test.YtobhmonmeocfmaaAw4
import Derived.Test.YtobhmonmeocfmaaFAM0
import Derived.Test.YtobhmonmeocfmaaFAFlowMay
import Derived.Test.YtobhmonmeocfmaaFAFlowPacket
import Derived.Test.YtobhmonmeocfmaaFAFlowOf
namespace Go.Proofs.Ytobhmonmeocfmaa.PA
open Go.RowKit Go.Proofs.YtobhmonmeocfmaaW.PrintWords Go.Proofs.YtobhmonmeocfmaaW.PrintLast Go.Proofs.YtobhmonmeocfmaaW.PrintMore
attribute [local go_sem] max2_int min2_int max_two min_two max_three min_three max_four min_four   -- for this text's walks alone
set_option linter.unusedVariables false
set_option linter.unusedSimpArgs false

attribute [local go_sem high] eqA61
/-! ### wharfagelaw4_awake: function 42 -/
def wharfagelaw4_awake.f (k : Nat)  : Option (Bool) := (flow_Packet.f k 9 167772161 6 5 80 2 (⟨#[120]⟩ : ByteArray)).bind fun bt742 => ((flow_Of.f k bt742.1).bind fun bt744 => ((flow_Of.f k (⟨#[]⟩ : ByteArray)).bind fun bt759 => ((flow_Packet.f k 9 3 6 5 80 0 (⟨#[]⟩ : ByteArray)).bind fun bt775 => ((flow_Of.f k bt775.1).bind fun bt777 => ((flow_Packet.f k 0 0 0 0 0 0 (⟨#[]⟩ : ByteArray)).bind fun bt792 => ((wharfagelaw0_Num.f bt742.2).bind fun t794 => (if t794 = 0 then (if (bt744.1 == 9 && (bt744.2.1 == 167772161 && (bt744.2.2.1 == 6 && (bt744.2.2.2.1 == 5 && (bt744.2.2.2.2.1 == 80))))) = true then (if bt744.2.2.2.2.2.2.2.2.2.2.1 = 2 then (if bt744.2.2.2.2.2.2.2.2.2.2.2.1.toList = ([120] : List UInt8) then (if bt744.2.2.2.2.2.2.2.2.2.2.2.2 = 0 then (if bt759.2.2.2.2.2.2.2.2.2.2.2.2 = 1 then ((wharfagelaw0_Num.f bt775.2).bind fun t795 => (if t795 = 0 then (if bt777.2.2.2.2.2.2.2.2.2.2.2.2 = 3 then ((wharfagelaw0_Num.f bt792.2).bind fun t796 => (if t796 = 400 then ((flow_May.f 9 167772161 6 5 80).bind fun t797 => (some t797)) else (none))) else (none)) else (none))) else (none)) else (none)) else (none)) else (none)) else (none)) else (none))))))))
theorem wharfagelaw4_awake.mono : ∀ k, LeO (wharfagelaw4_awake.f k ) (wharfagelaw4_awake.f (k + 1) ) := by
  intro  k
  unfold wharfagelaw4_awake.f
  repeat' first
      | (with_reducible exact flow_Of.mono _ _)
      | (with_reducible exact flow_Packet.mono _ _ _ _ _ _ _ _)
      | (with_reducible exact LeO.refl _)
      | (with_reducible exact LeO.none _)
      | (with_reducible refine LeO.ite ?_ ?_)
      | (with_reducible refine LeO.bind ?_ (fun _ => ?_))
      | exact flow_Of.mono _ _
      | exact flow_Packet.mono _ _ _ _ _ _ _ _
      | exact LeO.none _
      | refine LeO.ite ?_ ?_
      | refine LeO.bind ?_ (fun _ => ?_)
set_option maxHeartbeats 8000000 in
set_option maxRecDepth 100000 in
theorem wharfagelaw4_awake.calls (k : Nat)  (r : Bool) (w : World) (h : wharfagelaw4_awake.f k  = some r) :
    Calls Try.prog 42 #[] w fun e w' => e = .returned (.bool r) ∧ Below w.heap.size w w' := by
  obtain rfl : true = r := by
    have up : ∀ n j q, wharfagelaw4_awake.f j = some q → wharfagelaw4_awake.f (j + n) = some q := by
      intro n
      induction n with
      | zero => intro j q hq; exact hq
      | succ n ih => intro j q hq; exact wharfagelaw4_awake.mono (j + n) q (ih j q hq)
    have e1 := up 700 k r h
    have e2 := up k 700 true (by decide +kernel)
    rw [Nat.add_comm] at e2
    rw [e1] at e2
    exact (Option.some.inj e2).symm
  exact wharfagelaw4_awake.calls0 w
end Go.Proofs.Ytobhmonmeocfmaa.PA
