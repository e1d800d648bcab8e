import Derived.Test.YtmhlgpdoedbedaaGreatBd
import Derived.Test.YtmhlgpdoedbedaaGreatReads
import Derived.KernelRfl
set_option linter.unusedVariables false
set_option linter.unusedSimpArgs false
namespace Go.Proofs.YtmhlgpdoedbedaaGreat.Lf
open Go Go.Proofs Go.Proofs.YtmhlgpdoedbedaaGreat.Sv
theorem rd_GBack : Rd Tryz.prog 165 2 eBack Bd_GBack := by
  refine Rd.struct Tryz.underlying165 (by kernel_rfl) (.cons rfl (Rd.int Tryz.underlying3 (by kernel_rfl)) (.cons rfl (Rd.bool Tryz.underlying4 (by kernel_rfl)) (.nil))) ?_ (fun ds ⟨a, h, _⟩ => by rw [h]; rfl)
  intro dss h
  cases h with
  | cons q0 h =>
  obtain ⟨a0, rfl, b0⟩ := q0
  cases h with
  | cons q1 h =>
  obtain ⟨a1, rfl, b1⟩ := q1
  cases h
  exact ⟨⟨a0, a1⟩, rfl, trivial⟩
theorem rd_GSite : Rd Tryz.prog 69 4 (eSite true) Bd_GSite := by
  refine Rd.struct Tryz.underlying69 (by kernel_rfl) (.cons rfl (Rd.int Tryz.underlying3 (by kernel_rfl)) (.cons rfl (Rd.bool Tryz.underlying4 (by kernel_rfl)) (.cons rfl (Rd.int Tryz.underlying3 (by kernel_rfl)) (.cons rfl (Rd.slice Tryz.underlying67 (by kernel_rfl) rd_GBack (by decide) (b := 16) (by kernel_rfl) (by decide)) (.nil))))) ?_ (fun ds ⟨a, h, _⟩ => by rw [h]; rfl)
  intro dss h
  cases h with
  | cons q0 h =>
  obtain ⟨a0, rfl, b0⟩ := q0
  cases h with
  | cons q1 h =>
  obtain ⟨a1, rfl, b1⟩ := q1
  cases h with
  | cons q2 h =>
  obtain ⟨a2, rfl, b2⟩ := q2
  cases h with
  | cons q3 h =>
  obtain ⟨a3, rfl, b3⟩ := q3
  cases h
  exact ⟨⟨a0, a1, a2, a3⟩, rfl, ⟨b3.1, b3.2⟩⟩
theorem rd_GConfig : Rd Tryz.prog 24 2 (eConfig true) Bd_GConfig := by
  refine Rd.struct Tryz.underlying24 (by kernel_rfl) (.cons rfl (Rd.int Tryz.underlying3 (by kernel_rfl)) (.cons rfl (Rd.slice Tryz.underlying22 (by kernel_rfl) rd_GSite (by decide) (b := 48) (by kernel_rfl) (by decide)) (.nil))) ?_ (fun ds ⟨a, h, _⟩ => by rw [h]; rfl)
  intro dss h
  cases h with
  | cons q0 h =>
  obtain ⟨a0, rfl, b0⟩ := q0
  cases h with
  | cons q1 h =>
  obtain ⟨a1, rfl, b1⟩ := q1
  cases h
  exact ⟨⟨a0, a1⟩, rfl, ⟨b1.1, b1.2⟩⟩
theorem rd_GHealth : Rd Tryz.prog 66 2 eHealth Bd_GHealth := by
  refine Rd.struct Tryz.underlying66 (by kernel_rfl) (.cons rfl (Rd.bool Tryz.underlying4 (by kernel_rfl)) (.cons rfl (Rd.int Tryz.underlying3 (by kernel_rfl)) (.nil))) ?_ (fun ds ⟨a, h, _⟩ => by rw [h]; rfl)
  intro dss h
  cases h with
  | cons q0 h =>
  obtain ⟨a0, rfl, b0⟩ := q0
  cases h with
  | cons q1 h =>
  obtain ⟨a1, rfl, b1⟩ := q1
  cases h
  exact ⟨⟨a0, a1⟩, rfl, trivial⟩
theorem rd_GFlow : Rd Tryz.prog 52 5 eFlow Bd_GFlow := by
  refine Rd.struct Tryz.underlying52 (by kernel_rfl) (.cons rfl (Rd.int Tryz.underlying3 (by kernel_rfl)) (.cons rfl (Rd.int Tryz.underlying3 (by kernel_rfl)) (.cons rfl (Rd.int Tryz.underlying3 (by kernel_rfl)) (.cons rfl (Rd.int Tryz.underlying3 (by kernel_rfl)) (.cons rfl (Rd.int Tryz.underlying3 (by kernel_rfl)) (.nil)))))) ?_ (fun ds ⟨a, h, _⟩ => by rw [h]; rfl)
  intro dss h
  cases h with
  | cons q0 h =>
  obtain ⟨a0, rfl, b0⟩ := q0
  cases h with
  | cons q1 h =>
  obtain ⟨a1, rfl, b1⟩ := q1
  cases h with
  | cons q2 h =>
  obtain ⟨a2, rfl, b2⟩ := q2
  cases h with
  | cons q3 h =>
  obtain ⟨a3, rfl, b3⟩ := q3
  cases h with
  | cons q4 h =>
  obtain ⟨a4, rfl, b4⟩ := q4
  cases h
  exact ⟨⟨a0, a1, a2, a3, a4⟩, rfl, trivial⟩
theorem rd_GEntry : Rd Tryz.prog 58 9 eEntry Bd_GEntry := by
  refine Rd.struct Tryz.underlying58 (by kernel_rfl) (.cons rfl rd_GFlow (.cons rfl (Rd.int Tryz.underlying3 (by kernel_rfl)) (.cons rfl (Rd.bool Tryz.underlying4 (by kernel_rfl)) (.cons rfl (Rd.int Tryz.underlying3 (by kernel_rfl)) (.cons rfl (Rd.int Tryz.underlying3 (by kernel_rfl)) (.nil)))))) ?_ (fun ds ⟨a, h, _⟩ => by rw [h]; rfl)
  intro dss h
  cases h with
  | cons q0 h =>
  obtain ⟨a0, rfl, b0⟩ := q0
  cases h with
  | cons q1 h =>
  obtain ⟨a1, rfl, b1⟩ := q1
  cases h with
  | cons q2 h =>
  obtain ⟨a2, rfl, b2⟩ := q2
  cases h with
  | cons q3 h =>
  obtain ⟨a3, rfl, b3⟩ := q3
  cases h with
  | cons q4 h =>
  obtain ⟨a4, rfl, b4⟩ := q4
  cases h
  exact ⟨⟨a0, a1, a2, a3, a4⟩, rfl, b0⟩
theorem rd_GReport : Rd Tryz.prog 96 4 eReport Bd_GReport := by
  refine Rd.struct Tryz.underlying96 (by kernel_rfl) (.cons rfl (Rd.int Tryz.underlying3 (by kernel_rfl)) (.cons rfl (Rd.int Tryz.underlying3 (by kernel_rfl)) (.cons rfl (Rd.int Tryz.underlying3 (by kernel_rfl)) (.cons rfl (Rd.int Tryz.underlying3 (by kernel_rfl)) (.nil))))) ?_ (fun ds ⟨a, h, _⟩ => by rw [h]; rfl)
  intro dss h
  cases h with
  | cons q0 h =>
  obtain ⟨a0, rfl, b0⟩ := q0
  cases h with
  | cons q1 h =>
  obtain ⟨a1, rfl, b1⟩ := q1
  cases h with
  | cons q2 h =>
  obtain ⟨a2, rfl, b2⟩ := q2
  cases h with
  | cons q3 h =>
  obtain ⟨a3, rfl, b3⟩ := q3
  cases h
  exact ⟨⟨a0, a1, a2, a3⟩, rfl, trivial⟩
theorem rd_GSeen : Rd Tryz.prog 118 5 eSeen Bd_GSeen := by
  refine Rd.struct Tryz.underlying118 (by kernel_rfl) (.cons rfl rd_GReport (.cons rfl (Rd.int Tryz.underlying3 (by kernel_rfl)) (.nil))) ?_ (fun ds ⟨a, h, _⟩ => by rw [h]; rfl)
  intro dss h
  cases h with
  | cons q0 h =>
  obtain ⟨a0, rfl, b0⟩ := q0
  cases h with
  | cons q1 h =>
  obtain ⟨a1, rfl, b1⟩ := q1
  cases h
  exact ⟨⟨a0, a1⟩, rfl, b0⟩
theorem rd_GNode : Rd Tryz.prog 85 7 (eNode true) Bd_GNode := by
  refine Rd.struct Tryz.underlying85 (by kernel_rfl) (.cons rfl (Rd.int Tryz.underlying3 (by kernel_rfl)) (.cons rfl rd_GConfig (.cons rfl (Rd.slice Tryz.underlying25 (by kernel_rfl) rd_GHealth (by decide) (b := 16) (by kernel_rfl) (by decide)) (.cons rfl (Rd.slice Tryz.underlying83 (by kernel_rfl) rd_GSeen (by decide) (b := 40) (by kernel_rfl) (by decide)) (.cons rfl (Rd.slice Tryz.underlying26 (by kernel_rfl) rd_GEntry (by decide) (b := 72) (by kernel_rfl) (by decide)) (.cons rfl (Rd.int Tryz.underlying3 (by kernel_rfl)) (.nil))))))) ?_ (fun ds ⟨a, h, _⟩ => by rw [h]; rfl)
  intro dss h
  cases h with
  | cons q0 h =>
  obtain ⟨a0, rfl, b0⟩ := q0
  cases h with
  | cons q1 h =>
  obtain ⟨a1, rfl, b1⟩ := q1
  cases h with
  | cons q2 h =>
  obtain ⟨a2, rfl, b2⟩ := q2
  cases h with
  | cons q3 h =>
  obtain ⟨a3, rfl, b3⟩ := q3
  cases h with
  | cons q4 h =>
  obtain ⟨a4, rfl, b4⟩ := q4
  cases h with
  | cons q5 h =>
  obtain ⟨a5, rfl, b5⟩ := q5
  cases h
  exact ⟨⟨a0, a1, a2, a3, a4, a5⟩, rfl, ⟨b1, b2.1, b2.2, b3.1, b3.2, b4.1, b4.2⟩⟩
end Go.Proofs.YtmhlgpdoedbedaaGreat.Lf
