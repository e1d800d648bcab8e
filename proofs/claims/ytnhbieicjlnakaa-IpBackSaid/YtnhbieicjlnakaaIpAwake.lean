import Derived.Test.YtnhbieicjlnakaaNet3
import Derived.Test.YtnhbieicjlnakaaFAWharfagelaw2Awake
namespace Go.Proofs.Ytnhbieicjlnakaa.Pure
set_option linter.unusedSimpArgs false
set_option linter.unusedVariables false
open Go Go.RowKit Go.Proofs.Ytnhbieicjlnakaa.PA Go.Proofs.YtnhbieicjlnakaaW.PrintWords Go.Proofs.YtnhbieicjlnakaaW.PrintLast Go.Proofs.YtnhbieicjlnakaaW.PrintMore Go.Proofs.Ytnhbieicjlnakaa.Wh
theorem awakeI : wharfagelaw2_awake.f 700 = some true := by decide +kernel
theorem toList_iff (a b : ByteArray) : a.toList = b.toList ↔ a = b := by
  rw [ByteArray.toList_eq, ByteArray.toList_eq]
  exact ⟨fun h => ext_list h, fun h => by rw [h]⟩
theorem toList_beq (a b : ByteArray) : (a.toList == b.toList) = decide (a = b) := by
  rw [Bool.eq_iff_iff, beq_iff_eq, toList_iff, decide_eq_true_iff]
theorem empty_toList : (⟨#[]⟩ : ByteArray).toList = [] := by decide +kernel
theorem num0 (x : Int) : wharfagelaw0_Num.f x = some x := rfl
theorem beq_refl' (a : ByteArray) : (a.toList == a.toList) = true := by rw [beq_iff_eq]
end Go.Proofs.Ytnhbieicjlnakaa.Pure
