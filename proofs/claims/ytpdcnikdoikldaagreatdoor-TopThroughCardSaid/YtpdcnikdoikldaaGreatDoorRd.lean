import Derived.Test.YtpdcnikdoikldaaGreatDoorBd
import Derived.Test.YtpdcnikdoikldaaGreatDoorReads
import Derived.KernelRfl
set_option linter.unusedVariables false
set_option linter.unusedSimpArgs false
namespace Go.Proofs.YtpdcnikdoikldaaGreatDoor.Lf
open Go Go.Proofs Go.Proofs.YtpdcnikdoikldaaGreatDoor.Sv
theorem Y13j :Rd Tryz.prog 110 2 Y2b Ypn:=by
 refine Rd.struct Tryz.underlying110 (by kernel_rfl) (.cons rfl (Rd.int Tryz.underlying3 (by kernel_rfl)) (.cons rfl (Rd.bool Tryz.underlying4 (by kernel_rfl)) (.nil))) ?_ (fun ds ⟨a,h,_⟩=>by rw [h];rfl)
 intro dss h
 cases h with
 | cons q0 h=>
 obtain ⟨a0,rfl,b0⟩:=q0
 cases h with
 | cons q1 h=>
 obtain ⟨a1,rfl,b1⟩:=q1
 cases h
 exact ⟨⟨a0,a1⟩,rfl,trivial⟩
theorem Y13k :Rd Tryz.prog 71 4 (Y4 true) Ypo:=by
 refine Rd.struct Tryz.underlying71 (by kernel_rfl) (.cons rfl (Rd.int Tryz.underlying3 (by kernel_rfl)) (.cons rfl (Rd.bool Tryz.underlying4 (by kernel_rfl)) (.cons rfl (Rd.int Tryz.underlying3 (by kernel_rfl)) (.cons rfl (Rd.slice Tryz.underlying69 (by kernel_rfl) Y13j (by decide) (b:=16) (by kernel_rfl) (by decide)) (.nil))))) ?_ (fun ds ⟨a,h,_⟩=>by rw [h];rfl)
 intro dss h
 cases h with
 | cons q0 h=>
 obtain ⟨a0,rfl,b0⟩:=q0
 cases h with
 | cons q1 h=>
 obtain ⟨a1,rfl,b1⟩:=q1
 cases h with
 | cons q2 h=>
 obtain ⟨a2,rfl,b2⟩:=q2
 cases h with
 | cons q3 h=>
 obtain ⟨a3,rfl,b3⟩:=q3
 cases h
 exact ⟨⟨a0,a1,a2,a3⟩,rfl,⟨b3.1,b3.2⟩⟩
theorem rd_GConfig :Rd Tryz.prog 24 2 (Y17h true) Y9k:=by
 refine Rd.struct Tryz.underlying24 (by kernel_rfl) (.cons rfl (Rd.int Tryz.underlying3 (by kernel_rfl)) (.cons rfl (Rd.slice Tryz.underlying22 (by kernel_rfl) Y13k (by decide) (b:=48) (by kernel_rfl) (by decide)) (.nil))) ?_ (fun ds ⟨a,h,_⟩=>by rw [h];rfl)
 intro dss h
 cases h with
 | cons q0 h=>
 obtain ⟨a0,rfl,b0⟩:=q0
 cases h with
 | cons q1 h=>
 obtain ⟨a1,rfl,b1⟩:=q1
 cases h
 exact ⟨⟨a0,a1⟩,rfl,⟨b1.1,b1.2⟩⟩
theorem rd_GAct :Rd Tryz.prog 38 10 (Y7r true) Yka:=by
 refine Rd.struct Tryz.underlying38 (by kernel_rfl) (.cons rfl (Rd.int Tryz.underlying3 (by kernel_rfl)) (.cons rfl (Rd.int Tryz.underlying3 (by kernel_rfl)) (.cons rfl (Rd.int Tryz.underlying3 (by kernel_rfl)) (.cons rfl (Rd.int Tryz.underlying3 (by kernel_rfl)) (.cons rfl (Rd.int Tryz.underlying3 (by kernel_rfl)) (.cons rfl (Rd.int Tryz.underlying3 (by kernel_rfl)) (.cons rfl (Rd.bool Tryz.underlying4 (by kernel_rfl)) (.cons rfl (Rd.str Tryz.underlying9 (by kernel_rfl)) (.cons rfl rd_GConfig (.nil)))))))))) ?_ (fun ds ⟨a,h,_⟩=>by rw [h];rfl)
 intro dss h
 cases h with
 | cons q0 h=>
 obtain ⟨a0,rfl,b0⟩:=q0
 cases h with
 | cons q1 h=>
 obtain ⟨a1,rfl,b1⟩:=q1
 cases h with
 | cons q2 h=>
 obtain ⟨a2,rfl,b2⟩:=q2
 cases h with
 | cons q3 h=>
 obtain ⟨a3,rfl,b3⟩:=q3
 cases h with
 | cons q4 h=>
 obtain ⟨a4,rfl,b4⟩:=q4
 cases h with
 | cons q5 h=>
 obtain ⟨a5,rfl,b5⟩:=q5
 cases h with
 | cons q6 h=>
 obtain ⟨a6,rfl,b6⟩:=q6
 cases h with
 | cons q7 h=>
 obtain ⟨a7,rfl,b7⟩:=q7
 cases h with
 | cons q8 h=>
 obtain ⟨a8,rfl,b8⟩:=q8
 cases h
 exact ⟨⟨a0,a1,a2,a3,a4,a5,a6,a7,a8⟩,rfl,⟨b7,b8⟩⟩
end Go.Proofs.YtpdcnikdoikldaaGreatDoor.Lf
