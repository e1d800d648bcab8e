import Derived.Test.YtdpkfpbdadloaaaFHWharfagelaw11Healths
import Derived.Test.YtdpkfpbdadloaaaHealth
namespace Go.Proofs.Ytdpkfpbdadloaaa.Pure
open Go Go.RowKit Go.Proofs.Ytdpkfpbdadloaaa.PH Go.Proofs.Ytdpkfpbdadloaaa.Wh
theorem Healths (b : Bool) (c : Int) (g : Bool) (_ : (Lit.int .i64 c).wf = true) : wharfagelaw11_Healths.f b c g = some true := by
  unfold wharfagelaw11_Healths.f
  rw [probe_eq, refProbe_eq, awakeH, newH, may_eq, refMay_eq]
  generalize probe b c g = p
  simp [wharfagelaw0_Num.f]
end Go.Proofs.Ytdpkfpbdadloaaa.Pure
