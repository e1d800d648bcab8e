/- Every error, limit and kind of the program has the document's number. -/
import Derived.Test.YtdpkfpbdadloaaaPWharfageNamesx1
import Derived.Test.YtdpkfpbdadloaaaBase
namespace Go.Proofs.Ytdpkfpbdadloaaa.Pure
open Go.RowKit Go.Proofs.Ytdpkfpbdadloaaa.PWharfageNames Go.Proofs.YtdpkfpbdadloaaaW.PrintWords Go.Proofs.YtdpkfpbdadloaaaW.PrintLast Go.Proofs.Ytdpkfpbdadloaaa.Wh

theorem WharfageNames : wharfagelaw0_WharfageNames.Pure := by
  show wharfagelaw0_WharfageNames.f = some true
  decide +kernel

end Go.Proofs.Ytdpkfpbdadloaaa.Pure
