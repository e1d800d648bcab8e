/- Plain laws: packets of flows are told again. -/
import Derived.Test.YtmhlgpdoedbedaaGreatEP1
namespace Go.Proofs.YtmhlgpdoedbedaaGreat.Pu
set_option linter.unusedSimpArgs false
set_option linter.unusedVariables false
open Go Go.RowKit Go.Proofs.YtmhlgpdoedbedaaGreat.Sv Go.Proofs.YtmhlgpdoedbedaaGreat.Lf
theorem pack_size {f : GFlow} {flags : Int} {body : ByteArray} (h : okP f flags body) : (packF f flags body).size ≤ 40 + body.size := by
  unfold packF putS textS
  rw [putI_size]
  dsimp only
  split
  · rw [tcpT_size]; unfold segOf; dsimp only; omega
  · rw [udpT_size]; unfold segOf; dsimp only; omega
end Go.Proofs.YtmhlgpdoedbedaaGreat.Pu
