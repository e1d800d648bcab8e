/- They are read so. -/
import Derived.Test.YtmhlgpdoedbedaaGreatBd
import Derived.Test.YtmhlgpdoedbedaaGreatReads
import Derived.KernelRfl
namespace Go.Proofs.YtmhlgpdoedbedaaGreat.Lf
open Go Go.Proofs Go.Proofs.YtmhlgpdoedbedaaGreat.Sv
set_option linter.unusedVariables false
end Go.Proofs.YtmhlgpdoedbedaaGreat.Lf
