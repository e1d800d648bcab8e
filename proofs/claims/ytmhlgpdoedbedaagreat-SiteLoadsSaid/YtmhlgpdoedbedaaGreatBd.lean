/- Bounds of what may be handed in. -/
import Derived.Test.YtmhlgpdoedbedaaGreatAll
namespace Go.Proofs.YtmhlgpdoedbedaaGreat.Lf
open Go Go.Proofs.YtmhlgpdoedbedaaGreat.Sv
set_option linter.unusedVariables false
end Go.Proofs.YtmhlgpdoedbedaaGreat.Lf
