/- Plain laws: SiteForms. -/
import Derived.Test.YtmhlgpdoedbedaaGreatS4
namespace Go.Proofs.YtmhlgpdoedbedaaGreat.Pu
set_option linter.unusedSimpArgs false
set_option linter.unusedVariables false
open Go Go.RowKit Go.Proofs.YtmhlgpdoedbedaaGreat.Sv Go.Proofs.YtmhlgpdoedbedaaGreat.Lf
end Go.Proofs.YtmhlgpdoedbedaaGreat.Pu
