import Derived.Test.YtmhlgpdoedbedaaGreatEP1
set_option linter.unusedVariables false
set_option linter.unusedSimpArgs false
namespace Go.Proofs.YtmhlgpdoedbedaaGreat.Pu
open Go Go.RowKit Go.Proofs.YtmhlgpdoedbedaaGreat.Sv Go.Proofs.YtmhlgpdoedbedaaGreat.Lf
end Go.Proofs.YtmhlgpdoedbedaaGreat.Pu
