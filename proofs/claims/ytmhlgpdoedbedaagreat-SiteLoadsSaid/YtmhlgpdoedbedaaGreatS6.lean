/- Plain laws: SiteMarkers. -/
import Derived.Test.YtmhlgpdoedbedaaGreatS5
namespace Go.Proofs.YtmhlgpdoedbedaaGreat.Pu
set_option linter.unusedSimpArgs false
set_option linter.unusedVariables false
open Go Go.RowKit Go.Proofs.YtmhlgpdoedbedaaGreat.Sv Go.Proofs.YtmhlgpdoedbedaaGreat.Lf
def o3 : ByteArray := sayS 3 0 (ByteArray.mk #[107])
def p3 : ByteArray := pushI ⟨167837697, 167903233, 1, 0, 0, o3⟩
end Go.Proofs.YtmhlgpdoedbedaaGreat.Pu
