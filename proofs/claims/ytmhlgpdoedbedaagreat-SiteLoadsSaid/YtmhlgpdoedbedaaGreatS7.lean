/- Plain laws: SiteSpills. -/
import Derived.Test.YtmhlgpdoedbedaaGreatS6
namespace Go.Proofs.YtmhlgpdoedbedaaGreat.Pu
set_option linter.unusedSimpArgs false
set_option linter.unusedVariables false
open Go Go.RowKit Go.Proofs.YtmhlgpdoedbedaaGreat.Sv Go.Proofs.YtmhlgpdoedbedaaGreat.Lf
theorem say_flags (i : Int) (b : ByteArray) : (segOf (flowI i) (0 % 64) (sayB b)).Flags = 0 := rfl
def r4 : ByteArray := repT ⟨1, 4, 0, 2⟩
def o4 : GOuter := ⟨167903233, 167903232, 4, 0, 0, r4⟩
end Go.Proofs.YtmhlgpdoedbedaaGreat.Pu
