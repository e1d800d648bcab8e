import Derived.Test.YthhlflmjikdgcaaAll
set_option linter.unusedVariables false
set_option linter.unusedSimpArgs false
namespace Go.Proofs.Ythhlflmjikdgcaa.Lf
open Go Go.Proofs.Ythhlflmjikdgcaa.Sv
def Bd_GCandidate (x : GCandidate) : Prop := True
end Go.Proofs.Ythhlflmjikdgcaa.Lf
