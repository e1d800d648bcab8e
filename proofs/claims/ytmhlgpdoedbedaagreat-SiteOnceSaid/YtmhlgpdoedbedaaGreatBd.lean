import Derived.Test.YtmhlgpdoedbedaaGreatAll
set_option linter.unusedVariables false
set_option linter.unusedSimpArgs false
namespace Go.Proofs.YtmhlgpdoedbedaaGreat.Lf
open Go Go.Proofs.YtmhlgpdoedbedaaGreat.Sv
def Bd_GBack (x : GBack) : Prop := True
def Bd_GSite (x : GSite) : Prop := x.Backs.length ≤ 140737488355328 ∧ (∀ y ∈ x.Backs, Bd_GBack y)
def Bd_GConfig (x : GConfig) : Prop := x.Sites.length ≤ 140737488355328 ∧ (∀ y ∈ x.Sites, Bd_GSite y)
def Bd_GHealth (x : GHealth) : Prop := True
def Bd_GFlow (x : GFlow) : Prop := True
def Bd_GEntry (x : GEntry) : Prop := Bd_GFlow x.Flow
def Bd_GReport (x : GReport) : Prop := True
def Bd_GSeen (x : GSeen) : Prop := Bd_GReport x.Report
def Bd_GNode (x : GNode) : Prop := Bd_GConfig x.Config ∧ x.Health.length ≤ 140737488355328 ∧ (∀ y ∈ x.Health, Bd_GHealth y) ∧ x.Seen.length ≤ 140737488355328 ∧ (∀ y ∈ x.Seen, Bd_GSeen y) ∧ x.Flows.length ≤ 140737488355328 ∧ (∀ y ∈ x.Flows, Bd_GEntry y)
end Go.Proofs.YtmhlgpdoedbedaaGreat.Lf
