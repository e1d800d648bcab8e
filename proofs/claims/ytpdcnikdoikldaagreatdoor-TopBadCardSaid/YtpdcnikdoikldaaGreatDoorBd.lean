import Derived.Test.YtpdcnikdoikldaaGreatDoorAll
set_option linter.unusedVariables false
set_option linter.unusedSimpArgs false
namespace Go.Proofs.YtpdcnikdoikldaaGreatDoor.Lf
open Go Go.Proofs.YtpdcnikdoikldaaGreatDoor.Sv
def Yns (x :Y23):Prop:=True
def Ynt (x :Yg):Prop:=x.Backs.length≤140737488355328∧(∀ y∈x.Backs,Yns y)
def Y8m (x :Y7):Prop:=x.Sites.length≤140737488355328∧(∀ y∈x.Sites,Ynt y)
def Yir (x :Y1q):Prop:=x.Text.size≤140737488355328∧Y8m x.Config
end Go.Proofs.YtpdcnikdoikldaaGreatDoor.Lf
