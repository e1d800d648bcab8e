import Derived.Test.YtpdcnikdoikldaaGreatDoorAll
set_option linter.unusedVariables false
set_option linter.unusedSimpArgs false
namespace Go.Proofs.YtpdcnikdoikldaaGreatDoor.Lf
open Go Go.Proofs.YtpdcnikdoikldaaGreatDoor.Sv
def Yot (x :Y2b):Prop:=True
def You (x :Yf):Prop:=x.Backs.length<=140737488355328/\(∀ y∈x.Backs,Yot y)
def Y91 (x :Y7):Prop:=x.Sites.length<=140737488355328/\(∀ y∈x.Sites,You y)
def Yjj (x :Y1l):Prop:=x.Text.size<=140737488355328/\Y91 x.Config
end Go.Proofs.YtpdcnikdoikldaaGreatDoor.Lf
