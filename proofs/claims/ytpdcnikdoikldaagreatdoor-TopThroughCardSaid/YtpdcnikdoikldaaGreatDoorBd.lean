import Derived.Test.YtpdcnikdoikldaaGreatDoorAll
set_option linter.unusedVariables false
set_option linter.unusedSimpArgs false
namespace Go.Proofs.YtpdcnikdoikldaaGreatDoor.Lf
open Go Go.Proofs.YtpdcnikdoikldaaGreatDoor.Sv
def Ypn (x :Y2a):Prop:=True
def Ypo (x :Yf):Prop:=x.Backs.length<=140737488355328/\(∀ y∈x.Backs,Ypn y)
def Y9k (x :Y7):Prop:=x.Sites.length<=140737488355328/\(∀ y∈x.Sites,Ypo y)
def Yka (x :Y1o):Prop:=x.Text.size<=140737488355328/\Y9k x.Config
end Go.Proofs.YtpdcnikdoikldaaGreatDoor.Lf
